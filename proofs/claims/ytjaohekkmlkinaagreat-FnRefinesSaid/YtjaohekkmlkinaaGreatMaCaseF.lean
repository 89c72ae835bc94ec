/- Contracts: the spec's cases: facts and atoms of a case. -/
import Derived.Test.YtjaohekkmlkinaaGreatMaCaseW
set_option linter.unusedSimpArgs false
set_option linter.unusedVariables false
set_option maxRecDepth 100000
set_option maxHeartbeats 25600000
namespace Go.Proofs.YtjaohekkmlkinaaGreat
section
open Go Go.RowKit Go.Proofs
attribute [local go_sem ↓] Go.wp_at_zero Go.wp_at_succ
theorem ints_cl {w : World} {lo hi b o : Nat} {c : List Int} (h : IntsV w lo hi (some ⟨b, o, none⟩) c) {m : Nat} (hm : m < c.length) : w.cell? ⟨b, o + m, none⟩ = some (.int .i64 (cl c m)) := by
  rw [h.cl hm]; simp [cl, List.getElem?_eq_getElem hm]

--@ spec.l5Fits
theorem fitsS_drop (c : List Int) (fs : List Fct) (k : Nat) (hk : k < fs.length) : fitsS c (fs.drop k) = (!(decide (0 ≤ cl c fs[k].a) && decide (0 ≤ cl c fs[k].b) && !fs[k].fits c) && fitsS c (fs.drop (k + 1))) := by
  unfold fitsS; rw [all_drop _ fs k hk]
theorem c_spec_l5Fits {lo hi lo' hi' : Nat} (A B : Option Addr) (c0 c1 : Nat) (fs : List Fct) (c : List Int) (w : World) (h : FactsV w lo hi A fs) (h' : IntsV w lo' hi' B c) (hc : c.length = 9) (hf : FactsOk fs) :
    Calls Tryz.prog 244 #[.slice A fs.length c0, .slice B c.length c1] w fun e w' => e = .returned (.bool (fitsS c fs)) ∧ w = w' := by
  have hl := h.le;obtain ⟨pb, ob, rfl, lpb⟩ := h'.blt (k := 0) (by omega);have HC := ax hc;have HF := ax hf;have H' := ax h';clear hf h';rw [hc];clear hc;(go_enter Tryz.func244, Tryz.ntmps244);(go_wp2_with fail)
  go_loop [5] (fun i => ∃ k : Nat, k ≤ fs.length ∧ i = .int .i64 k ∧ aJ (fitsS c fs = fitsS c (fs.drop k))) (fun i => fs.length - (intOf i).toNat)
  case atStart => exact ⟨0, Nat.zero_le _, rfl, rfl⟩
  case round =>
    obtain ⟨k, hk, rfl, HA⟩ := hrel;by_cases hlt : k < fs.length
    · obtain ⟨b, off, rfl, hbl⟩ := h.blt hlt
      obtain ⟨g0, g1, g2⟩ := h.cl hlt;have HD := ax (fitsS_drop c fs k hlt);have hfk := HF.o _ (List.getElem_mem hlt);obtain ⟨f, hfe⟩ : ∃ f, f = fs[k] := ⟨_, rfl⟩;rw [← hfe] at g0 g1 g2 HD hfk;clear hfe;obtain ⟨q, fa, fb⟩ := f;dsimp only at g0 g1 g2 hfk;obtain ⟨⟨a1, a2⟩, ⟨b1, b2⟩⟩ := hfk;obtain ⟨fa, rfl⟩ := Int.eq_ofNat_of_zero_le a1;obtain ⟨fb, rfl⟩ := Int.eq_ofNat_of_zero_le b1;have ha9 : (fa : Int) < 9 := by omega
      have hb9 : (fb : Int) < 9 := by omega
      have e1 := ints_cl H'.o (m := fa) (by rw [HC.o]; omega);have e2 := ints_cl H'.o (m := fb) (by rw [HC.o]; omega)
      have HQ : aJ (∀ u v : Int, u = cl c fa → v = cl c fb → fitsS c fs = (!(decide (0 ≤ u) && decide (0 ≤ v) && !((u == v) == q)) && fitsS c (fs.drop (k + 1)))) := by
        intro u v hu hv;rw [HA.o, HD.o, hu, hv]; rfl
      obtain ⟨u, hu⟩ : ∃ u, u = cl c fa := ⟨_, rfl⟩;obtain ⟨v, hv⟩ : ∃ v, v = cl c fb := ⟨_, rfl⟩;have HR := ax (HQ.o u v hu hv);rw [← hu] at e1;rw [← hv] at e2;clear hu hv HQ a1 a2 b1 b2;by_cases hu0 : 0 ≤ u
      · by_cases hv0 : 0 ≤ v
        · have HUV : aJ (∀ t : Bool, (u == v) = t → fitsS c fs = (!(!(t == q)) && fitsS c (fs.drop (k + 1)))) := by
            intro t ht;rw [HR.o, ht, decide_eq_true hu0, decide_eq_true hv0]; rfl
          cases huv : (u == v)
          case' false => have HZ := ax (HUV.o false huv)
          case' true => have HZ := ax (HUV.o true huv)
          all_goals
            cases q
            all_goals
              clear HUV HR;(go_wp2_with fail)
              first
                | (go_ret
                   exact ⟨zjD HZ.o.symm, rfl⟩)
                | (go_round
                   case rel => exact ⟨k + 1, by omega, by go_num, HZ.o⟩
                   case measure => simp [intOf]; omega)
        · have HZ : aJ (fitsS c fs = fitsS c (fs.drop (k + 1))) := by show _ = _; rw [HR.o, decide_eq_false hv0]; simp
          go_wp2_with fail
          go_round
          case rel => exact ⟨k + 1, by omega, by go_num, HZ⟩
          case measure => simp [intOf]; omega
      · have HZ : aJ (fitsS c fs = fitsS c (fs.drop (k + 1))) := by show _ = _; rw [HR.o, decide_eq_false hu0]; simp
        go_wp2_with fail
        go_round
        case rel => exact ⟨k + 1, by omega, by go_num, HZ⟩
        case measure => simp [intOf]; omega
    · obtain rfl : k = fs.length := by omega
      (go_wp2_with fail);go_ret;exact ⟨zjD (by rw [HA.o, List.drop_length]; rfl), rfl⟩

--@ spec.l5Early
theorem earlyF_drop (c : List Int) (seen : List Int) (xs : List Atm) (k : Nat) (hk : k < xs.length) : earlyF c seen (xs.drop k) = if decide (xs[k].kind = 1) && decide (0 ≤ cl c xs[k].a) then !decide (cl c xs[k].a = 0) && !decide (cl c xs[k].a ∈ seen) && earlyF c (seen ++ [cl c xs[k].a]) (xs.drop (k + 1)) else earlyF c seen (xs.drop (k + 1)) := by
  rw [List.drop_eq_getElem_cons hk]; rfl
theorem c_spec_l5Early {lo hi lo' hi' : Nat} (A B : Option Addr) (c0 c1 : Nat) (xs : List Atm) (c : List Int) (w : World) (h : AtomsV w lo hi A xs) (h' : IntsV w lo' hi' B c) (hc : c.length = 9) (hx : AtomsOk xs) (hcl : ∀ x ∈ xs, cl c x.a ≤ 8) :
    Calls Tryz.prog 245 #[.slice A xs.length c0, .slice B c.length c1] w fun e w' => e = .returned (.bool (earlyF c [] xs)) ∧ Below w.heap.size w w' := by
  have hl := h.le;obtain ⟨pb, ob, rfl, lpb⟩ := h'.blt (k := 0) (by omega);have HC := ax hc;have HX := ax hx;have HCL := ax hcl;have H' := ax h';have hmk := mkB9;clear hx h' hcl;rw [hc];clear hc;(go_enter Tryz.func245, Tryz.ntmps245);(go_wp2_with fail);clear hmk
  go_loopw [6] (fun i wr => ∃ (k : Nat) (seen : List Int), k ≤ xs.length ∧ i = .int .i64 k ∧ aJ (earlyF c [] xs = earlyF c seen (xs.drop k)) ∧ Blk wr w.heap.size tB (encB (zj (tset seen))).toArray ∧ Below w.heap.size w wr) (fun i _ => xs.length - (intOf i).toNat)
  case atStart => exact ⟨0, [], Nat.zero_le _, rfl, rfl, by rw [show tset [] = 0 from by unfold tset; rfl]; exact blks, bel⟩
  case round =>
    obtain ⟨k, seen, hk, rfl, HA, k0, hB⟩ := hrel;by_cases hlt : k < xs.length
    · obtain ⟨b, off, rfl, hbl⟩ := h.blt hlt
      obtain ⟨g0, g1, g2⟩ := (h.bz hB).cl hlt;have HD := ax (earlyF_drop c seen xs k hlt);have hxk := HX.o _ (List.getElem_mem hlt);have hck := HCL.o _ (List.getElem_mem hlt);obtain ⟨x, hxe⟩ : ∃ x, x = xs[k] := ⟨_, rfl⟩;rw [← hxe] at g0 g1 g2 HD hxk hck;clear hxe;obtain ⟨q, xa, xb⟩ := x;dsimp only at g0 g1 g2 hxk hck;obtain ⟨⟨a1, a2⟩, -⟩ := hxk;obtain ⟨xa, rfl⟩ := Int.eq_ofNat_of_zero_le a1;have ha9 : (xa : Int) < 9 := by omega
      have e1 := ints_cl (H'.o.bz hB) (m := xa) (by rw [HC.o]; omega);have HR : aJ (earlyF c [] xs = if decide (q = 1) && decide (0 ≤ cl c xa) then !decide (cl c xa = 0) && !decide (cl c xa ∈ seen) && earlyF c (seen ++ [cl c xa]) (xs.drop (k + 1)) else earlyF c seen (xs.drop (k + 1))) := by show _ = _; rw [HA.o, HD.o]
      obtain ⟨u, hu⟩ : ∃ u, u = cl c xa := ⟨_, rfl⟩;rw [← hu] at e1 HR hck;clear hu a1 a2 HD HA;cases hq : (q != 1)
      · have hq1 : q = 1 := by simpa using hq
        by_cases hu0 : 0 ≤ u
        · have HR2 : aJ (earlyF c [] xs = (!decide (u = 0) && !decide (u ∈ seen) && earlyF c (seen ++ [u]) (xs.drop (k + 1)))) := by show _ = _; rw [HR.o, hq1, decide_eq_true hu0]; rfl
          obtain ⟨m, rfl⟩ := Int.eq_ofNat_of_zero_le hu0;have m8 : m ≤ 8 := by omega
          have m8' : (m : Int) < 9 := by omega
          have hst : jq (m : Int) = true := by rw [zjA]; omega
          have hbt : (tset seen).testBit m = decide ((m : Int) ∈ seen) := by
            rw [tset_bit, decide_eq_decide]; exact ⟨fun h => h.2, fun h => ⟨hst, h⟩⟩
          have q3 : wr.cell? ⟨w.heap.size, m, none⟩ = some (.bool (decide ((m : Int) ∈ seen))) := (k0.cell m).trans ((flags_cell _ _ rfl (by omega)).trans (by rw [hbt]));have r3 := k0.frozen;have l3 := k0.lt;clear hst hbt;by_cases hz : (m : Int) = 0
          · have HZ := ax (show earlyF c [] xs = false by rw [HR2.o, decide_eq_true hz]; rfl)
            have hzb : ((m : Int) == 0) = true := by simpa using hz
            clear hq1 hz;(go_wp2_with fail);go_ret;exact ⟨zjD HZ.o.symm, hB⟩
          · have hzb : ((m : Int) == 0) = false := by simpa using hz
            by_cases hs : (m : Int) ∈ seen
            · have HZ := ax (show earlyF c [] xs = false by rw [HR2.o, decide_eq_true hs]; simp)
              rw [decide_eq_true hs] at q3;clear hq1 hz hs;(go_wp2_with fail);go_ret;exact ⟨zjD HZ.o.symm, hB⟩
            · have HZ := ax (show earlyF c [] xs = earlyF c (seen ++ [(m : Int)]) (xs.drop (k + 1)) by rw [HR2.o, decide_eq_false hs, decide_eq_false hz]; simp)
              rw [decide_eq_false hs] at q3;clear hq1 hz hs;(go_wp2_with fail)
              go_round
              case rel =>
                refine ⟨k + 1, seen ++ [(m : Int)], by omega, by go_num, HZ, ?_, bel⟩;rw [tset_snoc, ← tins_flags _ _ m8];exact k0.set_ _ _
              case measure => simp [intOf]; omega
        · have HZ := ax (show earlyF c [] xs = earlyF c seen (xs.drop (k + 1)) by rw [HR.o, decide_eq_false hu0]; simp)
          clear hq1;(go_wp2_with fail)
          go_round
          case rel => exact ⟨k + 1, seen, by omega, by go_num, HZ, k0, hB⟩
          case measure => simp [intOf]; omega
      · have hq1 : ¬ q = 1 := by simpa using hq
        have HZ := ax (show earlyF c [] xs = earlyF c seen (xs.drop (k + 1)) by rw [HR.o, decide_eq_false hq1]; simp);clear hq1;(go_wp2_with fail)
        go_round
        case rel => exact ⟨k + 1, seen, by omega, by go_num, HZ, k0, hB⟩
        case measure => simp [intOf]; omega
    · obtain rfl : k = xs.length := by omega
      (go_wp2_with fail);go_ret;exact ⟨zjD (by rw [HA.o, List.drop_length]; rfl), hB⟩

--@ spec.l5Apart
theorem apartF_at (xs : List Atm) (k : Nat) (hk : k < xs.length) : apartF ((xs.take k).map Atm.a) (xs.drop k) = (!decide (xs[k].a = 0) && !decide (xs[k].a ∈ (xs.take k).map Atm.a) && apartF ((xs.take (k + 1)).map Atm.a) (xs.drop (k + 1))) := by
  rw [List.drop_eq_getElem_cons hk, List.take_succ_eq_append_getElem hk, List.map_append]; rfl
theorem c_spec_l5Apart {lo hi : Nat} (A : Option Addr) (c0 : Nat) (xs : List Atm) (w : World) (h : AtomsV w lo hi A xs) :
    Calls Tryz.prog 246 #[.slice A xs.length c0] w fun e w' => e = .returned (.bool (apartF [] xs)) ∧ Below w.heap.size w w' := by
  have hl := h.le;(go_enter Tryz.func246, Tryz.ntmps246);(go_wp2_with fail)
  go_loopw [3] (fun i wr => ∃ k : Nat, k ≤ xs.length ∧ i = .int .i64 k ∧ aJ (apartF [] xs = apartF ((xs.take k).map Atm.a) (xs.drop k)) ∧ Below w.heap.size w wr) (fun i _ => xs.length - (intOf i).toNat)
  case atStart => exact ⟨0, Nat.zero_le _, rfl, rfl, bel⟩
  case round =>
    obtain ⟨k, hk, rfl, HA, hB⟩ := hrel;by_cases hlt : k < xs.length
    · obtain ⟨b, off, rfl, hbl⟩ := h.blt hlt
      obtain ⟨g0, g1, g2⟩ := (h.bz hB).cl hlt;have HD := ax (apartF_at xs k hlt);by_cases hz : xs[k].a = 0
      · have HZ := ax (show apartF [] xs = false by rw [HA.o, HD.o, decide_eq_true hz]; rfl)
        have hzb : (xs[k].a == 0) = true := by simpa using hz
        clear hz;(go_wp2_with fail);go_ret;exact ⟨zjD HZ.o.symm, hB⟩
      · have hzb : (xs[k].a == 0) = false := by simpa using hz
        have HNZ := ax hz;clear hz;(go_wp2_with fail)
        go_loopw [4] (fun i wr => ∃ j : Nat, j ≤ k ∧ i = .int .i64 j ∧ aJ (∀ n, n < j → ∀ hn : n < xs.length, xs[n].a ≠ xs[k].a) ∧ Below w.heap.size w wr) (fun i _ => k - (intOf i).toNat)
        case atStart => exact ⟨0, Nat.zero_le _, rfl, fun n hn => absurd hn (by omega), hB⟩
        case round =>
          clear hB g0 g1 g2;obtain ⟨j, hj, rfl, HJ, hB⟩ := hrel;by_cases hjl : j < k
          · have hjx : j < xs.length := by omega
            obtain ⟨g0, g1, g2⟩ := (h.bz hB).cl hlt;obtain ⟨e0, e1, e2⟩ := (h.bz hB).cl hjx;cases he : (xs[j].a == xs[k].a)
            all_goals
              have hjx2 : (j : Int) < (xs.length : Int) := by omega
              have hkx2 : (k : Int) < (xs.length : Int) := by omega
              (go_wp2_with fail);(go_quiet (fail));have hBq := below_drewN hB nq;generalize wr.drewN nq = w2 at hBq ⊢;(go_wp2_with fail)
            · go_round
              case rel =>
                refine ⟨j + 1, by omega, by go_num, fun n hn hx => ?_, hBq⟩;by_cases e : n = j
                · subst e; simpa using he
                · exact HJ.o n (by omega) hx
              case measure => simp [intOf]; omega
            · go_ret
              refine ⟨zjD ?_, hBq⟩;have hm : xs[k].a ∈ (xs.take k).map Atm.a := List.mem_map.2 ⟨xs[j], by rw [List.mem_take_iff_getElem]; exact ⟨j, by omega, rfl⟩, by simpa using he⟩;rw [HA.o, HD.o, decide_eq_true hm]; simp
          · obtain rfl : j = k := by omega
            have hm : xs[j].a ∉ (xs.take j).map Atm.a := fun hm => by
              obtain ⟨y, hy, ey⟩ := List.mem_map.1 hm;rw [List.mem_take_iff_getElem] at hy;obtain ⟨n, hn, en⟩ := hy;have hn' : n < j := by omega
              exact HJ.o n hn' (by omega) (by rw [en]; exact ey)
            have HZ := ax (show apartF [] xs = apartF ((xs.take (j + 1)).map Atm.a) (xs.drop (j + 1)) by rw [HA.o, HD.o, decide_eq_false hm, decide_eq_false HNZ.o]; simp);clear hm;(go_wp2_with fail)
            go_round
            case rel => exact ⟨j + 1, by omega, by go_num, HZ, hB⟩
            case measure => simp [intOf]; omega
    · obtain rfl : k = xs.length := by omega
      (go_wp2_with fail);go_ret;exact ⟨zjD (by rw [HA.o, List.drop_length]; rfl), hB⟩
theorem c_spec_l5Filled {lo hi lo' hi':Nat} (A B:Option Addr) (c0 c1:Nat) (xs:List Atm) (c:List Int) (w:World) (h:AtomsV w lo hi A xs) (h':IntsV w lo' hi' B c) (hc:c.length=9) (hx:AtomsOk xs) :
  Calls Tryz.prog 209 #[.slice A xs.length c0,.slice B c.length c1] w fun e w'=>∃ r,e=.returned r∧AtomsO w' w.heap.size r (filledL xs c)∧Below w.heap.size w w':=by
 have hl:=h.le;obtain ⟨pb,ob,rfl,lpb⟩:=h'.blt (k:=0) (by omega);have HC:=ax hc;have HX:=ax hx;have H':=ax h';clear hx h';rw[hc];clear hc;(go_enter Tryz.func209,Tryz.ntmps209);(go_wp2_with fail)
 go_loopw [5,6] (fun r i wr=>∃ (k:Nat) (D:Option Addr) (n e:Nat),k≤xs.length∧i=.int .i64 k∧n=(filledL (xs.take k) c).length∧r=.slice D n e∧AtomsO wr w.heap.size (.slice D n e) (filledL (xs.take k) c)∧Below w.heap.size w wr) (fun _ i _=>xs.length - (intOf i).toNat)
 case atStart=>exact ⟨0,some ⟨w.heap.size,0,none⟩,0,0,Nat.zero_le _,rfl,rfl,rfl,AtomsO.empty w,bel⟩
 case round=>
  obtain ⟨k,D,n,e,hkk,rfl,hn,rfl,of,hB⟩:=hrel;have HN:=ax hn
  have hnl:n≤k:=by
   rw[hn];exact Nat.le_trans (filledL_len _ _) (by simp;omega)
  clear hn;by_cases hlt:k<xs.length
  ·obtain ⟨b,off,rfl,hbl⟩:=h.blt hlt;have HH:=ax h;have HT:=ax (filledL_take xs c k hlt);have hxk:=HX.o _ (List.getElem_mem hlt);obtain ⟨x,hxe⟩:∃ x,x=xs[k]:=⟨_,rfl⟩;have HCL:aJ (∀ w':World,Below w.heap.size w w'→w'.cell? ⟨b,off+k*3,none⟩=some (.int .i64 x.kind)∧w'.cell? ⟨b,off+k*3+1,none⟩=some (.int .i64 x.a)∧w'.cell? ⟨b,off+k*3+2,none⟩=some (.int .i64 x.b)):=fun w' hw'=>by rw[hxe];exact (HH.o.bz hw').cl hlt
   rw[←hxe] at HT hxk;clear hxe;obtain ⟨q,xa,xb⟩:=x;dsimp only at hxk HCL;obtain ⟨⟨a1,a2⟩,⟨b1,b2⟩⟩:=hxk;obtain ⟨xa,rfl⟩:=Int.eq_ofNat_of_zero_le a1;obtain ⟨xb,rfl⟩:=Int.eq_ofNat_of_zero_le b1;have ha9:(xa:Int)<9:=by omega
   have hb9:(xb:Int)<9:=by omega
   have HCI:aJ (∀ w':World,Below w.heap.size w w'→w'.cell? ⟨pb,ob+xa,none⟩=some (.int .i64 (cl c xa))∧w'.cell? ⟨pb,ob+xb,none⟩=some (.int .i64 (cl c xb))):=fun w' hw'=>⟨ints_cl (H'.o.bz hw') (by rw[HC.o];omega),ints_cl (H'.o.bz hw') (by rw[HC.o];omega)⟩;have hwz:=hB.size;have hlx:(k:Int)<(xs.length:Int):=by omega
   clear a1 a2 b1 b2 h;have HS:aJ (∀ w':World,Below w.heap.size w w'→(w'.cell? ⟨b,off+k*3,none⟩=some (.int .i64 q)∧w'.cell? ⟨b,off+k*3+1,none⟩=some (.int .i64 xa)∧w'.cell? ⟨b,off+k*3+2,none⟩=some (.int .i64 xb))∧w'.cell? ⟨pb,ob+xa,none⟩=some (.int .i64 (cl c xa))∧w'.cell? ⟨pb,ob+xb,none⟩=some (.int .i64 (cl c xb))):=fun w' hw'=>⟨HCL.o w' hw',HCI.o w' hw'⟩;(go_wp2_with fail);refine wp_region_noPanic ?_;refine wp_region_held_drew (S:=(fun w'=>(w'.cell? ⟨b,off+k*3,none⟩=some (.int .i64 q)∧w'.cell? ⟨b,off+k*3+1,none⟩=some (.int .i64 xa)∧w'.cell? ⟨b,off+k*3+2,none⟩=some (.int .i64 xb))∧w'.cell? ⟨pb,ob+xa,none⟩=some (.int .i64 (cl c xa))∧w'.cell? ⟨pb,ob+xb,none⟩=some (.int .i64 (cl c xb)))) (by kernel_rfl) (HS.o _ bel) (fun aH=>?_);refine tk2 0 rfl aH (h:=tk2 1 rfl aH (h:=tk2 2 rfl aH (h:=?_)));(try simp only[zz]);refine tk2 3 rfl aH (h:=tk2 4 rfl aH (h:=tk2 5 rfl aH (h:=?_)));(try simp only[zz]);refine tk2 6 rfl aH (h:=tk2 7 rfl aH (h:=tk2 8 rfl aH (h:=?_)));(try simp only[zz]);refine tk2 9 rfl aH (h:=tk2 10 rfl aH (h:=tk2 11 rfl aH (h:=?_)));(try simp only[zz]);refine tk2 12 rfl aH (h:=tk2 13 rfl aH (h:=tk2 14 rfl aH (h:=?_)));(try simp only[zz]);refine tk2 15 rfl aH (h:=tk2 16 rfl aH (h:=tk2 17 rfl aH (h:=?_)));(try simp only[zz]);refine tk2 18 rfl aH (h:=tk2 19 rfl aH (h:=tk2 20 rfl aH (h:=?_)));(try simp only[zz]);refine tk2 21 rfl aH (h:=?_);refine rdc 22 rfl fun K hK=>?_;(try simp only[zz]);go_simp;refine hK.out _ _ (HS.o _ bel) ?_;clear aH hK K;intro aH;refine rdc 23 rfl fun K hK=>?_;(try simp only[zz]);go_simp;refine hK.out _ _ (HS.o _ bel) ?_;clear aH hK K;intro aH;(try simp only[zz]);refine dn1 ?_;clear aH;have kx:Blk (wr.alloc (.cells #[.int .i64 q,.int .i64 (cl c xa),.int .i64 (cl c xb)] tA)).drew wr.heap.size tA #[.int .i64 q,.int .i64 (cl c xa),.int .i64 (cl c xb)]:=blks;have hB2:Below w.heap.size w (wr.alloc (.cells #[.int .i64 q,.int .i64 (cl c xa),.int .i64 (cl c xb)] tA)).drew:=bel;have of2:=of.bz (w':=(wr.alloc (.cells #[.int .i64 q,.int .i64 (cl c xa),.int .i64 (cl c xb)] tA)).drew) bel;have hz2:wr.heap.size<(wr.alloc (.cells #[.int .i64 q,.int .i64 (cl c xa),.int .i64 (cl c xb)] tA)).drew.heap.size:=kx.lt;generalize (wr.alloc (.cells #[.int .i64 q,.int .i64 (cl c xa),.int .i64 (cl c xb)] tA)).drew=W2 at kx hB2 of2 hz2 ⊢
   have HF:aJ (∀ s t:Bool,(q == 1)=s→(cl c xa == cl c xb)=t→filledL (xs.take (k+1)) c=filledL (xs.take k) c++if (s || !t) then [⟨q,cl c xa,cl c xb⟩] else []):=by
    intro s t hs ht;rw[HT.o];have:Atm.fill c ⟨q,xa,xb⟩=(s || !t):=by rw[←hs,←ht];rfl
    rw[this];rfl
   have qx:=kx.cell;obtain ⟨u,hu⟩:∃ u,u=cl c xa:=⟨_,rfl⟩;obtain ⟨v,hv⟩:∃ v,v=cl c xb:=⟨_,rfl⟩;rw[←hu,←hv] at kx qx HF ⊢;clear hu hv HT HS HCI HCL of hB;cases hq:(q == 1)
   ·cases hab:(u == v)
    ·have HZ:aJ (filledL (xs.take (k+1)) c=filledL (xs.take k) c++[⟨q,u,v⟩]):=HF.o _ _ hq hab;(go_wp2_with (at_builtin;refine appAL rfl _ _ rfl (v:=.slice D n e) rfl (of2.bz (w':=W2.alloc (.cells #[.int .i64 q,.int .i64 u,.int .i64 v] tA)) bel) rfl (AtomsV.one' (Blk.newE rfl)) (by simp only[List.length_cons,List.length_nil];rw[←HN.o];omega) (by simp;omega) ?_;intro A' c' w2 of3 hg2 hB3))
     go_round
     case rel=>exact ⟨k+1,A',_,c',by omega,by go_num,rfl,by rw[HZ.o];simp,by rw[HZ.o];exact of3,Below.trans (bbox hB2 _) (hB3.mono (Nat.le_refl _))⟩
     case measure=>simp[intOf];omega
    ·have HZ:aJ (filledL (xs.take (k+1)) c=filledL (xs.take k) c++[]):=HF.o _ _ hq hab;(go_wp2_with fail)
     go_round
     case rel=>exact ⟨k+1,D,n,e,by omega,by go_num,by rw[HZ.o,List.append_nil];exact HN.o,rfl,by rw[HZ.o,List.append_nil];exact of2,hB2⟩
     case measure=>simp[intOf];omega
   ·have HZ:aJ (filledL (xs.take (k+1)) c=filledL (xs.take k) c++[⟨q,u,v⟩]):=HF.o _ _ hq rfl;(go_wp2_with (at_builtin;refine appAL rfl _ _ rfl (v:=.slice D n e) rfl (of2.bz (w':=W2.alloc (.cells #[.int .i64 q,.int .i64 u,.int .i64 v] tA)) bel) rfl (AtomsV.one' (Blk.newE rfl)) (by simp only[List.length_cons,List.length_nil];rw[←HN.o];omega) (by simp;omega) ?_;intro A' c' w2 of3 hg2 hB3))
    go_round
    case rel=>exact ⟨k+1,A',_,c',by omega,by go_num,rfl,by rw[HZ.o];simp,by rw[HZ.o];exact of3,Below.trans (bbox hB2 _) (hB3.mono (Nat.le_refl _))⟩
    case measure=>simp[intOf];omega
  ·obtain rfl:k=xs.length:=by omega
   (go_wp2_with fail);go_ret;refine ⟨_,rfl,?_,hB⟩;rw[List.take_length] at of;exact of
theorem opened_take (n:Nat) (h1:1≤n) (h9:n<9):opened.take (n+1)=opened.take n++[-1]:=by
 obtain rfl|rfl|rfl|rfl|rfl|rfl|rfl|rfl:n=1∨n=2∨n=3∨n=4∨n=5∨n=6∨n=7∨n=8:=by omega
 all_goals rfl
theorem c_spec_l5Open (w:World) :
  Calls Tryz.prog 200 #[] w fun e w'=>∃ r,e=.returned r∧IntsO w' w.heap.size r opened∧Below w.heap.size w w':=by
 (go_enter Tryz.func200,Tryz.ntmps200);(go_wp2_with fail)
 go_loopw [1] (fun r wr=>∃ (n:Nat) (D:Option Addr) (e:Nat),1≤n∧n≤9∧r=.slice D n e∧IntsO wr w.heap.size (.slice D n e) (opened.take n)∧Below w.heap.size w wr) (fun r _=>match r with | .slice _ n _=>9 - n|_=>0)
 case atStart=>exact ⟨1,some ⟨w.heap.size,0,none⟩,1,by omega,by omega,rfl,IntsO.one w 0 (Nat.le_refl _),bel⟩
 case round=>
  obtain ⟨n,D,e,h1,h9,rfl,o,hB⟩:=hrel;have hwz:=hB.size;by_cases hlt:n<9
  ·have hn8:(n:Int)≤8:=by omega
   have HT:=ax (opened_take n h1 hlt);have hll:aJ ((opened.take n).length=n):=by show _=_;rw[List.length_take];show min n 9=n;omega
   have o1:=o.bz (w':=wr.alloc (.cells #[.int .i64 (-1)] tI)) bel;(go_wp2_with (at_builtin;refine appI rfl _ _ rfl (v:=.slice D n e) rfl o1 wr.heap.size (-1) rfl (cell_box _ _ _) (by rw[hll.o];omega) (by simp;omega) ?_;intro g cc w2 o2 hg2 hB3;rw[hll.o,←HT.o] at o2;rw[hll.o]))
   go_round
   case rel=>exact ⟨n+1,_,_,by omega,by omega,rfl,o2,Below.trans bel hB3⟩
   case measure=>simp;omega
  ·obtain rfl:n=9:=by omega
   (go_wp2_with fail);go_ret;exact ⟨_,rfl,o,hB⟩
end
end Go.Proofs.YtjaohekkmlkinaaGreat
