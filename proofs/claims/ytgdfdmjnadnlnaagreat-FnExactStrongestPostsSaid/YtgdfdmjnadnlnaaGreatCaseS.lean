/- Contracts: the spec's cases: facts and atoms of a case. -/
import Derived.Test.YtgdfdmjnadnlnaaGreatCaseW
set_option linter.unusedSimpArgs false
set_option linter.unusedVariables false
set_option maxRecDepth 100000
set_option maxHeartbeats 25600000
namespace Go.Proofs.YtgdfdmjnadnlnaaGreat
section
open Go Go.RowKit Go.Proofs
attribute [local go_sem ↓] Go.wp_at_zero Go.wp_at_succ
theorem ints_cl {w : World} {lo hi b o : Nat} {c : List Int} (h : IntsV w lo hi (some ⟨b, o, none⟩) c) {m : Nat} (hm : m < c.length) : w.cell? ⟨b, o + m, none⟩ = some (.int .i64 (cl c m)) := by
  rw [h.cl hm]; simp [cl, List.getElem?_eq_getElem hm]

--@ spec.l5Fits
theorem fitsS_drop (c : List Int) (fs : List Fct) (k : Nat) (hk : k < fs.length) : fitsS c (fs.drop k) = (!(decide (0 ≤ cl c fs[k].a) && decide (0 ≤ cl c fs[k].b) && !fs[k].fits c) && fitsS c (fs.drop (k + 1))) := by
  unfold fitsS; rw [all_drop _ fs k hk]
theorem c_spec_l5Fits {lo hi lo' hi' : Nat} (A B : Option Addr) (c0 c1 : Nat) (fs : List Fct) (c : List Int) (w : World) (h : FactsV w lo hi A fs) (h' : IntsV w lo' hi' B c) (hc : c.length = 9) (hf : FactsOk fs) :
    Calls Tryz.prog 241 #[.slice A fs.length c0, .slice B c.length c1] w fun e w' => e = .returned (.bool (fitsS c fs)) ∧ w = w' := by
  have hl := h.le;obtain ⟨pb, ob, rfl, lpb⟩ := h'.blt (k := 0) (by omega);have HC := ax hc;have HF := ax hf;have H' := ax h';clear hf h';rw [hc];clear hc;(go_enter Tryz.func241, Tryz.ntmps241);(go_wp2_with fail)
  go_loop [5] (fun i => ∃ k : Nat, k ≤ fs.length ∧ i = .int .i64 k ∧ aJ (fitsS c fs = fitsS c (fs.drop k))) (fun i => fs.length - (intOf i).toNat)
  case atStart => exact ⟨0, Nat.zero_le _, rfl, rfl⟩
  case round =>
    obtain ⟨k, hk, rfl, HA⟩ := hrel;by_cases hlt : k < fs.length
    · obtain ⟨b, off, rfl, hbl⟩ := h.blt hlt
      obtain ⟨g0, g1, g2⟩ := h.cl hlt;have HD := ax (fitsS_drop c fs k hlt);have hfk := HF.o _ (List.getElem_mem hlt);obtain ⟨f, hfe⟩ : ∃ f, f = fs[k] := ⟨_, rfl⟩;rw [← hfe] at g0 g1 g2 HD hfk;clear hfe;obtain ⟨q, fa, fb⟩ := f;dsimp only at g0 g1 g2 hfk;obtain ⟨⟨a1, a2⟩, ⟨b1, b2⟩⟩ := hfk;obtain ⟨fa, rfl⟩ := Int.eq_ofNat_of_zero_le a1;obtain ⟨fb, rfl⟩ := Int.eq_ofNat_of_zero_le b1;have ha9 : (fa : Int) < 9 := by omega
      have hb9 : (fb : Int) < 9 := by omega
      have e1 := ints_cl H'.o (m := fa) (by rw [HC.o]; omega);have e2 := ints_cl H'.o (m := fb) (by rw [HC.o]; omega)
      have HQ : aJ (∀ u v : Int, u = cl c fa → v = cl c fb → fitsS c fs = (!(decide (0 ≤ u) && decide (0 ≤ v) && !((u == v) == q)) && fitsS c (fs.drop (k + 1)))) := by
        intro u v hu hv;rw [HA.o, HD.o, hu, hv]; rfl
      obtain ⟨u, hu⟩ : ∃ u, u = cl c fa := ⟨_, rfl⟩;obtain ⟨v, hv⟩ : ∃ v, v = cl c fb := ⟨_, rfl⟩;have HR := ax (HQ.o u v hu hv);rw [← hu] at e1;rw [← hv] at e2;clear hu hv HQ a1 a2 b1 b2;by_cases hu0 : 0 ≤ u
      · by_cases hv0 : 0 ≤ v
        · have HUV : aJ (∀ t : Bool, (u == v) = t → fitsS c fs = (!(!(t == q)) && fitsS c (fs.drop (k + 1)))) := by
            intro t ht;rw [HR.o, ht, decide_eq_true hu0, decide_eq_true hv0]; rfl
          cases huv : (u == v)
          case' false => have HZ := ax (HUV.o false huv)
          case' true => have HZ := ax (HUV.o true huv)
          all_goals
            cases q
            all_goals
              clear HUV HR;(go_wp2_with fail)
              first
                | (go_ret
                   exact ⟨ret_bool HZ.o.symm, rfl⟩)
                | (go_round
                   case rel => exact ⟨k + 1, by omega, by go_num, HZ.o⟩
                   case measure => simp [intOf]; omega)
        · have HZ : aJ (fitsS c fs = fitsS c (fs.drop (k + 1))) := by show _ = _; rw [HR.o, decide_eq_false hv0]; simp
          go_wp2_with fail
          go_round
          case rel => exact ⟨k + 1, by omega, by go_num, HZ⟩
          case measure => simp [intOf]; omega
      · have HZ : aJ (fitsS c fs = fitsS c (fs.drop (k + 1))) := by show _ = _; rw [HR.o, decide_eq_false hu0]; simp
        go_wp2_with fail
        go_round
        case rel => exact ⟨k + 1, by omega, by go_num, HZ⟩
        case measure => simp [intOf]; omega
    · obtain rfl : k = fs.length := by omega
      (go_wp2_with fail);go_ret;exact ⟨ret_bool (by rw [HA.o, List.drop_length]; rfl), rfl⟩

--@ spec.l5Early
theorem earlyF_drop (c : List Int) (seen : List Int) (xs : List Atm) (k : Nat) (hk : k < xs.length) : earlyF c seen (xs.drop k) = if decide (xs[k].kind = 1) && decide (0 ≤ cl c xs[k].a) then !decide (cl c xs[k].a = 0) && !decide (cl c xs[k].a ∈ seen) && earlyF c (seen ++ [cl c xs[k].a]) (xs.drop (k + 1)) else earlyF c seen (xs.drop (k + 1)) := by
  rw [List.drop_eq_getElem_cons hk]; rfl
theorem c_spec_l5Early {lo hi lo' hi' : Nat} (A B : Option Addr) (c0 c1 : Nat) (xs : List Atm) (c : List Int) (w : World) (h : AtomsV w lo hi A xs) (h' : IntsV w lo' hi' B c) (hc : c.length = 9) (hx : AtomsOk xs) (hcl : ∀ x ∈ xs, cl c x.a ≤ 8) :
    Calls Tryz.prog 242 #[.slice A xs.length c0, .slice B c.length c1] w fun e w' => e = .returned (.bool (earlyF c [] xs)) ∧ Below w.heap.size w w' := by
  have hl := h.le;obtain ⟨pb, ob, rfl, lpb⟩ := h'.blt (k := 0) (by omega);have HC := ax hc;have HX := ax hx;have HCL := ax hcl;have H' := ax h';have hmk := mkB9;clear hx h' hcl;rw [hc];clear hc;(go_enter Tryz.func242, Tryz.ntmps242);(go_wp2_with fail);clear hmk
  go_loopw [6] (fun i wr => ∃ (k : Nat) (seen : List Int), k ≤ xs.length ∧ i = .int .i64 k ∧ aJ (earlyF c [] xs = earlyF c seen (xs.drop k)) ∧ Blk wr w.heap.size tB (encB (flagsOf (tset seen))).toArray ∧ Below w.heap.size w wr) (fun i _ => xs.length - (intOf i).toNat)
  case atStart => exact ⟨0, [], Nat.zero_le _, rfl, rfl, by rw [show tset [] = 0 from by unfold tset; rfl]; exact blks, bel⟩
  case round =>
    obtain ⟨k, seen, hk, rfl, HA, k0, hB⟩ := hrel;by_cases hlt : k < xs.length
    · obtain ⟨b, off, rfl, hbl⟩ := h.blt hlt
      obtain ⟨g0, g1, g2⟩ := (h.bz hB).cl hlt;have HD := ax (earlyF_drop c seen xs k hlt);have hxk := HX.o _ (List.getElem_mem hlt);have hck := HCL.o _ (List.getElem_mem hlt);obtain ⟨x, hxe⟩ : ∃ x, x = xs[k] := ⟨_, rfl⟩;rw [← hxe] at g0 g1 g2 HD hxk hck;clear hxe;obtain ⟨q, xa, xb⟩ := x;dsimp only at g0 g1 g2 hxk hck;obtain ⟨⟨a1, a2⟩, -⟩ := hxk;obtain ⟨xa, rfl⟩ := Int.eq_ofNat_of_zero_le a1;have ha9 : (xa : Int) < 9 := by omega
      have e1 := ints_cl (H'.o.bz hB) (m := xa) (by rw [HC.o]; omega);have HR : aJ (earlyF c [] xs = if decide (q = 1) && decide (0 ≤ cl c xa) then !decide (cl c xa = 0) && !decide (cl c xa ∈ seen) && earlyF c (seen ++ [cl c xa]) (xs.drop (k + 1)) else earlyF c seen (xs.drop (k + 1))) := by show _ = _; rw [HA.o, HD.o]
      obtain ⟨u, hu⟩ : ∃ u, u = cl c xa := ⟨_, rfl⟩;rw [← hu] at e1 HR hck;clear hu a1 a2 HD HA;cases hq : (q != 1)
      · have hq1 : q = 1 := by simpa using hq
        by_cases hu0 : 0 ≤ u
        · have HR2 : aJ (earlyF c [] xs = (!decide (u = 0) && !decide (u ∈ seen) && earlyF c (seen ++ [u]) (xs.drop (k + 1)))) := by show _ = _; rw [HR.o, hq1, decide_eq_true hu0]; rfl
          obtain ⟨m, rfl⟩ := Int.eq_ofNat_of_zero_le hu0;have m8 : m ≤ 8 := by omega
          have m8' : (m : Int) < 9 := by omega
          have hst : isTermB (m : Int) = true := by rw [isTermB_iff]; omega
          have hbt : (tset seen).testBit m = decide ((m : Int) ∈ seen) := by
            rw [tset_bit, decide_eq_decide]; exact ⟨fun h => h.2, fun h => ⟨hst, h⟩⟩
          have q3 : wr.cell? ⟨w.heap.size, m, none⟩ = some (.bool (decide ((m : Int) ∈ seen))) := (k0.cell m).trans ((flags_cell _ _ rfl (by omega)).trans (by rw [hbt]));have r3 := k0.frozen;have l3 := k0.lt;clear hst hbt;by_cases hz : (m : Int) = 0
          · have HZ := ax (show earlyF c [] xs = false by rw [HR2.o, decide_eq_true hz]; rfl)
            have hzb : ((m : Int) == 0) = true := by simpa using hz
            clear hq1 hz;(go_wp2_with fail);go_ret;exact ⟨ret_bool HZ.o.symm, hB⟩
          · have hzb : ((m : Int) == 0) = false := by simpa using hz
            by_cases hs : (m : Int) ∈ seen
            · have HZ := ax (show earlyF c [] xs = false by rw [HR2.o, decide_eq_true hs]; simp)
              rw [decide_eq_true hs] at q3;clear hq1 hz hs;(go_wp2_with fail);go_ret;exact ⟨ret_bool HZ.o.symm, hB⟩
            · have HZ := ax (show earlyF c [] xs = earlyF c (seen ++ [(m : Int)]) (xs.drop (k + 1)) by rw [HR2.o, decide_eq_false hs, decide_eq_false hz]; simp)
              rw [decide_eq_false hs] at q3;clear hq1 hz hs;(go_wp2_with fail)
              go_round
              case rel =>
                refine ⟨k + 1, seen ++ [(m : Int)], by omega, by go_num, HZ, ?_, bel⟩;rw [tset_snoc, ← tins_flags _ _ m8];exact k0.set_ _ _
              case measure => simp [intOf]; omega
        · have HZ := ax (show earlyF c [] xs = earlyF c seen (xs.drop (k + 1)) by rw [HR.o, decide_eq_false hu0]; simp)
          clear hq1;(go_wp2_with fail)
          go_round
          case rel => exact ⟨k + 1, seen, by omega, by go_num, HZ, k0, hB⟩
          case measure => simp [intOf]; omega
      · have hq1 : ¬ q = 1 := by simpa using hq
        have HZ := ax (show earlyF c [] xs = earlyF c seen (xs.drop (k + 1)) by rw [HR.o, decide_eq_false hq1]; simp);clear hq1;(go_wp2_with fail)
        go_round
        case rel => exact ⟨k + 1, seen, by omega, by go_num, HZ, k0, hB⟩
        case measure => simp [intOf]; omega
    · obtain rfl : k = xs.length := by omega
      (go_wp2_with fail);go_ret;exact ⟨ret_bool (by rw [HA.o, List.drop_length]; rfl), hB⟩

--@ spec.l5Apart
theorem apartF_at (xs : List Atm) (k : Nat) (hk : k < xs.length) : apartF ((xs.take k).map Atm.a) (xs.drop k) = (!decide (xs[k].a = 0) && !decide (xs[k].a ∈ (xs.take k).map Atm.a) && apartF ((xs.take (k + 1)).map Atm.a) (xs.drop (k + 1))) := by
  rw [List.drop_eq_getElem_cons hk, List.take_succ_eq_append_getElem hk, List.map_append]; rfl
theorem c_spec_l5Apart {lo hi : Nat} (A : Option Addr) (c0 : Nat) (xs : List Atm) (w : World) (h : AtomsV w lo hi A xs) :
    Calls Tryz.prog 243 #[.slice A xs.length c0] w fun e w' => e = .returned (.bool (apartF [] xs)) ∧ Below w.heap.size w w' := by
  have hl := h.le;(go_enter Tryz.func243, Tryz.ntmps243);(go_wp2_with fail)
  go_loopw [3] (fun i wr => ∃ k : Nat, k ≤ xs.length ∧ i = .int .i64 k ∧ aJ (apartF [] xs = apartF ((xs.take k).map Atm.a) (xs.drop k)) ∧ Below w.heap.size w wr) (fun i _ => xs.length - (intOf i).toNat)
  case atStart => exact ⟨0, Nat.zero_le _, rfl, rfl, bel⟩
  case round =>
    obtain ⟨k, hk, rfl, HA, hB⟩ := hrel;by_cases hlt : k < xs.length
    · obtain ⟨b, off, rfl, hbl⟩ := h.blt hlt
      obtain ⟨g0, g1, g2⟩ := (h.bz hB).cl hlt;have HD := ax (apartF_at xs k hlt);by_cases hz : xs[k].a = 0
      · have HZ := ax (show apartF [] xs = false by rw [HA.o, HD.o, decide_eq_true hz]; rfl)
        have hzb : (xs[k].a == 0) = true := by simpa using hz
        clear hz;(go_wp2_with fail);go_ret;exact ⟨ret_bool HZ.o.symm, hB⟩
      · have hzb : (xs[k].a == 0) = false := by simpa using hz
        have HNZ := ax hz;clear hz;(go_wp2_with fail)
        go_loopw [4] (fun i wr => ∃ j : Nat, j ≤ k ∧ i = .int .i64 j ∧ aJ (∀ n, n < j → ∀ hn : n < xs.length, xs[n].a ≠ xs[k].a) ∧ Below w.heap.size w wr) (fun i _ => k - (intOf i).toNat)
        case atStart => exact ⟨0, Nat.zero_le _, rfl, fun n hn => absurd hn (by omega), hB⟩
        case round =>
          clear hB g0 g1 g2;obtain ⟨j, hj, rfl, HJ, hB⟩ := hrel;by_cases hjl : j < k
          · have hjx : j < xs.length := by omega
            obtain ⟨g0, g1, g2⟩ := (h.bz hB).cl hlt;obtain ⟨e0, e1, e2⟩ := (h.bz hB).cl hjx;cases he : (xs[j].a == xs[k].a)
            all_goals
              have hjx2 : (j : Int) < (xs.length : Int) := by omega
              have hkx2 : (k : Int) < (xs.length : Int) := by omega
              (go_wp2_with fail);(go_quiet (fail));have hBq := below_drewN hB nq;generalize wr.drewN nq = w2 at hBq ⊢;(go_wp2_with fail)
            · go_round
              case rel =>
                refine ⟨j + 1, by omega, by go_num, fun n hn hx => ?_, hBq⟩;by_cases e : n = j
                · subst e; simpa using he
                · exact HJ.o n (by omega) hx
              case measure => simp [intOf]; omega
            · go_ret
              refine ⟨ret_bool ?_, hBq⟩;have hm : xs[k].a ∈ (xs.take k).map Atm.a := List.mem_map.2 ⟨xs[j], by rw [List.mem_take_iff_getElem]; exact ⟨j, by omega, rfl⟩, by simpa using he⟩;rw [HA.o, HD.o, decide_eq_true hm]; simp
          · obtain rfl : j = k := by omega
            have hm : xs[j].a ∉ (xs.take j).map Atm.a := fun hm => by
              obtain ⟨y, hy, ey⟩ := List.mem_map.1 hm;rw [List.mem_take_iff_getElem] at hy;obtain ⟨n, hn, en⟩ := hy;have hn' : n < j := by omega
              exact HJ.o n hn' (by omega) (by rw [en]; exact ey)
            have HZ := ax (show apartF [] xs = apartF ((xs.take (j + 1)).map Atm.a) (xs.drop (j + 1)) by rw [HA.o, HD.o, decide_eq_false hm, decide_eq_false HNZ.o]; simp);clear hm;(go_wp2_with fail)
            go_round
            case rel => exact ⟨j + 1, by omega, by go_num, HZ, hB⟩
            case measure => simp [intOf]; omega
    · obtain rfl : k = xs.length := by omega
      (go_wp2_with fail);go_ret;exact ⟨ret_bool (by rw [HA.o, List.drop_length]; rfl), hB⟩
end
end Go.Proofs.YtgdfdmjnadnlnaaGreat
