/- Contracts: impl's changes of cells. -/
import Derived.Test.YteogcababfenfaaGreatMCells
import Derived.Test.YteogcababfenfaaGreatMParts
set_option linter.unusedSimpArgs false
set_option linter.unusedVariables false
namespace Go.Proofs.YteogcababfenfaaGreat
open Go Go.RowKit Go.Proofs

end Go.Proofs.YteogcababfenfaaGreat

/- Contracts: impl's states with some cells alone. -/
namespace Go.Proofs.YteogcababfenfaaGreat
open Go Go.RowKit Go.Proofs

--@ impl.stateWith
/-- the cells up to k that are not in S are gone -/
def maskH (h : List Int) (S k : Nat) : List Int := h.mapIdx fun i v => if i < k ∧ S.testBit (i + 1) = false then -1 else v
theorem maskH_zero (h : List Int) (S : Nat) : maskH h S 0 = h := by
  apply List.ext_getElem?
  intro i
  simp [maskH, List.getElem?_mapIdx]
theorem maskH_len (h : List Int) (S k : Nat) : (maskH h S k).length = h.length := by simp [maskH]
theorem maskH_keep {h : List Int} {S k : Nat} (hb : S.testBit (k + 1) = true) : maskH h S (k + 1) = maskH h S k := by
  apply List.ext_getElem?
  intro i
  simp only [maskH, List.getElem?_mapIdx]
  congr 1
  funext v
  by_cases e : i = k
  · subst e; rw [hb]; simp
  · by_cases h1 : i < k
    · simp [h1, show i < k + 1 from by omega]
    · simp [h1, show ¬ i < k + 1 from by omega]
theorem maskH_drop {h : List Int} {S k : Nat} (hb : S.testBit (k + 1) = false) (hk : k < h.length) : maskH h S (k + 1) = (maskH h S k).set k (-1) := by
  apply List.ext_getElem?
  intro i
  rw [List.getElem?_set, maskH_len]
  by_cases e : k = i
  · subst e
    rw [if_pos rfl, if_pos hk]
    simp only [maskH, List.getElem?_mapIdx]
    rw [List.getElem?_eq_getElem hk]
    simp [hb]
  · rw [if_neg e]
    simp only [maskH, List.getElem?_mapIdx]
    congr 1
    funext v
    by_cases h1 : i < k
    · simp [h1, show i < k + 1 from by omega]
    · simp [h1, show ¬ i < k + 1 from by omega]
theorem maskH_all {h : List Int} {S : Nat} (hl : h.length = 8) : maskH h S 8 = keepH h (fun x => S.testBit x.toNat) := by
  apply List.ext_getElem?
  intro i
  by_cases hi : i < 8
  · simp only [maskH, keepH, List.getElem?_mapIdx, List.getElem?_map]
    rw [List.getElem?_eq_getElem (by omega), List.getElem?_range' (by omega)]
    have e1 : ((1 + 1 * i : Nat) : Int).toNat = i + 1 := by omega
    have e2 : cont h ((1 + 1 * i : Nat) : Int) = h[i] := by
      unfold cont
      rw [if_pos (by simp only [addrB, decide_eq_true_eq]; omega), show (((1 + 1 * i : Nat) : Int) - 1).toNat = i from by omega, List.getElem?_eq_getElem (by omega)]
      rfl
    simp only [Option.map_some, e1, e2, hi, true_and]
    cases S.testBit (i + 1) <;> simp
  · rw [List.getElem?_eq_none (by rw [maskH_len]; omega), List.getElem?_eq_none (by simp [keepH]; omega)]
set_option maxRecDepth 100000 in
set_option maxHeartbeats 1600000 in
theorem c_impl_stateWith {lo hi : Nat} (v : Value) (s : Ste) (S : Nat) (w : World) (h : StateV w lo hi v s) (hs : s.valid = true) (hS : S < 65536) :
    Calls Tryz.prog 49 #[v, .int .u16 S] w fun e w' => ∃ r, e = .returned r ∧ StateO w' w.heap.size r (keepS s fun x => S.testBit x.toNat) ∧ Below w.heap.size w w' := by
  have hV := Lib.hid h
  obtain ⟨A1, c1, A2, c2, rfl, -, -⟩ := h
  have H8 := Lib.hid (Ste.valid_len hs).2
  have HS := Lib.hid hS
  clear hs hS
  go_enter Tryz.func49, Tryz.ntmps49
  obtain ⟨k0, k1⟩ := blk2 w tSt tSt #[.slice A1 s.values.length c1, .slice A2 s.heap.length c2] #[.slice none 0 0, .slice none 0 0]
  go_wp2_with fail
  refine (c_impl_copyState _ s _ (hV.out.below bel)).mono ?_
  rintro e w1 ⟨r, rfl, o, hB1⟩
  have hB := bgo (w := w) bel hB1
  have hz : w.heap.size ≤ (((w.alloc (.cells #[.slice A1 s.values.length c1, .slice A2 s.heap.length c2] tSt)).alloc (.cells #[.slice none 0 0, .slice none 0 0] tSt))).heap.size := by simp; omega
  (replace k1 := k1.next hB1; replace qk1 := k1.cell; replace rk1 := k1.frozen; replace lk1 := k1.lt)
  clear hB1 k0
  obtain ⟨fv, av, rfl, o1, o2, dj⟩ := o
  obtain ⟨F, e1, rfl, -⟩ := o1.reads
  obtain ⟨G, e2, rfl, -⟩ := o2.reads
  have O1 := Lib.hid (o1.lower (base' := w.heap.size) hz)
  have O2 := Lib.hid (o2.lower (base' := w.heap.size) hz)
  have HD := Lib.hid dj
  have hzw := hB.size
  have hB2 : Below w.heap.size w (w1.alloc (.cells #[.slice F s.values.length e1, .slice G s.heap.length e2] tSt)) := bbox hB _
  have hBw : Below w1.heap.size w1 (w1.alloc (.cells #[.slice F s.values.length e1, .slice G s.heap.length e2] tSt)) := bbox (Below.refl _ _) _
  have k2 : Blk (w1.alloc (.cells #[.slice F s.values.length e1, .slice G s.heap.length e2] tSt)) w1.heap.size tSt #[.slice F s.values.length e1, .slice G s.heap.length e2] := Blk.new _ _ _
  have P1 := Lib.hid (O1.out.below hBw)
  have P2 := Lib.hid (O2.out.below hBw)
  replace k1 := k1.alloc (.cells #[.slice F s.values.length e1, .slice G s.heap.length e2] tSt)
  have hl1 : w.heap.size + 1 < w1.heap.size := lk1
  clear o1 o2 dj hB O1 O2 hBw hz
  go_wp2_with fail
  go_loopw [6] (fun i wr => ∃ k : Nat, k ≤ 8 ∧ i = .int .i64 ((k : Int) + 1) ∧ Blk wr (w.heap.size + 1) tSt #[.slice none 0 0, .slice none 0 0] ∧ Blk wr w1.heap.size tSt #[.slice F s.values.length e1, .slice G s.heap.length e2] ∧ Hid (IntsO wr w.heap.size (.slice F s.values.length e1) s.values) ∧ Hid (IntsO wr w.heap.size (.slice G s.heap.length e2) (maskH s.heap S k)) ∧ Hid (Below w.heap.size w wr)) (fun i _ => 10 - (intOf i).toNat)
  case atStart => exact ⟨0, by omega, rfl, k1, k2, P1.out, by rw [maskH_zero]; exact P2.out, hB2⟩
  case round =>
    clear k1 k2 hB2 qk1 rk1 lk1 P1 P2
    obtain ⟨k, hk, rfl, k1, k2, HF, HG, HB⟩ := hrel
    (replace qk1 := k1.cell; replace rk1 := k1.frozen; replace lk1 := k1.lt; replace qk2 := k2.cell; replace rk2 := k2.frozen; replace lk2 := k2.lt)
    have hsz := HB.out.size
    by_cases hlt : k < 8
    · have hki : (k : Int) + 1 ≤ 8 := by omega
      have hv : addrB ((k : Int) + 1) = true := by simp only [addrB, decide_eq_true_eq]; omega
      have ht : ((k : Int) + 1).toNat = k + 1 := by omega
      go_wp2_with fail
      refine (c_impl_cellHas S _ _ HS.out).mono ?_
      rintro e w2 ⟨rfl, rfl⟩
      rw [hv, ht]
      clear hv ht
      cases hb : S.testBit (k + 1)
      · have HM := Lib.hid (maskH_drop (h := s.heap) hb (by have := H8.out; omega))
        clear hb
        have hnl : (k : Int) < (s.heap.length : Int) := by have := H8.out; omega
        have HX := Lib.hid (maskH_len s.heap S k)
        obtain ⟨g, cur, -, rfl, hg, kg, hc, hset⟩ := HG.out.cell_ (k := k) (by rw [maskH_len]; have := H8.out; omega)
        have q := kg.cell k
        rw [hc] at q
        obtain ⟨y, hy⟩ : ∃ y, y = (maskH s.heap S k)[k]'(by rw [maskH_len]; have := H8.out; omega) := ⟨_, rfl⟩
        rw [← hy] at q
        have f := kg.frozen k
        have hgl := kg.lt
        have HSET := Lib.hid (hset (-1))
        have hne1 : w.heap.size + 1 ≠ g := k1.ne_ kg (by decide)
        have hne2 : w1.heap.size ≠ g := k2.ne_ kg (by decide)
        have H12 := Lib.hid (And.intro hne1 hne2)
        clear hset hc hy
        go_wp2_with fail
        go_round
        case rel => exact ⟨k + 1, by omega, by go_num, k1.far (p := ⟨g, k, none⟩) H12.out.1 _, k2.far (p := ⟨g, k, none⟩) H12.out.2 _, HF.out.set_ne (q := ⟨g, k, none⟩) (fun e => HD.out g e rfl) _, by rw [HM.out]; exact HSET.out, HB.out.setCell (p := ⟨g, k, none⟩) hg _⟩
        case measure => simp [intOf]; omega
      · have HM := Lib.hid (maskH_keep (h := s.heap) hb)
        clear hb
        go_wp2_with fail
        go_round
        case rel => exact ⟨k + 1, by omega, by go_num, k1, k2, HF.out, by rw [HM.out]; exact HG.out, HB.out⟩
        case measure => simp [intOf]; omega
    · obtain rfl : k = 8 := by omega
      have hne : w1.heap.size ≠ w.heap.size + 1 := by omega
      have HM := Lib.hid (maskH_all (S := S) H8.out)
      go_wp2_with fail
      refine bodyPost_ret (v := .agg #[.slice F s.values.length e1, .slice G s.heap.length e2]) (by simp [results, Tryz.results49, go_sem, qk1]) rfl ⟨_, rfl, ⟨_, _, rfl, ?_, ?_, HD.out⟩, ?_⟩
      · exact (HF.out.setT k1 (by decide) 0 _).setT (k1.set_ 0 _) (by decide) 1 _
      · show IntsO _ _ _ (keepH s.heap fun x => S.testBit x.toNat)
        rw [← HM.out]
        exact (HG.out.setT k1 (by decide) 0 _).setT (k1.set_ 0 _) (by decide) 1 _
      · exact (HB.out.setCell (p := ⟨w.heap.size + 1, 0, none⟩) (by simp only; omega) _).setCell (p := ⟨w.heap.size + 1, 1, none⟩) (by simp only; omega) _
end Go.Proofs.YteogcababfenfaaGreat

/- Contracts: impl's KeepCells and DropCells, for allocated cells that differ. -/
namespace Go.Proofs.YteogcababfenfaaGreat
open Go Go.RowKit Go.Proofs

theorem keepS_congr {s : Ste} {p q : Int → Bool} (h : ∀ x, addrB x = true → p x = q x) : keepS s p = keepS s q := by
  unfold keepS keepH
  congr 1
  apply List.map_congr_left
  intro n hn
  rw [List.mem_range'_1] at hn
  rw [h n (by simp only [addrB, decide_eq_true_eq]; omega)]

--@ impl.chosenCells
theorem cells_nonneg {s : Ste} {cs : List Int} (hc : ∀ c ∈ cs, allocB s.heap c = true) : ∀ c ∈ cs, 1 ≤ c ∧ c ≤ 8 := fun c h => by
  have := (cont_alloc (hc c h)).1
  simpa [addrB] using this
theorem cells_lt {s : Ste} {cs : List Int} (hc : ∀ c ∈ cs, allocB s.heap c = true) (k : Nat) : bitsOf (cs.take k) < 512 := by
  have := bitsOf_lt (l := cs.take k) (k := 9) (fun x hx => by have := cells_nonneg hc x (List.mem_of_mem_take hx); omega)
  simpa using this
theorem cells_new {s : Ste} {cs : List Int} (hc : ∀ c ∈ cs, allocB s.heap c = true) (hn : cs.Nodup) {k : Nat} (hk : k < cs.length) : (bitsOf (cs.take k)).testBit (cs[k]).toNat = false := by
  rw [testBit_bitsOf (fun x hx => by have := cells_nonneg hc x (List.mem_of_mem_take hx); omega), decide_eq_false_iff_not]
  have h1 := cells_nonneg hc cs[k] (List.getElem_mem hk)
  rw [Int.toNat_of_nonneg (by omega)]
  intro hm
  obtain ⟨i, hi, e⟩ := List.getElem_of_mem hm
  rw [List.length_take] at hi
  rw [List.getElem_take] at e
  exact List.pairwise_iff_getElem.1 hn i k (by omega) hk (by omega) e
set_option maxRecDepth 100000 in
set_option maxHeartbeats 3200000 in
theorem c_impl_chosenCells {lo hi lo' hi' : Nat} (v : Value) (s : Ste) (A : Option Addr) (c : Nat) (cs : List Int) (w : World) (h : StateV w lo hi v s) (hA : IntsV w lo' hi' A cs) (hs : s.valid = true) (hc : ∀ c ∈ cs, allocB s.heap c = true) (hn : cs.Nodup) :
    Calls Tryz.prog 48 #[v, .slice A cs.length c] w fun e w' => e = .returned (.tuple #[.int .u16 (bitsOf cs), .bool true]) ∧ Below w.heap.size w w' := by
  have hV := Lib.hid h
  have HX := Lib.hid hA
  have HL := Lib.hid hA.le
  obtain ⟨A1, c1, A2, c2, rfl, -, -⟩ := h
  have H8 := Lib.hid (Ste.valid_len hs).2
  have HS := Lib.hid hs
  have HC := Lib.hid hc
  have HN := Lib.hid hn
  clear hs hc hn hA
  go_enter Tryz.func48, Tryz.ntmps48
  have k0 : Blk (w.alloc (.cells #[.slice A1 s.values.length c1, .slice A2 s.heap.length c2] tSt)) w.heap.size tSt #[.slice A1 s.values.length c1, .slice A2 s.heap.length c2] := blks
  go_wp2_with fail
  refine (c_impl_StateValid _ s _ (hV.out.below bel)).mono ?_
  rintro e w1 ⟨rfl, hB1⟩
  rw [HS.out]
  have hB : Hid (Below w.heap.size w w1) := bgo (w := w) bel hB1
  (replace k0 := k0.next hB1; replace qk0 := k0.cell; replace rk0 := k0.frozen; replace lk0 := k0.lt)
  clear hB1
  go_wp2_with fail
  go_loopw [6, 14] (fun S i wr => ∃ k : Nat, k ≤ cs.length ∧ i = .int .i64 k ∧ S = .int .u16 (bitsOf (cs.take k)) ∧ Blk wr w.heap.size tSt #[.slice A1 s.values.length c1, .slice A2 s.heap.length c2] ∧ Hid (Below w.heap.size w wr)) (fun _ i _ => cs.length - (intOf i).toNat)
  case atStart => exact ⟨0, Nat.zero_le _, rfl, by rw [List.take_zero]; rfl, k0, hB⟩
  case round =>
    clear k0 hB qk0 rk0 lk0
    obtain ⟨k, hk, rfl, rfl, k0, HB⟩ := hrel
    have hcl := HL.out
    (replace qk0 := k0.cell; replace rk0 := k0.frozen; replace lk0 := k0.lt)
    by_cases hlt : k < cs.length
    · obtain ⟨b, off, e, g0⟩ := (HX.out.below HB.out).at hlt
      subst e
      have hki : (k : Int) < (cs.length : Int) := by omega
      have hb8 := cells_nonneg HC.out cs[k] (List.getElem_mem hlt)
      have hal : Hid (allocB s.heap cs[k] = true) := HC.out _ (List.getElem_mem hlt)
      have hnew : Hid ((bitsOf (cs.take k)).testBit (cs[k]).toNat = false) := cells_new HC.out HN.out hlt
      have HTK : Hid (bitsOf (cs.take (k + 1)) = bitsOf (cs.take k) ||| 1 <<< (cs[k]).toNat) := by show _ = _; rw [List.take_succ_eq_append_getElem hlt, bitsOf_snoc]
      have HLT := Lib.hid (cells_lt HC.out k)
      obtain ⟨f, hf⟩ : ∃ f, f = cs[k] := ⟨_, rfl⟩
      rw [← hf] at g0 hb8 hal hnew HTK
      clear hf
      obtain ⟨m, rfl⟩ : ∃ m : Nat, f = (m : Int) + 1 := ⟨(f - 1).toNat, by omega⟩
      have hm8 : m < 8 := by omega
      have ev : addrB ((m : Int) + 1) = true := by simp only [addrB, decide_eq_true_eq]; omega
      have et : ((m : Int) + 1).toNat = m + 1 := by omega
      go_wp2_with fail
      refine (c_impl_allocated _ s _ _ (hV.out.below HB.out) H8.out).mono ?_
      rintro e w2 ⟨rfl, hB2⟩
      rw [hal.out]
      have hB3 : Hid (Below w.heap.size w w2) := bgo HB.out hB2
      (replace k0 := k0.next hB2; replace qk0 := k0.cell; replace rk0 := k0.frozen; replace lk0 := k0.lt)
      clear hB2
      go_wp2_with fail
      refine (c_impl_cellHas _ _ _ (by have := HLT.out; omega)).mono ?_
      rintro e w3 ⟨rfl, rfl⟩
      rw [ev, hnew.out]
      clear ev
      go_wp2_with fail
      go_round
      case rel =>
        refine ⟨k + 1, by omega, by go_num, ?_, k0, hB3⟩
        rw [HTK.out, et]
        congr 1
        exact bit_or _ _ (by have := HLT.out; omega) (by omega)
      case measure => simp [intOf]; omega
    · obtain rfl : k = cs.length := by omega
      go_wp2_with fail
      go_ret2
      exact ⟨by rw [List.take_length]; rfl, HB.out⟩

--@ impl.KeepCells
set_option maxRecDepth 100000 in
set_option maxHeartbeats 1600000 in
theorem c_impl_KeepCells {lo hi lo' hi' : Nat} (v : Value) (s : Ste) (A : Option Addr) (c : Nat) (cs : List Int) (w : World) (h : StateV w lo hi v s) (hA : IntsV w lo' hi' A cs) (hs : s.valid = true) (hc : ∀ c ∈ cs, allocB s.heap c = true) (hn : cs.Nodup) :
    Calls Tryz.prog 17 #[v, .slice A cs.length c] w fun e w' => ∃ r, e = .returned (.tuple #[r, .bool true]) ∧ StateO w' w.heap.size r (keepS s fun x => decide (x ∈ cs)) ∧ Below w.heap.size w w' := by
  have hV := Lib.hid h
  have HX := Lib.hid hA
  obtain ⟨A1, c1, A2, c2, rfl, -, -⟩ := h
  have HS := Lib.hid hs
  have HC := Lib.hid hc
  have HN := Lib.hid hn
  have HLT : Hid (bitsOf cs < 65536) := by show _ < _; have := cells_lt hc cs.length; rw [List.take_length] at this; omega
  have HK : Hid (keepS s (fun x => (bitsOf cs).testBit x.toNat) = keepS s fun x => decide (x ∈ cs)) := by
    refine keepS_congr fun x hx => ?_
    simp only [addrB, decide_eq_true_eq] at hx
    rw [testBit_bitsOf (fun c h => by have := cells_nonneg hc c h; omega), Int.toNat_of_nonneg (by omega)]
  clear hs hc hn hA
  go_enter Tryz.func17, Tryz.ntmps17
  obtain ⟨k0, k1⟩ := blk2 w tSt tSt #[.slice A1 s.values.length c1, .slice A2 s.heap.length c2] #[.slice none 0 0, .slice none 0 0]
  go_wp2_with fail
  refine (c_impl_chosenCells _ s A c cs _ (hV.out.below bel) (HX.out.below bel) HS.out HC.out HN.out).mono ?_
  rintro e w1 ⟨rfl, hB1⟩
  have hB := bgo (w := w) bel hB1
  (replace k0 := k0.next hB1; replace qk0 := k0.cell; replace rk0 := k0.frozen; replace lk0 := k0.lt; replace k1 := k1.next hB1; replace qk1 := k1.cell; replace rk1 := k1.frozen; replace lk1 := k1.lt)
  clear hB1
  go_wp2_with fail
  refine (c_impl_stateWith _ s (bitsOf cs) _ (hV.out.below hB) HS.out HLT.out).mono ?_
  rintro e w2 ⟨r, rfl, o, hB2⟩
  have hz := hB.size
  (replace hB := bgo hB hB2; replace k0 := k0.next hB2; replace qk0 := k0.cell; replace rk0 := k0.frozen; replace lk0 := k0.lt; replace k1 := k1.next hB2; replace qk1 := k1.cell; replace rk1 := k1.frozen; replace lk1 := k1.lt)
  clear hB2
  obtain ⟨s', hs'⟩ : ∃ s', s' = keepS s fun x => decide (x ∈ cs) := ⟨_, rfl⟩
  have HK2 := Lib.hid hs'
  rw [HK.out, ← hs'] at o
  clear hs'
  obtain ⟨fv, av, rfl, o1, o2, dj⟩ := o
  obtain ⟨F, e1, rfl, -⟩ := o1.reads
  obtain ⟨G, e2, rfl, -⟩ := o2.reads
  have O1 := Lib.hid (o1.lower (base' := w.heap.size) hz)
  have O2 := Lib.hid (o2.lower (base' := w.heap.size) hz)
  have HD := Lib.hid dj
  clear o1 o2 dj
  go_wp2_with fail
  refine bodyPost_ret (v := .tuple #[.agg #[.slice F s'.values.length e1, .slice G s'.heap.length e2], .bool true]) (by simp [results, Tryz.results17, go_sem, qk1]) rfl ⟨_, rfl, ?_, ?_⟩
  · rw [← HK2.out]
    exact ⟨_, _, rfl, (O1.out.setT k1 (by decide) 0 _).setT (k1.set_ 0 _) (by decide) 1 _, (O2.out.setT k1 (by decide) 0 _).setT (k1.set_ 0 _) (by decide) 1 _, HD.out⟩
  · exact (hB.setCell (p := ⟨w.heap.size + 1, 0, none⟩) (by simp only; omega) _).setCell (p := ⟨w.heap.size + 1, 1, none⟩) (by simp only; omega) _

--@ impl.DropCells
theorem not_bits {S : Nat} (h : S < 65536) (n : Nat) (hn : n < 16) : (65535 - S).testBit n = !S.testBit n := by
  have := Nat.testBit_two_pow_sub_succ (x := S) (n := 16) (by omega) n
  rw [show 2 ^ 16 - (S + 1) = 65535 - S from by omega] at this
  rw [this]
  simp [hn]
theorem xor_max {S : Nat} (h : S < 65536) : bits .xor .u16 IntKind.u16.max (S : Int) = ((65535 - S : Nat) : Int) := by
  show IntKind.u16.wrap ((BitVec.ofInt 16 (65535 : Int) ^^^ BitVec.ofInt 16 (S : Int)).toNat : Int) = _
  rw [BitVec.toNat_xor, ofInt_u16 S h, show (65535 : Int) = ((65535 : Nat) : Int) from rfl, ofInt_u16 65535 (by omega)]
  have e : 65535 ^^^ S = 65535 - S := by
    apply Nat.eq_of_testBit_eq
    intro n
    rw [Nat.testBit_xor]
    by_cases hn : n < 16
    · rw [not_bits h n hn, show 65535 = 2 ^ 16 - 1 from rfl, Nat.testBit_two_pow_sub_one]
      simp [hn]
    · have h1 : 65535 < 2 ^ n := Nat.lt_of_lt_of_le (by omega : 65535 < 2 ^ 16) (Nat.pow_le_pow_right (by omega) (by omega))
      rw [Nat.testBit_lt_two_pow h1, Nat.testBit_lt_two_pow (show S < 2 ^ n by omega), Nat.testBit_lt_two_pow (show 65535 - S < 2 ^ n by omega)]
      rfl
  rw [e, wrap_u16 _ (by omega)]
set_option maxRecDepth 100000 in
set_option maxHeartbeats 1600000 in
theorem c_impl_DropCells {lo hi lo' hi' : Nat} (v : Value) (s : Ste) (A : Option Addr) (c : Nat) (cs : List Int) (w : World) (h : StateV w lo hi v s) (hA : IntsV w lo' hi' A cs) (hs : s.valid = true) (hc : ∀ c ∈ cs, allocB s.heap c = true) (hn : cs.Nodup) :
    Calls Tryz.prog 18 #[v, .slice A cs.length c] w fun e w' => ∃ r, e = .returned (.tuple #[r, .bool true]) ∧ StateO w' w.heap.size r (keepS s fun x => !decide (x ∈ cs)) ∧ Below w.heap.size w w' := by
  have hV := Lib.hid h
  have HX := Lib.hid hA
  obtain ⟨A1, c1, A2, c2, rfl, -, -⟩ := h
  have HS := Lib.hid hs
  have HC := Lib.hid hc
  have HN := Lib.hid hn
  have HLT : Hid (bitsOf cs < 65536) := by show _ < _; have := cells_lt hc cs.length; rw [List.take_length] at this; omega
  have HK : Hid (keepS s (fun x => (65535 - bitsOf cs).testBit x.toNat) = keepS s fun x => !decide (x ∈ cs)) := by
    refine keepS_congr fun x hx => ?_
    simp only [addrB, decide_eq_true_eq] at hx
    rw [not_bits HLT.out _ (by omega), testBit_bitsOf (fun c h => by have := cells_nonneg hc c h; omega), Int.toNat_of_nonneg (by omega)]
  clear hs hc hn hA
  go_enter Tryz.func18, Tryz.ntmps18
  obtain ⟨k0, k1⟩ := blk2 w tSt tSt #[.slice A1 s.values.length c1, .slice A2 s.heap.length c2] #[.slice none 0 0, .slice none 0 0]
  go_wp2_with fail
  refine (c_impl_chosenCells _ s A c cs _ (hV.out.below bel) (HX.out.below bel) HS.out HC.out HN.out).mono ?_
  rintro e w1 ⟨rfl, hB1⟩
  have hB := bgo (w := w) bel hB1
  (replace k0 := k0.next hB1; replace qk0 := k0.cell; replace rk0 := k0.frozen; replace lk0 := k0.lt; replace k1 := k1.next hB1; replace qk1 := k1.cell; replace rk1 := k1.frozen; replace lk1 := k1.lt)
  clear hB1
  go_wp2_with fail
  rw [xor_max HLT.out]
  refine (c_impl_stateWith _ s (65535 - bitsOf cs) _ (hV.out.below hB) HS.out (by omega)).mono ?_
  rintro e w2 ⟨r, rfl, o, hB2⟩
  have hz := hB.size
  (replace hB := bgo hB hB2; replace k0 := k0.next hB2; replace qk0 := k0.cell; replace rk0 := k0.frozen; replace lk0 := k0.lt; replace k1 := k1.next hB2; replace qk1 := k1.cell; replace rk1 := k1.frozen; replace lk1 := k1.lt)
  clear hB2
  obtain ⟨s', hs'⟩ : ∃ s', s' = keepS s fun x => !decide (x ∈ cs) := ⟨_, rfl⟩
  have HK2 := Lib.hid hs'
  rw [HK.out, ← hs'] at o
  clear hs'
  obtain ⟨fv, av, rfl, o1, o2, dj⟩ := o
  obtain ⟨F, e1, rfl, -⟩ := o1.reads
  obtain ⟨G, e2, rfl, -⟩ := o2.reads
  have O1 := Lib.hid (o1.lower (base' := w.heap.size) hz)
  have O2 := Lib.hid (o2.lower (base' := w.heap.size) hz)
  have HD := Lib.hid dj
  clear o1 o2 dj
  go_wp2_with fail
  refine bodyPost_ret (v := .tuple #[.agg #[.slice F s'.values.length e1, .slice G s'.heap.length e2], .bool true]) (by simp [results, Tryz.results18, go_sem, qk1]) rfl ⟨_, rfl, ?_, ?_⟩
  · rw [← HK2.out]
    exact ⟨_, _, rfl, (O1.out.setT k1 (by decide) 0 _).setT (k1.set_ 0 _) (by decide) 1 _, (O2.out.setT k1 (by decide) 0 _).setT (k1.set_ 0 _) (by decide) 1 _, HD.out⟩
  · exact (hB.setCell (p := ⟨w.heap.size + 1, 0, none⟩) (by simp only; omega) _).setCell (p := ⟨w.heap.size + 1, 1, none⟩) (by simp only; omega) _
end Go.Proofs.YteogcababfenfaaGreat

/- Contracts: impl's KeepCells and DropCells where the cells are refused. -/
namespace Go.Proofs.YteogcababfenfaaGreat
open Go Go.RowKit Go.Proofs

/-- the cells may be chosen -/
def okC (s : Ste) (cs : List Int) : Prop := s.valid = true ∧ (∀ c ∈ cs, allocB s.heap c = true) ∧ cs.Nodup
theorem nodup_snoc {cs : List Int} {k : Nat} (hk : k < cs.length) (h : (cs.take k).Nodup) (hm : cs[k] ∉ cs.take k) : (cs.take (k + 1)).Nodup := by
  rw [List.take_succ_eq_append_getElem hk, List.nodup_append]
  refine ⟨h, by simp, fun a ha b hb e => ?_⟩
  rw [List.mem_singleton] at hb
  exact hm (by rw [← hb, ← e]; exact ha)
theorem all_snoc {p : Int → Prop} {cs : List Int} {k : Nat} (hk : k < cs.length) (h : ∀ c ∈ cs.take k, p c) (hm : p cs[k]) : ∀ c ∈ cs.take (k + 1), p c := fun c hc => by
  rw [List.take_succ_eq_append_getElem hk, List.mem_append, List.mem_singleton] at hc
  rcases hc with h1 | h1
  · exact h c h1
  · rw [h1]; exact hm
theorem take_lt {s : Ste} {cs : List Int} {k : Nat} (hc : ∀ c ∈ cs.take k, allocB s.heap c = true) : bitsOf (cs.take k) < 512 := by
  have := cells_lt (s := s) (cs := cs.take k) hc (cs.take k).length
  rwa [List.take_length] at this
--@ impl.chosenCells
set_option maxRecDepth 100000 in
set_option maxHeartbeats 3200000 in
theorem c_impl_chosenNo {lo hi lo' hi' : Nat} (v : Value) (s : Ste) (A : Option Addr) (c : Nat) (cs : List Int) (w : World) (h : StateV w lo hi v s) (hA : IntsV w lo' hi' A cs) (hno : ¬ okC s cs) :
    Calls Tryz.prog 48 #[v, .slice A cs.length c] w fun e w' => e = .returned (.tuple #[.int .u16 0, .bool false]) ∧ Below w.heap.size w w' := by
  have hV := Lib.hid h
  have HX := Lib.hid hA
  have HL := Lib.hid hA.le
  obtain ⟨A1, c1, A2, c2, rfl, -, -⟩ := h
  have HNO : Hid (¬ okC s cs) := Lib.hid hno
  clear hA hno
  go_enter Tryz.func48, Tryz.ntmps48
  have k0 : Blk (w.alloc (.cells #[.slice A1 s.values.length c1, .slice A2 s.heap.length c2] tSt)) w.heap.size tSt #[.slice A1 s.values.length c1, .slice A2 s.heap.length c2] := blks
  go_wp2_with fail
  refine (c_impl_StateValid _ s _ (hV.out.below bel)).mono ?_
  rintro e w1 ⟨rfl, hB1⟩
  have hB : Hid (Below w.heap.size w w1) := bgo (w := w) bel hB1
  (replace k0 := k0.next hB1; replace qk0 := k0.cell; replace rk0 := k0.frozen; replace lk0 := k0.lt)
  clear hB1
  cases hs : s.valid
  · clear HNO
    go_wp2_with fail
    go_ret2
    exact ⟨rfl, hB⟩
  have H8 := Lib.hid (Ste.valid_len hs).2
  have HN2 : Hid (¬ ((∀ c ∈ cs, allocB s.heap c = true) ∧ cs.Nodup)) := Lib.hid fun h2 => HNO.out ⟨hs, h2⟩
  clear hs HNO
  go_wp2_with fail
  go_loopw [6, 14] (fun S i wr => ∃ k : Nat, k ≤ cs.length ∧ i = .int .i64 k ∧ S = .int .u16 (bitsOf (cs.take k)) ∧ Hid ((∀ c ∈ cs.take k, allocB s.heap c = true) ∧ (cs.take k).Nodup) ∧ Blk wr w.heap.size tSt #[.slice A1 s.values.length c1, .slice A2 s.heap.length c2] ∧ Hid (Below w.heap.size w wr)) (fun _ i _ => cs.length - (intOf i).toNat)
  case atStart => exact ⟨0, Nat.zero_le _, rfl, by rw [List.take_zero]; rfl, by rw [List.take_zero]; exact Lib.hid ⟨by simp, by simp⟩, k0, hB⟩
  case round =>
    clear k0 hB qk0 rk0 lk0
    obtain ⟨k, hk, rfl, rfl, HOK, k0, HB⟩ := hrel
    have hcl := HL.out
    (replace qk0 := k0.cell; replace rk0 := k0.frozen; replace lk0 := k0.lt)
    by_cases hlt : k < cs.length
    · obtain ⟨b, off, e, g0⟩ := (HX.out.below HB.out).at hlt
      subst e
      have hki : (k : Int) < (cs.length : Int) := by omega
      have HTK : Hid (bitsOf (cs.take (k + 1)) = bitsOf (cs.take k) ||| 1 <<< (cs[k]).toNat) := by show _ = _; rw [List.take_succ_eq_append_getElem hlt, bitsOf_snoc]
      have HLT := Lib.hid (take_lt HOK.out.1)
      have HMEM : Hid (∀ n : Nat, (bitsOf (cs.take k)).testBit n = decide ((n : Int) ∈ cs.take k)) := Lib.hid fun n => testBit_bitsOf (fun x hx => by have := cells_nonneg HOK.out.1 x hx; omega) n
      have HALL := Lib.hid (fun h => all_snoc (p := fun c => allocB s.heap c = true) hlt HOK.out.1 h)
      have HND := Lib.hid (nodup_snoc hlt HOK.out.2)
      obtain ⟨f, hf⟩ : ∃ f, f = cs[k] := ⟨_, rfl⟩
      rw [← hf] at g0 HTK HALL HND
      clear hf
      go_wp2_with fail
      refine (c_impl_allocated _ s _ _ (hV.out.below HB.out) H8.out).mono ?_
      rintro e w2 ⟨rfl, hB2⟩
      have hB3 : Hid (Below w.heap.size w w2) := bgo HB.out hB2
      (replace k0 := k0.next hB2; replace qk0 := k0.cell; replace rk0 := k0.frozen; replace lk0 := k0.lt)
      clear hB2
      cases ha : allocB s.heap f
      · clear HALL HND HTK HMEM HOK ha
        go_wp2_with fail
        go_ret2
        exact ⟨rfl, hB3⟩
      have hb8 : 1 ≤ f ∧ f ≤ 8 := by
        have := (cont_alloc ha).1
        simpa [addrB] using this
      have HAL2 := Lib.hid (HALL.out ha)
      clear ha HALL
      obtain ⟨m, rfl⟩ : ∃ m : Nat, f = (m : Int) + 1 := ⟨(f - 1).toNat, by omega⟩
      have hm8 : m < 8 := by omega
      have ev : addrB ((m : Int) + 1) = true := by simp only [addrB, decide_eq_true_eq]; omega
      have et : ((m : Int) + 1).toNat = m + 1 := by omega
      go_wp2_with fail
      refine (c_impl_cellHas _ _ _ (by have := HLT.out; omega)).mono ?_
      rintro e w3 ⟨rfl, rfl⟩
      rw [ev, et, HMEM.out]
      by_cases hmem : (m : Int) + 1 ∈ cs.take k
      · have hd : decide (((m + 1 : Nat) : Int) ∈ cs.take k) = true := by rw [decide_eq_true_iff]; simpa using hmem
        rw [hd]
        clear HND HTK HMEM HOK HAL2 hmem hd
        go_wp2_with fail
        go_ret2
        exact ⟨rfl, hB3⟩
      · have hd : decide (((m + 1 : Nat) : Int) ∈ cs.take k) = false := by rw [decide_eq_false_iff_not]; simpa using hmem
        have HND2 := Lib.hid (HND.out hmem)
        rw [hd]
        clear hd hmem HND HOK HMEM ev
        go_wp2_with fail
        go_round
        case rel =>
          refine ⟨k + 1, by omega, by go_num, ?_, Lib.hid ⟨HAL2.out, HND2.out⟩, k0, hB3⟩
          rw [HTK.out, et]
          congr 1
          exact bit_or _ _ (by have := HLT.out; omega) (by omega)
        case measure => simp [intOf]; omega
    · obtain rfl : k = cs.length := by omega
      refine absurd ?_ HN2.out
      have := HOK.out
      rwa [List.take_length] at this

--@ impl.KeepCells
set_option maxRecDepth 100000 in
set_option maxHeartbeats 1600000 in
theorem c_impl_KeepNo {lo hi lo' hi' : Nat} (v : Value) (s : Ste) (A : Option Addr) (c : Nat) (cs : List Int) (w : World) (h : StateV w lo hi v s) (hA : IntsV w lo' hi' A cs) (hno : ¬ okC s cs) :
    Calls Tryz.prog 17 #[v, .slice A cs.length c] w fun e w' => e = .returned (.tuple #[.agg #[.slice none 0 0, .slice none 0 0], .bool false]) ∧ Below w.heap.size w w' := by
  have hV := Lib.hid h
  have HX := Lib.hid hA
  obtain ⟨A1, c1, A2, c2, rfl, -, -⟩ := h
  have HNO : Hid (¬ okC s cs) := Lib.hid hno
  clear hA hno
  go_enter Tryz.func17, Tryz.ntmps17
  obtain ⟨k0, k1⟩ := blk2 w tSt tSt #[.slice A1 s.values.length c1, .slice A2 s.heap.length c2] #[.slice none 0 0, .slice none 0 0]
  go_wp2_with fail
  refine (c_impl_chosenNo _ s A c cs _ (hV.out.below bel) (HX.out.below bel) HNO.out).mono ?_
  rintro e w1 ⟨rfl, hB1⟩
  have hB := bgo (w := w) bel hB1
  (replace k0 := k0.next hB1; replace qk0 := k0.cell; replace rk0 := k0.frozen; replace lk0 := k0.lt; replace k1 := k1.next hB1; replace qk1 := k1.cell; replace rk1 := k1.frozen; replace lk1 := k1.lt)
  clear hB1
  go_wp2_with fail
  refine bodyPost_ret (v := .tuple #[.agg #[.slice none 0 0, .slice none 0 0], .bool false]) (by simp [results, Tryz.results17, go_sem, qk1]) rfl ⟨rfl, ?_⟩
  exact (hB.setCell (p := ⟨w.heap.size + 1, 0, none⟩) (by simp only; omega) _).setCell (p := ⟨w.heap.size + 1, 1, none⟩) (by simp only; omega) _

--@ impl.DropCells
set_option maxRecDepth 100000 in
set_option maxHeartbeats 1600000 in
theorem c_impl_DropNo {lo hi lo' hi' : Nat} (v : Value) (s : Ste) (A : Option Addr) (c : Nat) (cs : List Int) (w : World) (h : StateV w lo hi v s) (hA : IntsV w lo' hi' A cs) (hno : ¬ okC s cs) :
    Calls Tryz.prog 18 #[v, .slice A cs.length c] w fun e w' => e = .returned (.tuple #[.agg #[.slice none 0 0, .slice none 0 0], .bool false]) ∧ Below w.heap.size w w' := by
  have hV := Lib.hid h
  have HX := Lib.hid hA
  obtain ⟨A1, c1, A2, c2, rfl, -, -⟩ := h
  have HNO : Hid (¬ okC s cs) := Lib.hid hno
  clear hA hno
  go_enter Tryz.func18, Tryz.ntmps18
  obtain ⟨k0, k1⟩ := blk2 w tSt tSt #[.slice A1 s.values.length c1, .slice A2 s.heap.length c2] #[.slice none 0 0, .slice none 0 0]
  go_wp2_with fail
  refine (c_impl_chosenNo _ s A c cs _ (hV.out.below bel) (HX.out.below bel) HNO.out).mono ?_
  rintro e w1 ⟨rfl, hB1⟩
  have hB := bgo (w := w) bel hB1
  (replace k0 := k0.next hB1; replace qk0 := k0.cell; replace rk0 := k0.frozen; replace lk0 := k0.lt; replace k1 := k1.next hB1; replace qk1 := k1.cell; replace rk1 := k1.frozen; replace lk1 := k1.lt)
  clear hB1
  go_wp2_with fail
  refine bodyPost_ret (v := .tuple #[.agg #[.slice none 0 0, .slice none 0 0], .bool false]) (by simp [results, Tryz.results18, go_sem, qk1]) rfl ⟨rfl, ?_⟩
  exact (hB.setCell (p := ⟨w.heap.size + 1, 0, none⟩) (by simp only; omega) _).setCell (p := ⟨w.heap.size + 1, 1, none⟩) (by simp only; omega) _
--@
end Go.Proofs.YteogcababfenfaaGreat
