/- Contracts: impl's KeepCells and DropCells, for allocated cells that differ. -/
import Derived.Test.YtdhllcejahdjfaaCellsC
set_option linter.unusedSimpArgs false
set_option linter.unusedVariables false
namespace Go.Proofs.Ytdhllcejahdjfaa
open Go Go.RowKit Go.Proofs

theorem keepS_congr {s : Ste} {p q : Int → Bool} (h : ∀ x, addrB x = true → p x = q x) : keepS s p = keepS s q := by
  unfold keepS keepH
  congr 1
  apply List.map_congr_left
  intro n hn
  rw [List.mem_range'_1] at hn
  rw [h n (by simp only [addrB, decide_eq_true_eq]; omega)]

--@ impl.chosenCells
theorem cells_nonneg {s : Ste} {cs : List Int} (hc : ∀ c ∈ cs, allocB s.heap c = true) : ∀ c ∈ cs, 1 ≤ c ∧ c ≤ 8 := fun c h => by
  have := (cont_alloc (hc c h)).1
  simpa [addrB] using this
theorem cells_lt {s : Ste} {cs : List Int} (hc : ∀ c ∈ cs, allocB s.heap c = true) (k : Nat) : bitsOf (cs.take k) < 512 := by
  have := bitsOf_lt (l := cs.take k) (k := 9) (fun x hx => by have := cells_nonneg hc x (List.mem_of_mem_take hx); omega)
  simpa using this
theorem cells_new {s : Ste} {cs : List Int} (hc : ∀ c ∈ cs, allocB s.heap c = true) (hn : cs.Nodup) {k : Nat} (hk : k < cs.length) : (bitsOf (cs.take k)).testBit (cs[k]).toNat = false := by
  rw [testBit_bitsOf (fun x hx => by have := cells_nonneg hc x (List.mem_of_mem_take hx); omega), decide_eq_false_iff_not]
  have h1 := cells_nonneg hc cs[k] (List.getElem_mem hk)
  rw [Int.toNat_of_nonneg (by omega)]
  intro hm
  obtain ⟨i, hi, e⟩ := List.getElem_of_mem hm
  rw [List.length_take] at hi
  rw [List.getElem_take] at e
  exact List.pairwise_iff_getElem.1 hn i k (by omega) hk (by omega) e
set_option maxRecDepth 100000 in
set_option maxHeartbeats 3200000 in
theorem c_impl_chosenCells {lo hi lo' hi' : Nat} (v : Value) (s : Ste) (A : Option Addr) (c : Nat) (cs : List Int) (w : World) (h : StateV w lo hi v s) (hA : IntsV w lo' hi' A cs) (hs : s.valid = true) (hc : ∀ c ∈ cs, allocB s.heap c = true) (hn : cs.Nodup) :
    Calls Try.prog 94 #[v, .slice A cs.length c] w fun e w' => e = .returned (.tuple #[.int .u16 (bitsOf cs), .bool true]) ∧ Below w.heap.size w w' := by
  have hV := Lib.hid h
  have HX := Lib.hid hA
  have HL := Lib.hid hA.le
  obtain ⟨A1, c1, A2, c2, rfl, -, -⟩ := h
  have H8 := Lib.hid (Ste.valid_len hs).2
  have HS := Lib.hid hs
  have HC := Lib.hid hc
  have HN := Lib.hid hn
  clear hs hc hn hA
  go_enter Try.func94, Try.ntmps94
  have k0 : Blk (w.alloc (.cells #[.slice A1 s.values.length c1, .slice A2 s.heap.length c2] tSt)) w.heap.size tSt #[.slice A1 s.values.length c1, .slice A2 s.heap.length c2] := (by repeat (first | (with_reducible assumption) | (with_reducible exact Blk.new _ _ _) | ((with_reducible apply Blk.far); (case hp => (first | exact Nat.le_refl _ | (simp; done) | (simp; omega) | (simp only; omega) | omega))) | (with_reducible apply Blk.set_) | ((with_reducible refine Blk.newE ?_); (simp; done)) | (with_reducible apply Blk.alloc) | (with_reducible apply Blk.drew) | (with_reducible apply Blk.drewN)))
  go_wp2_with fail
  refine (c_impl_StateValid _ s _ (hV.out.below (by repeat (first | (with_reducible exact Below.refl _ _) | (with_reducible assumption) | (with_reducible apply bbox) | ((with_reducible apply Below.setCell); (case hp => (first | exact Nat.le_refl _ | (simp; done) | (simp; omega) | (simp only; omega) | omega))) | (with_reducible apply Below.drew) | (with_reducible apply below_drewN))))).mono ?_
  rintro e w1 ⟨rfl, hB1⟩
  rw [HS.out]
  have hB : Hid (Below w.heap.size w w1) := bgo (w := w) (by repeat (first | (with_reducible exact Below.refl _ _) | (with_reducible assumption) | (with_reducible apply bbox) | ((with_reducible apply Below.setCell); (case hp => (first | exact Nat.le_refl _ | (simp; done) | (simp; omega) | (simp only; omega) | omega))) | (with_reducible apply Below.drew) | (with_reducible apply below_drewN))) hB1
  (replace k0 := k0.next hB1; replace qk0 := k0.cell; replace rk0 := k0.frozen; replace lk0 := k0.lt)
  clear hB1
  go_wp2_with fail
  go_loopw [6, 14] (fun S i wr => ∃ k : Nat, k ≤ cs.length ∧ i = .int .i64 k ∧ S = .int .u16 (bitsOf (cs.take k)) ∧ Blk wr w.heap.size tSt #[.slice A1 s.values.length c1, .slice A2 s.heap.length c2] ∧ Hid (Below w.heap.size w wr)) (fun _ i _ => cs.length - (intOf i).toNat)
  case atStart => exact ⟨0, Nat.zero_le _, rfl, by rw [List.take_zero]; rfl, k0, hB⟩
  case round =>
    clear k0 hB qk0 rk0 lk0
    obtain ⟨k, hk, rfl, rfl, k0, HB⟩ := hrel
    have hcl := HL.out
    (replace qk0 := k0.cell; replace rk0 := k0.frozen; replace lk0 := k0.lt)
    by_cases hlt : k < cs.length
    · obtain ⟨b, off, e, g0⟩ := (HX.out.below HB.out).at hlt
      subst e
      have hki : (k : Int) < (cs.length : Int) := by omega
      have hb8 := cells_nonneg HC.out cs[k] (List.getElem_mem hlt)
      have hal : Hid (allocB s.heap cs[k] = true) := HC.out _ (List.getElem_mem hlt)
      have hnew : Hid ((bitsOf (cs.take k)).testBit (cs[k]).toNat = false) := cells_new HC.out HN.out hlt
      have HTK : Hid (bitsOf (cs.take (k + 1)) = bitsOf (cs.take k) ||| 1 <<< (cs[k]).toNat) := by show _ = _; rw [List.take_succ_eq_append_getElem hlt, bitsOf_snoc]
      have HLT := Lib.hid (cells_lt HC.out k)
      obtain ⟨f, hf⟩ : ∃ f, f = cs[k] := ⟨_, rfl⟩
      rw [← hf] at g0 hb8 hal hnew HTK
      clear hf
      obtain ⟨m, rfl⟩ : ∃ m : Nat, f = (m : Int) + 1 := ⟨(f - 1).toNat, by omega⟩
      have hm8 : m < 8 := by omega
      have ev : addrB ((m : Int) + 1) = true := by simp only [addrB, decide_eq_true_eq]; omega
      have et : ((m : Int) + 1).toNat = m + 1 := by omega
      go_wp2_with fail
      refine (c_impl_allocated _ s _ _ (hV.out.below HB.out) H8.out).mono ?_
      rintro e w2 ⟨rfl, hB2⟩
      rw [hal.out]
      have hB3 : Hid (Below w.heap.size w w2) := bgo HB.out hB2
      (replace k0 := k0.next hB2; replace qk0 := k0.cell; replace rk0 := k0.frozen; replace lk0 := k0.lt)
      clear hB2
      go_wp2_with fail
      refine (c_impl_cellHas _ _ _ (by have := HLT.out; omega)).mono ?_
      rintro e w3 ⟨rfl, rfl⟩
      rw [ev, hnew.out]
      clear ev
      go_wp2_with fail
      go_round
      case rel =>
        refine ⟨k + 1, by omega, by go_num, ?_, k0, hB3⟩
        rw [HTK.out, et]
        congr 1
        exact bit_or _ _ (by have := HLT.out; omega) (by omega)
      case measure => simp [intOf]; omega
    · obtain rfl : k = cs.length := by omega
      go_wp2_with fail
      go_ret2
      exact ⟨by rw [List.take_length]; rfl, HB.out⟩

--@ impl.KeepCells
set_option maxRecDepth 100000 in
set_option maxHeartbeats 1600000 in
theorem c_impl_KeepCells {lo hi lo' hi' : Nat} (v : Value) (s : Ste) (A : Option Addr) (c : Nat) (cs : List Int) (w : World) (h : StateV w lo hi v s) (hA : IntsV w lo' hi' A cs) (hs : s.valid = true) (hc : ∀ c ∈ cs, allocB s.heap c = true) (hn : cs.Nodup) :
    Calls Try.prog 28 #[v, .slice A cs.length c] w fun e w' => ∃ r, e = .returned (.tuple #[r, .bool true]) ∧ StateO w' w.heap.size r (keepS s fun x => decide (x ∈ cs)) ∧ Below w.heap.size w w' := by
  have hV := Lib.hid h
  have HX := Lib.hid hA
  obtain ⟨A1, c1, A2, c2, rfl, -, -⟩ := h
  have HS := Lib.hid hs
  have HC := Lib.hid hc
  have HN := Lib.hid hn
  have HLT : Hid (bitsOf cs < 65536) := by show _ < _; have := cells_lt hc cs.length; rw [List.take_length] at this; omega
  have HK : Hid (keepS s (fun x => (bitsOf cs).testBit x.toNat) = keepS s fun x => decide (x ∈ cs)) := by
    refine keepS_congr fun x hx => ?_
    simp only [addrB, decide_eq_true_eq] at hx
    rw [testBit_bitsOf (fun c h => by have := cells_nonneg hc c h; omega), Int.toNat_of_nonneg (by omega)]
  clear hs hc hn hA
  go_enter Try.func28, Try.ntmps28
  obtain ⟨k0, k1⟩ := blk2 w tSt tSt #[.slice A1 s.values.length c1, .slice A2 s.heap.length c2] #[.slice none 0 0, .slice none 0 0]
  go_wp2_with fail
  refine (c_impl_chosenCells _ s A c cs _ (hV.out.below (by repeat (first | (with_reducible exact Below.refl _ _) | (with_reducible assumption) | (with_reducible apply bbox) | ((with_reducible apply Below.setCell); (case hp => (first | exact Nat.le_refl _ | (simp; done) | (simp; omega) | (simp only; omega) | omega))) | (with_reducible apply Below.drew) | (with_reducible apply below_drewN)))) (HX.out.below (by repeat (first | (with_reducible exact Below.refl _ _) | (with_reducible assumption) | (with_reducible apply bbox) | ((with_reducible apply Below.setCell); (case hp => (first | exact Nat.le_refl _ | (simp; done) | (simp; omega) | (simp only; omega) | omega))) | (with_reducible apply Below.drew) | (with_reducible apply below_drewN)))) HS.out HC.out HN.out).mono ?_
  rintro e w1 ⟨rfl, hB1⟩
  have hB := bgo (w := w) (by repeat (first | (with_reducible exact Below.refl _ _) | (with_reducible assumption) | (with_reducible apply bbox) | ((with_reducible apply Below.setCell); (case hp => (first | exact Nat.le_refl _ | (simp; done) | (simp; omega) | (simp only; omega) | omega))) | (with_reducible apply Below.drew) | (with_reducible apply below_drewN))) hB1
  (replace k0 := k0.next hB1; replace qk0 := k0.cell; replace rk0 := k0.frozen; replace lk0 := k0.lt; replace k1 := k1.next hB1; replace qk1 := k1.cell; replace rk1 := k1.frozen; replace lk1 := k1.lt)
  clear hB1
  go_wp2_with fail
  refine (c_impl_stateWith _ s (bitsOf cs) _ (hV.out.below hB) HS.out HLT.out).mono ?_
  rintro e w2 ⟨r, rfl, o, hB2⟩
  have hz := hB.size
  (replace hB := bgo hB hB2; replace k0 := k0.next hB2; replace qk0 := k0.cell; replace rk0 := k0.frozen; replace lk0 := k0.lt; replace k1 := k1.next hB2; replace qk1 := k1.cell; replace rk1 := k1.frozen; replace lk1 := k1.lt)
  clear hB2
  obtain ⟨s', hs'⟩ : ∃ s', s' = keepS s fun x => decide (x ∈ cs) := ⟨_, rfl⟩
  have HK2 := Lib.hid hs'
  rw [HK.out, ← hs'] at o
  clear hs'
  obtain ⟨fv, av, rfl, o1, o2, dj⟩ := o
  obtain ⟨F, e1, rfl, -⟩ := o1.reads
  obtain ⟨G, e2, rfl, -⟩ := o2.reads
  have O1 := Lib.hid (o1.lower (base' := w.heap.size) hz)
  have O2 := Lib.hid (o2.lower (base' := w.heap.size) hz)
  have HD := Lib.hid dj
  clear o1 o2 dj
  go_wp2_with fail
  refine bodyPost_ret (v := .tuple #[.agg #[.slice F s'.values.length e1, .slice G s'.heap.length e2], .bool true]) (by simp [results, Try.results28, go_sem, qk1]) rfl ⟨_, rfl, ?_, ?_⟩
  · rw [← HK2.out]
    exact ⟨_, _, rfl, (O1.out.setT k1 (by decide) 0 _).setT (k1.set_ 0 _) (by decide) 1 _, (O2.out.setT k1 (by decide) 0 _).setT (k1.set_ 0 _) (by decide) 1 _, HD.out⟩
  · exact (hB.setCell (p := ⟨w.heap.size + 1, 0, none⟩) (by simp only; omega) _).setCell (p := ⟨w.heap.size + 1, 1, none⟩) (by simp only; omega) _

--@ impl.DropCells
theorem not_bits {S : Nat} (h : S < 65536) (n : Nat) (hn : n < 16) : (65535 - S).testBit n = !S.testBit n := by
  have := Nat.testBit_two_pow_sub_succ (x := S) (n := 16) (by omega) n
  rw [show 2 ^ 16 - (S + 1) = 65535 - S from by omega] at this
  rw [this]
  simp [hn]
theorem xor_max {S : Nat} (h : S < 65536) : bits .xor .u16 IntKind.u16.max (S : Int) = ((65535 - S : Nat) : Int) := by
  show IntKind.u16.wrap ((BitVec.ofInt 16 (65535 : Int) ^^^ BitVec.ofInt 16 (S : Int)).toNat : Int) = _
  rw [BitVec.toNat_xor, ofInt_u16 S h, show (65535 : Int) = ((65535 : Nat) : Int) from rfl, ofInt_u16 65535 (by omega)]
  have e : 65535 ^^^ S = 65535 - S := by
    apply Nat.eq_of_testBit_eq
    intro n
    rw [Nat.testBit_xor]
    by_cases hn : n < 16
    · rw [not_bits h n hn, show 65535 = 2 ^ 16 - 1 from rfl, Nat.testBit_two_pow_sub_one]
      simp [hn]
    · have h1 : 65535 < 2 ^ n := Nat.lt_of_lt_of_le (by omega : 65535 < 2 ^ 16) (Nat.pow_le_pow_right (by omega) (by omega))
      rw [Nat.testBit_lt_two_pow h1, Nat.testBit_lt_two_pow (show S < 2 ^ n by omega), Nat.testBit_lt_two_pow (show 65535 - S < 2 ^ n by omega)]
      rfl
  rw [e, wrap_u16 _ (by omega)]
set_option maxRecDepth 100000 in
set_option maxHeartbeats 1600000 in
theorem c_impl_DropCells {lo hi lo' hi' : Nat} (v : Value) (s : Ste) (A : Option Addr) (c : Nat) (cs : List Int) (w : World) (h : StateV w lo hi v s) (hA : IntsV w lo' hi' A cs) (hs : s.valid = true) (hc : ∀ c ∈ cs, allocB s.heap c = true) (hn : cs.Nodup) :
    Calls Try.prog 33 #[v, .slice A cs.length c] w fun e w' => ∃ r, e = .returned (.tuple #[r, .bool true]) ∧ StateO w' w.heap.size r (keepS s fun x => !decide (x ∈ cs)) ∧ Below w.heap.size w w' := by
  have hV := Lib.hid h
  have HX := Lib.hid hA
  obtain ⟨A1, c1, A2, c2, rfl, -, -⟩ := h
  have HS := Lib.hid hs
  have HC := Lib.hid hc
  have HN := Lib.hid hn
  have HLT : Hid (bitsOf cs < 65536) := by show _ < _; have := cells_lt hc cs.length; rw [List.take_length] at this; omega
  have HK : Hid (keepS s (fun x => (65535 - bitsOf cs).testBit x.toNat) = keepS s fun x => !decide (x ∈ cs)) := by
    refine keepS_congr fun x hx => ?_
    simp only [addrB, decide_eq_true_eq] at hx
    rw [not_bits HLT.out _ (by omega), testBit_bitsOf (fun c h => by have := cells_nonneg hc c h; omega), Int.toNat_of_nonneg (by omega)]
  clear hs hc hn hA
  go_enter Try.func33, Try.ntmps33
  obtain ⟨k0, k1⟩ := blk2 w tSt tSt #[.slice A1 s.values.length c1, .slice A2 s.heap.length c2] #[.slice none 0 0, .slice none 0 0]
  go_wp2_with fail
  refine (c_impl_chosenCells _ s A c cs _ (hV.out.below (by repeat (first | (with_reducible exact Below.refl _ _) | (with_reducible assumption) | (with_reducible apply bbox) | ((with_reducible apply Below.setCell); (case hp => (first | exact Nat.le_refl _ | (simp; done) | (simp; omega) | (simp only; omega) | omega))) | (with_reducible apply Below.drew) | (with_reducible apply below_drewN)))) (HX.out.below (by repeat (first | (with_reducible exact Below.refl _ _) | (with_reducible assumption) | (with_reducible apply bbox) | ((with_reducible apply Below.setCell); (case hp => (first | exact Nat.le_refl _ | (simp; done) | (simp; omega) | (simp only; omega) | omega))) | (with_reducible apply Below.drew) | (with_reducible apply below_drewN)))) HS.out HC.out HN.out).mono ?_
  rintro e w1 ⟨rfl, hB1⟩
  have hB := bgo (w := w) (by repeat (first | (with_reducible exact Below.refl _ _) | (with_reducible assumption) | (with_reducible apply bbox) | ((with_reducible apply Below.setCell); (case hp => (first | exact Nat.le_refl _ | (simp; done) | (simp; omega) | (simp only; omega) | omega))) | (with_reducible apply Below.drew) | (with_reducible apply below_drewN))) hB1
  (replace k0 := k0.next hB1; replace qk0 := k0.cell; replace rk0 := k0.frozen; replace lk0 := k0.lt; replace k1 := k1.next hB1; replace qk1 := k1.cell; replace rk1 := k1.frozen; replace lk1 := k1.lt)
  clear hB1
  go_wp2_with fail
  rw [xor_max HLT.out]
  refine (c_impl_stateWith _ s (65535 - bitsOf cs) _ (hV.out.below hB) HS.out (by omega)).mono ?_
  rintro e w2 ⟨r, rfl, o, hB2⟩
  have hz := hB.size
  (replace hB := bgo hB hB2; replace k0 := k0.next hB2; replace qk0 := k0.cell; replace rk0 := k0.frozen; replace lk0 := k0.lt; replace k1 := k1.next hB2; replace qk1 := k1.cell; replace rk1 := k1.frozen; replace lk1 := k1.lt)
  clear hB2
  obtain ⟨s', hs'⟩ : ∃ s', s' = keepS s fun x => !decide (x ∈ cs) := ⟨_, rfl⟩
  have HK2 := Lib.hid hs'
  rw [HK.out, ← hs'] at o
  clear hs'
  obtain ⟨fv, av, rfl, o1, o2, dj⟩ := o
  obtain ⟨F, e1, rfl, -⟩ := o1.reads
  obtain ⟨G, e2, rfl, -⟩ := o2.reads
  have O1 := Lib.hid (o1.lower (base' := w.heap.size) hz)
  have O2 := Lib.hid (o2.lower (base' := w.heap.size) hz)
  have HD := Lib.hid dj
  clear o1 o2 dj
  go_wp2_with fail
  refine bodyPost_ret (v := .tuple #[.agg #[.slice F s'.values.length e1, .slice G s'.heap.length e2], .bool true]) (by simp [results, Try.results33, go_sem, qk1]) rfl ⟨_, rfl, ?_, ?_⟩
  · rw [← HK2.out]
    exact ⟨_, _, rfl, (O1.out.setT k1 (by decide) 0 _).setT (k1.set_ 0 _) (by decide) 1 _, (O2.out.setT k1 (by decide) 0 _).setT (k1.set_ 0 _) (by decide) 1 _, HD.out⟩
  · exact (hB.setCell (p := ⟨w.heap.size + 1, 0, none⟩) (by simp only; omega) _).setCell (p := ⟨w.heap.size + 1, 1, none⟩) (by simp only; omega) _
end Go.Proofs.Ytdhllcejahdjfaa
