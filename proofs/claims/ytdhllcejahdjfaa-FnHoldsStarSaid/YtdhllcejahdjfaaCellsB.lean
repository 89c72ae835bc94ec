/- Contracts: impl's changes of cells. -/
import Derived.Test.YtdhllcejahdjfaaCells
import Derived.Test.YtdhllcejahdjfaaParts
set_option linter.unusedSimpArgs false
set_option linter.unusedVariables false
namespace Go.Proofs.Ytdhllcejahdjfaa
open Go Go.RowKit Go.Proofs

theorem IntsO.setN {w : World} {b : Nat} {v : Value} {xs : List Int} (h : IntsO w b v xs) {q : Addr} (hq : v.ownBlock ≠ some q.block) (u : Value) : IntsO (w.setCell q u) b v xs := h.set_ne hq u

--@ impl.WriteCell
set_option maxRecDepth 100000 in
set_option maxHeartbeats 1600000 in
theorem c_impl_WriteCell {lo hi : Nat} (v : Value) (s : Ste) (n : Nat) (u : Int) (w : World) (h : StateV w lo hi v s) (hs : s.valid = true) (hn : n < 8) (ha : allocB s.heap ((n : Int) + 1) = true) (hu : valB u = true) :
    Calls Try.prog 26 #[v, .int .i64 ((n : Int) + 1), .int .i64 u] w fun e w' => ∃ r, e = .returned (.tuple #[r, .bool true]) ∧ StateO w' w.heap.size r ⟨s.values, s.heap.set n u⟩ ∧ Below w.heap.size w w' := by
  have hV := Lib.hid h
  obtain ⟨A1, c1, A2, c2, rfl, -, -⟩ := h
  have H8 := Lib.hid (Ste.valid_len hs)
  have HS := Lib.hid hs
  have HA := Lib.hid ha
  have HU := Lib.hid hu
  clear hs ha hu
  go_enter Try.func26, Try.ntmps26
  obtain ⟨k0, k1⟩ := blk2 w tSt tSt #[.slice A1 s.values.length c1, .slice A2 s.heap.length c2] #[.slice none 0 0, .slice none 0 0]
  go_wp2_with fail
  refine (c_impl_StateValid _ s _ (hV.out.below (by repeat (first | (with_reducible exact Below.refl _ _) | (with_reducible assumption) | (with_reducible apply bbox) | ((with_reducible apply Below.setCell); (case hp => (first | exact Nat.le_refl _ | (simp; done) | (simp; omega) | (simp only; omega) | omega))) | (with_reducible apply Below.drew) | (with_reducible apply below_drewN))))).mono ?_
  rintro e w1 ⟨rfl, hB1⟩
  rw [HS.out]
  have hB := bgo (w := w) (by repeat (first | (with_reducible exact Below.refl _ _) | (with_reducible assumption) | (with_reducible apply bbox) | ((with_reducible apply Below.setCell); (case hp => (first | exact Nat.le_refl _ | (simp; done) | (simp; omega) | (simp only; omega) | omega))) | (with_reducible apply Below.drew) | (with_reducible apply below_drewN))) hB1
  (replace k0 := k0.next hB1; replace qk0 := k0.cell; replace rk0 := k0.frozen; replace lk0 := k0.lt; replace k1 := k1.next hB1; replace qk1 := k1.cell; replace rk1 := k1.frozen; replace lk1 := k1.lt)
  clear hB1
  go_wp2_with fail
  refine (c_impl_allocated _ s _ _ (hV.out.below hB) H8.out.2).mono ?_
  rintro e w2 ⟨rfl, hB2⟩
  rw [HA.out]
  (replace hB := bgo hB hB2; replace k0 := k0.next hB2; replace qk0 := k0.cell; replace rk0 := k0.frozen; replace lk0 := k0.lt; replace k1 := k1.next hB2; replace qk1 := k1.cell; replace rk1 := k1.frozen; replace lk1 := k1.lt)
  clear hB2
  go_wp2_with fail
  refine (c_impl_isValue u _).mono ?_
  rintro e w3 ⟨rfl, rfl⟩
  rw [HU.out]
  go_wp2_with fail
  refine (c_impl_copyState _ s _ (hV.out.below hB)).mono ?_
  rintro e w4 ⟨r, rfl, o, hB4⟩
  have hz := hB.size
  (replace hB := bgo hB hB4; replace k0 := k0.next hB4; replace qk0 := k0.cell; replace rk0 := k0.frozen; replace lk0 := k0.lt; replace k1 := k1.next hB4; replace qk1 := k1.cell; replace rk1 := k1.frozen; replace lk1 := k1.lt)
  clear hB4
  obtain ⟨fv, av, rfl, o1, o2, dj⟩ := o
  obtain ⟨F, e1, rfl, -⟩ := o1.reads
  obtain ⟨G, e2, rfl, -⟩ := o2.reads
  have hnl : (n : Int) < (s.heap.length : Int) := by have := H8.out.2; omega
  have hn8 : (n : Int) < 8 := by omega
  obtain ⟨g, cur, -, rfl, hg, kg, hc, hset⟩ := (o2.lower (base' := w.heap.size) hz).cell_ (k := n) (by omega)
  have q := kg.cell n
  rw [hc] at q
  obtain ⟨y, hy⟩ : ∃ y, y = s.heap[n]'(by omega) := ⟨_, rfl⟩
  rw [← hy] at q
  have f := kg.frozen n
  have hgl := kg.lt
  have HSET := Lib.hid (hset u)
  have O1 := Lib.hid (o1.lower (base' := w.heap.size) hz)
  have HD := Lib.hid dj
  have hne : w.heap.size + 1 ≠ g := k1.ne_ kg (by decide)
  have hBW := hB
  clear hset o1 o2 dj hc hy
  go_wp2_with fail
  have k6 := k1.far (p := ⟨g, n, none⟩) hne (.int .i64 u)
  refine bodyPost_ret (v := .tuple #[.agg #[.slice F s.values.length e1, .slice (some ⟨g, 0, none⟩) s.heap.length e2], .bool true]) (by simp [results, Try.results26, go_sem, qk1, lk1]) rfl ⟨_, rfl, ⟨_, _, rfl, ?_, ?_, HD.out⟩, ?_⟩
  · exact (((O1.out.set_ne (q := ⟨g, n, none⟩) (fun e => HD.out g e rfl) (.int .i64 u)).setT k6 (by decide) 0 _).setT (k6.set_ 0 _) (by decide) 1 _).below (bbox (Below.refl _ _) _)
  · exact ((HSET.out.setT k6 (by decide) 0 _).setT (k6.set_ 0 _) (by decide) 1 _).below (bbox (Below.refl _ _) _)
  · exact bbox (((hB.setCell (p := ⟨g, n, none⟩) hg _).setCell (p := ⟨w.heap.size + 1, 0, none⟩) (by simp only; omega) _).setCell (p := ⟨w.heap.size + 1, 1, none⟩) (by simp only; omega) _) _

--@ impl.AllocCell
set_option maxRecDepth 100000 in
set_option maxHeartbeats 3200000 in
theorem c_impl_AllocCell {lo hi : Nat} (v : Value) (s : Ste) (w : World) (h : StateV w lo hi v s) :
    Calls Try.prog 25 #[v] w fun e w' => ∃ r n b, e = .returned (.tuple #[r, .int .i64 n, .bool b]) ∧ ((b = false ∧ r = .agg #[.slice none 0 0, .slice none 0 0]) ∨ (b = true ∧ s.valid = true ∧ ∃ k : Nat, k < 8 ∧ n = (k : Int) + 1 ∧ allocB s.heap ((k : Int) + 1) = false ∧ StateO w' w.heap.size r ⟨s.values, s.heap.set k 0⟩)) ∧ Below w.heap.size w w' := by
  have hV := Lib.hid h
  obtain ⟨A1, c1, A2, c2, rfl, -, -⟩ := h
  go_enter Try.func25, Try.ntmps25
  obtain ⟨k0, k1⟩ := blk2 w tSt tSt #[.slice A1 s.values.length c1, .slice A2 s.heap.length c2] #[.slice none 0 0, .slice none 0 0]
  go_wp2_with fail
  refine (c_impl_StateValid _ s _ (hV.out.below (by repeat (first | (with_reducible exact Below.refl _ _) | (with_reducible assumption) | (with_reducible apply bbox) | ((with_reducible apply Below.setCell); (case hp => (first | exact Nat.le_refl _ | (simp; done) | (simp; omega) | (simp only; omega) | omega))) | (with_reducible apply Below.drew) | (with_reducible apply below_drewN))))).mono ?_
  rintro e w1 ⟨rfl, hB1⟩
  have hB := bgo (w := w) (by repeat (first | (with_reducible exact Below.refl _ _) | (with_reducible assumption) | (with_reducible apply bbox) | ((with_reducible apply Below.setCell); (case hp => (first | exact Nat.le_refl _ | (simp; done) | (simp; omega) | (simp only; omega) | omega))) | (with_reducible apply Below.drew) | (with_reducible apply below_drewN))) hB1
  (replace k0 := k0.next hB1; replace qk0 := k0.cell; replace rk0 := k0.frozen; replace lk0 := k0.lt; replace k1 := k1.next hB1; replace qk1 := k1.cell; replace rk1 := k1.frozen; replace lk1 := k1.lt)
  clear hB1
  cases hs : s.valid
  · clear hs
    go_wp2_with fail
    refine bodyPost_ret (v := .tuple #[.agg #[.slice none 0 0, .slice none 0 0], .int .i64 0, .bool false]) (by simp [results, Try.results25, go_sem, qk1]) rfl ⟨_, _, _, rfl, Or.inl ⟨rfl, rfl⟩, (by repeat (first | (with_reducible exact Below.refl _ _) | (with_reducible assumption) | (with_reducible apply bbox) | ((with_reducible apply Below.setCell); (case hp => (first | exact Nat.le_refl _ | (simp; done) | (simp; omega) | (simp only; omega) | omega))) | (with_reducible apply Below.drew) | (with_reducible apply below_drewN)))⟩
  · have H8 := Lib.hid (Ste.valid_len hs)
    have HS := Lib.hid hs
    clear hs
    go_wp2_with fail
    go_loopw [5] (fun i wr => ∃ k : Nat, k ≤ 8 ∧ i = .int .i64 ((k : Int) + 1) ∧ Blk wr w.heap.size tSt #[.slice A1 s.values.length c1, .slice A2 s.heap.length c2] ∧ Blk wr (w.heap.size + 1) tSt #[.slice none 0 0, .slice none 0 0] ∧ Hid (Below w.heap.size w wr)) (fun i _ => 10 - (intOf i).toNat)
    case atStart => exact ⟨0, by omega, rfl, k0, k1, hB⟩
    case round =>
      clear k0 k1 hB qk0 rk0 lk0 qk1 rk1 lk1
      obtain ⟨k, hk, rfl, k0, k1, HB⟩ := hrel
      (replace qk0 := k0.cell; replace rk0 := k0.frozen; replace lk0 := k0.lt; replace qk1 := k1.cell; replace rk1 := k1.frozen; replace lk1 := k1.lt)
      have hsz := HB.out.size
      by_cases hlt : k < 8
      · have hki : (k : Int) + 1 ≤ 8 := by omega
        go_wp2_with fail
        refine (c_impl_allocated _ s _ _ (hV.out.below HB.out) H8.out.2).mono ?_
        rintro e w2 ⟨rfl, hB2⟩
        have hB3 : Below w.heap.size w w2 := bgo HB.out hB2
        (replace k0 := k0.next hB2; replace qk0 := k0.cell; replace rk0 := k0.frozen; replace lk0 := k0.lt; replace k1 := k1.next hB2; replace qk1 := k1.cell; replace rk1 := k1.frozen; replace lk1 := k1.lt)
        clear hB2
        cases ha : allocB s.heap ((k : Int) + 1)
        · have HA := Lib.hid ha
          clear ha
          go_wp2_with fail
          refine (c_impl_copyState _ s _ (hV.out.below hB3)).mono ?_
          rintro e w4 ⟨r, rfl, o, hB4⟩
          have hz := hB3.size
          (replace hB3 := bgo hB3 hB4; replace k0 := k0.next hB4; replace qk0 := k0.cell; replace rk0 := k0.frozen; replace lk0 := k0.lt; replace k1 := k1.next hB4; replace qk1 := k1.cell; replace rk1 := k1.frozen; replace lk1 := k1.lt)
          clear hB4
          obtain ⟨fv, av, rfl, o1, o2, dj⟩ := o
          obtain ⟨F, e1, rfl, -⟩ := o1.reads
          obtain ⟨G, e2, rfl, -⟩ := o2.reads
          have hnl : (k : Int) < (s.heap.length : Int) := by have := H8.out.2; omega
          obtain ⟨g, cur, -, rfl, hg, kg, hc, hset⟩ := (o2.lower (base' := w.heap.size) hz).cell_ (k := k) (by omega)
          have q := kg.cell k
          rw [hc] at q
          obtain ⟨y, hy⟩ : ∃ y, y = s.heap[k]'(by omega) := ⟨_, rfl⟩
          rw [← hy] at q
          have f := kg.frozen k
          have hgl := kg.lt
          have HSET := Lib.hid (hset 0)
          have O1 := Lib.hid (o1.lower (base' := w.heap.size) hz)
          have HD := Lib.hid dj
          have hne : w.heap.size + 1 ≠ g := k1.ne_ kg (by decide)
          clear hset o1 o2 dj hc hy
          go_wp2_with fail
          have k6 := k1.far (p := ⟨g, k, none⟩) hne (.int .i64 0)
          refine bodyPost_ret (v := .tuple #[.agg #[.slice F s.values.length e1, .slice (some ⟨g, 0, none⟩) s.heap.length e2], .int .i64 ((k : Int) + 1), .bool true]) (by simp [results, Try.results25, go_sem, qk1, lk1]) rfl ⟨_, _, _, rfl, Or.inr ⟨rfl, HS.out, k, hlt, rfl, HA.out, ⟨_, _, rfl, ?_, ?_, HD.out⟩⟩, ?_⟩
          · exact (((O1.out.set_ne (q := ⟨g, k, none⟩) (fun e => HD.out g e rfl) (.int .i64 0)).setT k6 (by decide) 0 _).setT (k6.set_ 0 _) (by decide) 1 _).below (bbox (Below.refl _ _) _)
          · exact ((HSET.out.setT k6 (by decide) 0 _).setT (k6.set_ 0 _) (by decide) 1 _).below (bbox (Below.refl _ _) _)
          · exact bbox (((hB3.setCell (p := ⟨g, k, none⟩) hg _).setCell (p := ⟨w.heap.size + 1, 0, none⟩) (by simp only; omega) _).setCell (p := ⟨w.heap.size + 1, 1, none⟩) (by simp only; omega) _) _
        · clear ha
          go_wp2_with fail
          go_round
          case rel => exact ⟨k + 1, by omega, by go_num, k0, k1, hB3⟩
          case measure => simp [intOf]; omega
      · obtain rfl : k = 8 := by omega
        have hB := HB.out
        go_wp2_with fail
        refine bodyPost_ret (v := .tuple #[.agg #[.slice none 0 0, .slice none 0 0], .int .i64 0, .bool false]) (by simp [results, Try.results25, go_sem, qk1]) rfl ⟨_, _, _, rfl, Or.inl ⟨rfl, rfl⟩, (by repeat (first | (with_reducible exact Below.refl _ _) | (with_reducible assumption) | (with_reducible apply bbox) | ((with_reducible apply Below.setCell); (case hp => (first | exact Nat.le_refl _ | (simp; done) | (simp; omega) | (simp only; omega) | omega))) | (with_reducible apply Below.drew) | (with_reducible apply below_drewN)))⟩
end Go.Proofs.Ytdhllcejahdjfaa
