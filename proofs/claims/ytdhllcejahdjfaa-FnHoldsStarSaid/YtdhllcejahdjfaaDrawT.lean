/- What the reader draws: states in which an assertion often holds. -/
import Derived.Test.YtdhllcejahdjfaaDrawS
set_option linter.unusedSimpArgs false
set_option linter.unusedVariables false
namespace Go.Proofs.Ytdhllcejahdjfaa
open Go Go.RowKit Go.Proofs

theorem IntsO.cell_ {w : World} {base : Nat} {A : Option Addr} {n c k : Nat} {fs : List Int} (h : IntsO w base (.slice A n c) fs) (hk : k < fs.length) : ∃ g cur, n = fs.length ∧ A = some ⟨g, 0, none⟩ ∧ base ≤ g ∧ Blk w g tI cur ∧ cur[k]? = some (.int .i64 fs[k]) ∧
    (∀ v : Int, IntsO (w.setCell ⟨g, k, none⟩ (.int .i64 v)) base (.slice A n c) (fs.set k v)) := by
  obtain ⟨⟨hl, h2⟩, hL⟩ := h
  rcases h2 with ⟨e, hn⟩ | ⟨g, cap, cur, e, hb, hh, hn, hm, hs, ht⟩
  · omega
  · injection e with e1 e2 e3
    subst e1 e2 e3
    have hK : Blk w g tI cur := hh
    have hP : Pre cur (encI fs) (fs.length * 1) := by
      intro j hj
      rw [← ht, List.getElem?_take, if_pos hj]; simp
    refine ⟨g, cur, rfl, rfl, hb, hK, (hP _ (by omega)).trans (by simp [List.getElem?_eq_getElem hk]), ?_⟩
    intro v
    refine ⟨?_, by rw [List.length_set]; exact hL⟩
    rw [show encI (fs.set k v) = (encI fs).set k (.int .i64 v) from by simp [encI, List.map_set], List.length_set]
    exact own_of_blk (hK.set_ k (.int .i64 v)) hb (by rw [List.length_set, hl]) (hP.setL k (.int .i64 v) (by rw [hs]; exact Nat.mul_le_mul hn (Nat.le_refl _)) (by rw [hl]; exact Nat.le_refl _)) hn hm (by simpa using hs)
theorem IntsO.set_ne {w : World} {b : Nat} {v : Value} {xs : List Int} (h : IntsO w b v xs) {q : Addr} (hq : v.ownBlock ≠ some q.block) (u : Value) : IntsO (w.setCell q u) b v xs := by
  obtain ⟨⟨h1, h2⟩, h3⟩ := h
  refine ⟨⟨h1, ?_⟩, h3⟩
  rcases h2 with h2 | ⟨k, cap, cur, hv, hk, hh, r⟩
  · exact Or.inl h2
  · exact Or.inr ⟨k, cap, cur, hv, hk, (Below.heap_setCell w q u k (fun e => hq (by rw [hv, ← e]; rfl))).trans hh, r⟩

--@ spec.l4Value
def setV (vs : List Int) (t : Nat) (n : Int) : List Int := if t = 0 then vs else vs.set (t - 1) n
set_option maxRecDepth 100000 in
set_option maxHeartbeats 1600000 in
theorem c_l4Value {base : Nat} (fv hv : Value) (s : Ste) (t : Nat) (n : Int) (w : World) (h : StateO w base (.agg #[fv, hv]) s) (h8 : s.values.length = 8) (ht : t ≤ 8) :
    Calls Try.prog 194 #[.agg #[fv, hv], .int .i64 (t : Int), .int .i64 n] w fun e w' => e = .returned (.agg #[fv, hv]) ∧ StateO w' base (.agg #[fv, hv]) ⟨setV s.values t n, s.heap⟩ ∧ Mk (fun k => fv.ownBlock = some k) w w' := by
  obtain ⟨fv', hv', e, o1, o2, dj⟩ := h
  injection e with e; injection e with e; injection e with e1 e2; injection e2 with e2
  subst e1 e2
  obtain ⟨A1, c1, rfl, -⟩ := o1.reads
  obtain ⟨A2, c2, rfl, -⟩ := o2.reads
  have hti : (t : Int) ≤ 8 := by omega
  by_cases h0 : t = 0
  · subst h0
    have O1 := Lib.hid o1
    have O2 := Lib.hid o2
    have HD := Lib.hid dj
    clear o1 o2 dj h8
    have hne : w.heap.size ≠ w.heap.size + 1 := by omega
    go_enter Try.func194, Try.ntmps194
    go_wp2_with fail
    refine bodyPost_ret (v := .agg #[.slice A1 s.values.length c1, .slice A2 s.heap.length c2]) (by simp [results, Try.results194, go_sem]) rfl ⟨rfl, ⟨_, _, rfl, ?_, ?_, HD.out⟩, ?_⟩
    · exact O1.out.below (by repeat (first | (with_reducible exact Below.refl _ _) | (with_reducible assumption) | (with_reducible apply bbox) | ((with_reducible apply Below.setCell); (case hp => (first | exact Nat.le_refl _ | (simp; done) | (simp; omega) | (simp only; omega) | omega))) | (with_reducible apply Below.drew) | (with_reducible apply below_drewN)))
    · exact O2.out.below (by repeat (first | (with_reducible exact Below.refl _ _) | (with_reducible assumption) | (with_reducible apply bbox) | ((with_reducible apply Below.setCell); (case hp => (first | exact Nat.le_refl _ | (simp; done) | (simp; omega) | (simp only; omega) | omega))) | (with_reducible apply Below.drew) | (with_reducible apply below_drewN)))
    · exact Mk.below_ (by repeat (first | (with_reducible exact Below.refl _ _) | (with_reducible assumption) | (with_reducible apply bbox) | ((with_reducible apply Below.setCell); (case hp => (first | exact Nat.le_refl _ | (simp; done) | (simp; omega) | (simp only; omega) | omega))) | (with_reducible apply Below.drew) | (with_reducible apply below_drewN)))
  · obtain ⟨m, rfl⟩ : ∃ m, t = m + 1 := ⟨t - 1, by omega⟩
    obtain ⟨g, cur, -, rfl, hg, kg, hc, hset⟩ := o1.cell_ (k := m) (by omega)
    have hgl := kg.lt
    have H8 := Lib.hid h8
    have HSET := Lib.hid (hset n)
    have O2 := Lib.hid o2
    have HD := Lib.hid dj
    have hmi : (m : Int) < (s.values.length : Int) := by omega
    have e0 : ((m + 1 : Nat) : Int) = (m : Int) + 1 := by omega
    rw [e0]
    have hpos : (0 : Int) < (m : Int) + 1 := by omega
    have q := kg.cell m
    rw [hc] at q
    obtain ⟨y, hy⟩ : ∃ y, y = s.values[m]'(by omega) := ⟨_, rfl⟩
    rw [← hy] at q
    have f := kg.frozen m
    clear hset o1 o2 dj hc hti h0 e0 hy h8
    go_enter Try.func194, Try.ntmps194
    go_wp2_with fail
    refine bodyPost_ret (v := .agg #[.slice (some ⟨g, 0, none⟩) s.values.length c1, .slice A2 s.heap.length c2]) (by simp [results, Try.results194, go_sem]) rfl ⟨rfl, ⟨_, _, rfl, ?_, ?_, HD.out⟩, ?_⟩
    · show IntsO _ base _ (setV s.values (m + 1) n)
      unfold setV
      rw [if_neg (by omega), Nat.add_sub_cancel]
      exact HSET.out.below (by repeat (first | (with_reducible exact Below.refl _ _) | (with_reducible assumption) | (with_reducible apply bbox) | ((with_reducible apply Below.setCell); (case hp => (first | exact Nat.le_refl _ | (simp; done) | (simp; omega) | (simp only; omega) | omega))) | (with_reducible apply Below.drew) | (with_reducible apply below_drewN)))
    · exact (O2.out.set_ne (q := ⟨g, m, none⟩) (HD.out g rfl) (.int .i64 n)).below (by repeat (first | (with_reducible exact Below.refl _ _) | (with_reducible assumption) | (with_reducible apply bbox) | ((with_reducible apply Below.setCell); (case hp => (first | exact Nat.le_refl _ | (simp; done) | (simp; omega) | (simp only; omega) | omega))) | (with_reducible apply Below.drew) | (with_reducible apply below_drewN)))
    · refine Mk.trans (a := w.setCell ⟨g, m, none⟩ (.int .i64 n)) ?_ (Mk.below_ (by repeat (first | (with_reducible exact Below.refl _ _) | (with_reducible assumption) | (with_reducible apply bbox) | ((with_reducible apply Below.setCell); (case hp => (first | exact Nat.le_refl _ | (simp; done) | (simp; omega) | (simp only; omega) | omega))) | (with_reducible apply Below.drew) | (with_reducible apply below_drewN))))
      exact Mk.set (Mk.refl _ w) (x := ⟨g, m, none⟩) (p := fun k => (Value.slice (some ⟨g, 0, none⟩) s.values.length c1).ownBlock = some k) rfl (.int .i64 n)

--@ spec.l4Known
set_option maxRecDepth 100000 in
set_option maxHeartbeats 1600000 in
theorem c_l4Known {lo hi : Nat} (v : Value) (s : Ste) (n : Int) (w : World) (h : StateV w lo hi v s) : Calls Try.prog 195 #[v, .int .i64 n] w fun e w' => ∃ b, e = .returned (.bool b) ∧ Below w.heap.size w w' := by
  obtain ⟨A1, c1, A2, c2, rfl, h1, h2⟩ := h
  have H1 := Lib.hid h1
  have hl1 := h1.le
  clear h1 h2
  go_enter Try.func195, Try.ntmps195
  have k0 : Blk (w.alloc (.cells #[.slice A1 s.values.length c1, .slice A2 s.heap.length c2] 38)) w.heap.size 38 #[.slice A1 s.values.length c1, .slice A2 s.heap.length c2] := (by repeat (first | (with_reducible assumption) | (with_reducible exact Blk.new _ _ _) | ((with_reducible apply Blk.far); (case hp => (first | exact Nat.le_refl _ | (simp; done) | (simp; omega) | (simp only; omega) | omega))) | (with_reducible apply Blk.set_) | ((with_reducible refine Blk.newE ?_); (simp; done)) | (with_reducible apply Blk.alloc) | (with_reducible apply Blk.drew) | (with_reducible apply Blk.drewN)))
  have hB : Below w.heap.size w (w.alloc (.cells #[.slice A1 s.values.length c1, .slice A2 s.heap.length c2] 38)) := (by repeat (first | (with_reducible exact Below.refl _ _) | (with_reducible assumption) | (with_reducible apply bbox) | ((with_reducible apply Below.setCell); (case hp => (first | exact Nat.le_refl _ | (simp; done) | (simp; omega) | (simp only; omega) | omega))) | (with_reducible apply Below.drew) | (with_reducible apply below_drewN)))
  go_wp2_with fail
  generalize (w.alloc (.cells #[.slice A1 s.values.length c1, .slice A2 s.heap.length c2] 38)) = W at k0 hB ⊢
  (replace qk0 := k0.cell; replace rk0 := k0.frozen; replace lk0 := k0.lt)
  go_loop [5] (fun i => ∃ k : Nat, k ≤ s.values.length ∧ i = .int .i64 k) (fun i => s.values.length - (intOf i).toNat)
  case atStart => exact ⟨0, Nat.zero_le _, rfl⟩
  case round =>
    obtain ⟨k, hk, rfl⟩ := hrel
    by_cases hlt : k < s.values.length
    · obtain ⟨b, off, rfl, g0⟩ := (H1.out.below hB).at hlt
      have hki : (k : Int) < (s.values.length : Int) := by omega
      obtain ⟨f, hf⟩ : ∃ f, f = s.values[k] := ⟨_, rfl⟩
      rw [← hf] at g0
      clear hf
      by_cases f1 : f = n
      · have e1 : (f == n) = true := by simpa using f1
        clear f1
        go_wp2_with fail
        go_ret
        exact ⟨Or.inr rfl, (by repeat (first | (with_reducible exact Below.refl _ _) | (with_reducible assumption) | (with_reducible apply bbox) | ((with_reducible apply Below.setCell); (case hp => (first | exact Nat.le_refl _ | (simp; done) | (simp; omega) | (simp only; omega) | omega))) | (with_reducible apply Below.drew) | (with_reducible apply below_drewN)))⟩
      · have e1 : (f == n) = false := by simpa using f1
        clear f1
        go_wp2_with fail
        go_round
        case rel => exact ⟨k + 1, by omega, by go_num⟩
        case measure => simp [intOf]; omega
    · obtain rfl : k = s.values.length := by omega
      go_wp2_with fail
      go_ret
      exact ⟨Or.inl rfl, (by repeat (first | (with_reducible exact Below.refl _ _) | (with_reducible assumption) | (with_reducible apply bbox) | ((with_reducible apply Below.setCell); (case hp => (first | exact Nat.le_refl _ | (simp; done) | (simp; omega) | (simp only; omega) | omega))) | (with_reducible apply Below.drew) | (with_reducible apply below_drewN)))⟩
end Go.Proofs.Ytdhllcejahdjfaa
