/- Lists of states: words, appends, comparison, marks. -/
import Derived.Test.YteogcababfenfaaMCasesS
import Derived.Test.YteogcababfenfaaKitS
import Derived.Test.YteogcababfenfaaMDrawT
set_option linter.unusedSimpArgs false
set_option linter.unusedVariables false
namespace Go.Proofs.Yteogcababfenfaa
open Go Go.RowKit Go.Proofs

/-- the rows of numbers in a list of states -/
def rowsS (ss : List Ste) : List (List Int) := ss.flatMap fun s => [s.values, s.heap]
theorem rowsS_len : ∀ (ss : List Ste), (rowsS ss).length = ss.length * 2
  | [] => rfl
  | s :: ss => by
    have := rowsS_len ss
    simp only [rowsS, List.flatMap_cons, List.length_append, List.length_cons, List.length_nil] at this ⊢
    omega
theorem rowsS_get : ∀ (ss : List Ste) (k : Nat) (hk : k < ss.length), (rowsS ss)[k*2]? = some ss[k].values ∧ (rowsS ss)[k*2+1]? = some ss[k].heap
  | s :: ss, 0, _ => by simp [rowsS]
  | s :: ss, k + 1, hk => by
    have h1 := rowsS_get ss k (by simpa using hk)
    have e : rowsS (s :: ss) = [s.values, s.heap] ++ rowsS ss := rfl
    rw [e, List.getElem?_append_right (by simp; omega), List.getElem?_append_right (by simp; omega)]
    simp only [List.length_cons, List.length_nil, List.getElem_cons_succ]
    rw [show (k + 1) * 2 - (0 + 1 + 1) = k * 2 by omega, show (k + 1) * 2 + 1 - (0 + 1 + 1) = k * 2 + 1 by omega]
    exact h1
theorem rowsS_append (ss ts : List Ste) : rowsS (ss ++ ts) = rowsS ss ++ rowsS ts := by simp [rowsS]
def markStS : Int → List Ste → List Ste
  | _, [] => []
  | k, s :: ss => markSt k s :: markStS (k + s.values.length + s.heap.length) ss
theorem markStS_len : ∀ (k : Int) (ss : List Ste), (markStS k ss).length = ss.length
  | _, [] => rfl
  | k, s :: ss => by simp [markStS, markStS_len]
theorem markStS_rows : ∀ (k : Int) (ss : List Ste), rowsS (markStS k ss) = markSS k (rowsS ss)
  | _, [] => rfl
  | k, s :: ss => by
    have h := markStS_rows (k + s.values.length + s.heap.length) ss
    have e : rowsS (s :: ss) = s.values :: s.heap :: rowsS ss := rfl
    rw [e]
    simp only [markSS]
    rw [← h]
    rfl
/-- a row of our own of states, no two of whose rows share a block -/
structure S2O (w : World) (base : Nat) (v : Value) (vs : List Value) (ss : List Ste) : Prop where
  row : w.ownsRow base tSt 2 v ss.length vs
  lim : Lim ss.length
  len : vs.length = (rowsS ss).length
  at_ : ∀ (k : Nat) (h : k < vs.length) (h' : k < (rowsS ss).length), IntsO w base vs[k] (rowsS ss)[k]
  apart : ∀ (i j : Nat) (hi : i < vs.length) (hj : j < vs.length), i < j → ∀ g, vs[i].ownBlock = some g → vs[j].ownBlock ≠ some g
def StesO (w : World) (base : Nat) (v : Value) (ss : List Ste) : Prop := ∃ vs, S2O w base v vs ss
theorem infoSt2 : (Try.prog.info? tSt).map (fun i => (i.zero, i.size, i.bytes)) = some (some (.agg #[.slice none 0 0, .slice none 0 0]), 2, 48) := by kernel_rfl
section
variable {w w' : World} {base base' : Nat} {v : Value} {vs : List Value} {ss : List Ste}
theorem S2O.below (h : S2O w base v vs ss) (hb : Below w.heap.size w w') : S2O w' base v vs ss := ⟨own_below h.row hb, h.lim, h.len, fun k h1 h2 => (h.at_ k h1 h2).below hb, h.apart⟩
theorem StesO.below (h : StesO w base v ss) (hb : Below w.heap.size w w') : StesO w' base v ss := by obtain ⟨vs, h⟩ := h; exact ⟨vs, h.below hb⟩
theorem S2O.lower (h : S2O w base v vs ss) (hb : base' ≤ base) : S2O w base' v vs ss := ⟨own_lower h.row hb, h.lim, h.len, fun k h1 h2 => (h.at_ k h1 h2).lower hb, h.apart⟩
theorem StesO.lower (h : StesO w base v ss) (hb : base' ≤ base) : StesO w base' v ss := by obtain ⟨vs, h⟩ := h; exact ⟨vs, h.lower hb⟩
theorem S2O.nil (w : World) (base : Nat) : S2O w base (.slice none 0 0) [] [] := ⟨World.ownsRow_nil _ _ _ _, by simp [Lim], rfl, fun k h => absurd h (by simp), fun i j h => absurd h (by simp)⟩
theorem S2O.empty (w : World) {g : Nat} (hg : g = w.heap.size) : S2O (w.alloc (.cells #[] tSt)) g (.slice (some ⟨g, 0, none⟩) 0 0) [] [] := by
  subst hg
  exact ⟨own_empty w _ _, by simp [Lim], rfl, fun k h => absurd h (by simp), fun i j h => absurd h (by simp)⟩
theorem S2O.form (h : S2O w base v vs ss) : ∃ A c, v = .slice A ss.length c := by
  obtain ⟨A, c, e, -⟩ := own_reads h.row h.lim
  exact ⟨A, c, e⟩
theorem StesO.form (h : StesO w base v ss) : ∃ A c, v = .slice A ss.length c := by obtain ⟨vs, h⟩ := h; exact h.form
theorem S2O.turn {T : TypeId} {B : Nat} {row : Option Nat} (h : S2O w base v vs ss) (hg : w.grownBy w' row) (hr : Turn T B w row) (h1 : tSt ≠ T) (h2 : tI ≠ T) : S2O w' base v vs ss :=
  ⟨own_turn h.row hg hr h1, h.lim, h.len, fun k a b => ⟨own_turn (h.at_ k a b).1 hg hr h2, (h.at_ k a b).2⟩, h.apart⟩
theorem S2O.setT (h : S2O w base v vs ss) {g : Nat} {t : TypeId} {cs : Array Value} (hk : Blk w g t cs) (h1 : t ≠ tSt) (h2 : t ≠ tI) (i : Nat) (u : Value) : S2O (w.setCell ⟨g, i, none⟩ u) base v vs ss :=
  ⟨own_setT h.row hk h1 i u, h.lim, h.len, fun k a b => (h.at_ k a b).setT hk h2 i u, h.apart⟩
theorem S2O.setb (h : S2O w base v vs ss) {p : Addr} (hp : p.block < base) (u : Value) : S2O (w.setCell p u) base v vs ss :=
  ⟨ownsRow_setCell_below h.row hp u, h.lim, h.len, fun k a b => (h.at_ k a b).setb hp u, h.apart⟩
/-- one more state behind the others: w1 holds the new rows; the append leads to w' -/
theorem S2O.snoc {w1 : World} {s1 s2 v' : Value} {s : Ste} (h : S2O w base v vs ss) (hb : Below w.heap.size w w1) (hn : StateO w1 w.heap.size (.agg #[s1, s2]) s) (hbase : base ≤ w.heap.size) (hl : ss.length + 1 ≤ 1049600)
    (hg : w1.grownBy w' v.ownBlock) (hr : w'.ownsRow base tSt 2 v' (ss.length + 1) (vs ++ [s1, s2])) : S2O w' base v' (vs ++ [s1, s2]) (ss ++ [s]) := by
  have hrow1 := own_below h.row hb
  obtain ⟨_, _, e, n1, n2, dj⟩ := hn
  injection e with e
  injection e with e
  injection e with e1 e2
  injection e2 with e2 e3
  subst e1 e2
  have hlen := h.len
  have er : rowsS (ss ++ [s]) = rowsS ss ++ [s.values, s.heap] := rowsS_append _ _
  refine ⟨by simpa using hr, by simp [Lim]; omega, by rw [er]; simp [hlen], fun k h1 h2 => ?_, fun i j hi hj hij g hgi hgj => ?_⟩
  · by_cases e : k < vs.length
    · have e' : k < (rowsS ss).length := by rw [← h.len]; exact e
      have : IntsO w' base vs[k] (rowsS ss)[k] := ⟨own_grownO ((h.at_ k e e').below hb).1 hrow1 hg (by decide), (h.at_ k e e').2⟩
      simp only [er, List.getElem_append, e, e', dite_true]
      exact this
    · have e' : ¬ k < (rowsS ss).length := by rw [← h.len]; exact e
      have hk : k = vs.length ∨ k = vs.length + 1 := by simp at h1; omega
      simp only [er, List.getElem_append, e, e', dite_false]
      rcases hk with rfl | rfl
      · simp only [← hlen, Nat.sub_self, List.getElem_cons_zero]
        exact ⟨(own_lower (own_grownO n1.1 hrow1 hg (by decide)) hbase), n1.2⟩
      · simp only [← hlen, Nat.add_sub_cancel_left, List.getElem_cons_succ, List.getElem_cons_zero]
        exact ⟨(own_lower (own_grownO n2.1 hrow1 hg (by decide)) hbase), n2.2⟩
  · by_cases ej : j < vs.length
    · have ei : i < vs.length := by omega
      simp only [List.getElem_append, ei, ej, dite_true] at hgi hgj
      exact h.apart i j ei ej hij g hgi hgj
    · have hj' : j = vs.length ∨ j = vs.length + 1 := by simp at hj; omega
      by_cases ei : i < vs.length
      · have e1 : g < w.heap.size := by
          simp only [List.getElem_append, ei, dite_true] at hgi
          exact ((h.at_ i ei (by rw [← h.len]; exact ei)).1.lt g hgi).2
        simp only [List.getElem_append, ej, dite_false] at hgj
        rcases hj' with rfl | rfl
        · simp only [Nat.sub_self, List.getElem_cons_zero] at hgj
          have e2 := (n1.1.lt g hgj).1
          omega
        · simp only [Nat.add_sub_cancel_left, List.getElem_cons_succ, List.getElem_cons_zero] at hgj
          have e2 := (n2.1.lt g hgj).1
          omega
      · have hi' : i = vs.length ∧ j = vs.length + 1 := by omega
        obtain ⟨rfl, rfl⟩ := hi'
        simp only [List.getElem_append, ej, ei, dite_false, Nat.sub_self, Nat.add_sub_cancel_left, List.getElem_cons_succ, List.getElem_cons_zero] at hgi hgj
        exact dj g hgi hgj
/-- a slice that reads as states -/
def StesV (w : World) (lo hi : Nat) (A : Option Addr) (ss : List Ste) : Prop :=
  ∃ vs : List Value, Rd w lo hi 2 A ss.length vs ∧ ∀ (k : Nat) (h : k < vs.length) (h' : k < (rowsS ss).length), ∃ B c, vs[k] = .slice B (rowsS ss)[k].length c ∧ IntsV w lo hi B (rowsS ss)[k]
theorem StesV.below {lo hi : Nat} {A : Option Addr} (h : StesV w lo hi A ss) (hb : Below w.heap.size w w') : StesV w' lo hi A ss := by
  obtain ⟨vs, h1, h2⟩ := h
  exact ⟨vs, h1.below hb, fun k a b => by obtain ⟨B, c, e, h3⟩ := h2 k a b; exact ⟨B, c, e, h3.below hb⟩⟩
theorem StesV.at {lo hi : Nat} {A : Option Addr} (h : StesV w lo hi A ss) {k : Nat} (hk : k < ss.length) : ∃ b o B c D d, A = some ⟨b, o, none⟩ ∧ b < w.heap.size ∧ w.cell? ⟨b, o + k*2, none⟩ = some (.slice B ss[k].values.length c) ∧ w.cell? ⟨b, o + k*2 + 1, none⟩ = some (.slice D ss[k].heap.length d) ∧ IntsV w lo hi B ss[k].values ∧ IntsV w lo hi D ss[k].heap := by
  obtain ⟨vs, h1, h2⟩ := h
  have hl : vs.length = ss.length * 2 := h1.raw.1
  have hr := rowsS_len ss
  obtain ⟨b, o, e, -, -, hc⟩ := h1.raw.form (by omega)
  obtain ⟨g1, g2⟩ := rowsS_get ss k hk
  obtain ⟨B, c, e1, v1⟩ := h2 (k*2) (by omega) (by omega)
  obtain ⟨D, d, e2, v2⟩ := h2 (k*2+1) (by omega) (by omega)
  have x1 : (rowsS ss)[k*2]'(by omega) = ss[k].values := by rw [List.getElem?_eq_getElem (by omega)] at g1; exact Option.some.inj g1
  have x2 : (rowsS ss)[k*2+1]'(by omega) = ss[k].heap := by rw [List.getElem?_eq_getElem (by omega)] at g2; exact Option.some.inj g2
  rw [x1] at e1 v1
  rw [x2] at e2 v2
  have c1 := hc (k*2) _ (List.getElem?_eq_getElem (by omega))
  have c2 := hc (k*2+1) _ (List.getElem?_eq_getElem (by omega))
  rw [e1] at c1
  rw [e2] at c2
  exact ⟨b, o, B, c, D, d, e, block_lt_of_cell c1, c1, c2, v1, v2⟩
theorem S2O.reads {A : Option Addr} {n c : Nat} (h : S2O w base (.slice A n c) vs ss) : n = ss.length ∧ StesV w base w.heap.size A ss := by
  obtain ⟨A', c', e, h1⟩ := own_reads h.row h.lim
  injection e with e1 e2 e3
  subst e1
  refine ⟨e2, vs, h1, fun k a b => ?_⟩
  obtain ⟨B, d, e, h3⟩ := (h.at_ k a b).reads
  exact ⟨B, d, e, h3⟩
end
/-- the word for the exact laws -/
def StesI (w : World) (lo hi : Nat) (v : Value) (ss : List Ste) : Prop := ∃ vs, S2O w lo v vs ss ∧ Und v hi ∧ (∀ (k : Nat) (h : k < vs.length), Und vs[k] hi) ∧ tot (rowsS ss) ≤ 16777216
/-- contracts hand this word over -/
def StesR (w : World) (base : Nat) (v : Value) (ss : List Ste) : Prop := StesO w base v ss ∧ tot (rowsS ss) ≤ 16777216
section
variable {w w' : World} {lo hi a b : Nat} {v : Value} {ss : List Ste}
theorem StesR.I {base : Nat} (h : StesR w base v ss) : StesI w base w.heap.size v ss := by
  obtain ⟨⟨vs, h⟩, hb⟩ := h
  exact ⟨vs, h, fun g hg => (h.row.lt g hg).2, fun k hk g hg => ((h.at_ k hk (by rw [← h.len]; exact hk)).1.lt g hg).2, hb⟩
theorem StesI.below (h : StesI w lo hi v ss) (hb : Below w.heap.size w w') : StesI w' lo hi v ss := by
  obtain ⟨vs, h1, h2⟩ := h; exact ⟨vs, h1.below hb, h2⟩
theorem StesI.mk (h : StesI w lo hi v ss) (hb : Mk (fun g => a ≤ g ∧ g < b) w w') (hd : hi ≤ a ∨ b ≤ lo) : StesI w' lo hi v ss := by
  obtain ⟨vs, h1, h2, h3, h4⟩ := h
  refine ⟨vs, ⟨own_mk h1.row hb fun g hg hp => by have := und_range h1.row h2 g hg; omega, h1.lim, h1.len, fun k x y => ?_, h1.apart⟩, h2, h3, h4⟩
  exact (h1.at_ k x y).mk hb fun g hg hp => by have := und_range (h1.at_ k x y).1 (h3 k x) g hg; omega
theorem StesI.form (h : StesI w lo hi v ss) : ∃ A c, v = .slice A ss.length c := by obtain ⟨vs, h1, -⟩ := h; exact h1.form
theorem StesI.reads {A : Option Addr} {n c : Nat} (h : StesI w lo hi (.slice A n c) ss) : StesV w lo w.heap.size A ss := by obtain ⟨vs, h1, -⟩ := h; exact h1.reads.2
theorem StesI.len (h : StesI w lo hi v ss) : ss.length ≤ 1049600 ∧ tot (rowsS ss) ≤ 16777216 := by obtain ⟨vs, h1, -, -, h4⟩ := h; exact ⟨h1.lim, h4⟩
end

--@ laws.eqStateS
set_option maxHeartbeats 1600000 in
theorem t_stes {lo hi lo' hi' : Nat} (A A' : Option Addr) (c c' : Nat) (x : List Ste) (w : World) (h : StesV w lo hi A x) (h' : StesV w lo' hi' A' x) : Calls Try.prog 12 #[.slice A x.length c, .slice A' x.length c'] w fun e w' => e = .returned (.bool true) ∧ Below w.heap.size w w' := by
  have hl : x.length ≤ 1049600 := by obtain ⟨vs, h1, -⟩ := h; exact h1.lim
  have H := Lib.hid h
  have H' := Lib.hid h'
  clear h h'
  go_enter Try.func12, Try.ntmps12
  go_wp2_with fail
  go_loopw [5] (fun i wr => ∃ k : Nat, k ≤ x.length ∧ i = .int .i64 k ∧ Below w.heap.size w wr) (fun i _ => x.length - (intOf i).toNat)
  case atStart => exact ⟨0, Nat.zero_le _, rfl, bel⟩
  case round =>
    obtain ⟨k, hk, rfl, hB⟩ := hrel
    by_cases hlt : k < x.length
    · obtain ⟨b, o, R, d, R2, d2, rfl, lb, g0, g1, v0, v1⟩ := (H.out.below hB).at hlt
      obtain ⟨b', o', R', d', R2', d2', rfl, lb', g0', g1', v0', v1'⟩ := (H'.out.below hB).at hlt
      have hkx : (k : Int) < (x.length : Int) := by omega
      have S1 : Hid (StateV wr lo hi (.agg #[.slice R x[k].values.length d, .slice R2 x[k].heap.length d2]) x[k]) := Lib.hid ⟨_, _, _, _, rfl, v0, v1⟩
      have S2 : Hid (StateV wr lo' hi' (.agg #[.slice R' x[k].values.length d', .slice R2' x[k].heap.length d2']) x[k]) := Lib.hid ⟨_, _, _, _, rfl, v0', v1'⟩
      clear v0 v1 v0' v1'
      obtain ⟨s, hs⟩ : ∃ s, s = x[k] := ⟨_, rfl⟩
      rw [← hs] at g0 g1 g0' g1' S1 S2
      clear hs
      go_wp2_with fail
      refine wp_region_noPanic ?_
      refine wp_region_held_drew (S := (fun w' => (w'.cell? ⟨b, o + k*2, none⟩ = some (.slice R s.values.length d) ∧ w'.cell? ⟨b, o + k*2 + 1, none⟩ = some (.slice R2 s.heap.length d2)) ∧ w'.cell? ⟨b', o' + k*2, none⟩ = some (.slice R' s.values.length d') ∧ w'.cell? ⟨b', o' + k*2 + 1, none⟩ = some (.slice R2' s.heap.length d2'))) (by kernel_rfl) (⟨⟨g0, g1⟩, g0', g1'⟩) (fun hHeld => ?_)
      refine wpAnyH_take (i := 0) (v := ?_) rfl (by kernel_rfl) (by kernel_rfl) (by kernel_rfl) (fun _ _ _ h => h) (Or.inl ⟨by rfl, fun w hSw => ?_⟩) hHeld ?_
      rotate_left
      · ((try dsimp only at hSw); go_split_ands; go_simp; (try with_reducible rfl))
      try simp only [Act.put, List.getElem_toArray, List.getElem_cons_zero, List.getElem_cons_succ, List.setIfInBounds_toArray, List.set_cons_zero, List.set_cons_succ]
      refine wpAnyH_take (i := 1) (v := ?_) rfl (by kernel_rfl) (by kernel_rfl) (by kernel_rfl) (fun _ _ _ h => h) (Or.inl ⟨by rfl, fun w hSw => ?_⟩) hHeld ?_
      rotate_left
      · ((try dsimp only at hSw); go_split_ands; go_simp; (try with_reducible rfl))
      try simp only [Act.put, List.getElem_toArray, List.getElem_cons_zero, List.getElem_cons_succ, List.setIfInBounds_toArray, List.set_cons_zero, List.set_cons_succ]
      refine wpAnyH_take (i := 2) (v := ?_) rfl (by kernel_rfl) (by kernel_rfl) (by kernel_rfl) (fun _ _ _ h => h) (Or.inl ⟨by rfl, fun w hSw => ?_⟩) hHeld ?_
      rotate_left
      · ((try dsimp only at hSw); go_split_ands; go_simp; (try with_reducible rfl))
      try simp only [Act.put, List.getElem_toArray, List.getElem_cons_zero, List.getElem_cons_succ, List.setIfInBounds_toArray, List.set_cons_zero, List.set_cons_succ]
      refine wpAnyH_take (i := 3) (v := ?_) rfl (by kernel_rfl) (by kernel_rfl) (by kernel_rfl) (fun _ _ _ h => h) (Or.inl ⟨by rfl, fun w hSw => ?_⟩) hHeld ?_
      rotate_left
      · ((try dsimp only at hSw); go_split_ands; go_simp; (try with_reducible rfl))
      try simp only [Act.put, List.getElem_toArray, List.getElem_cons_zero, List.getElem_cons_succ, List.setIfInBounds_toArray, List.set_cons_zero, List.set_cons_succ]
      refine wpAnyH_take (i := 4) (v := ?_) rfl (by kernel_rfl) (by kernel_rfl) (by kernel_rfl) (fun _ _ _ h => h) (Or.inl ⟨by rfl, fun w hSw => ?_⟩) hHeld ?_
      rotate_left
      · ((try dsimp only at hSw); go_split_ands; go_simp; (try with_reducible rfl))
      try simp only [Act.put, List.getElem_toArray, List.getElem_cons_zero, List.getElem_cons_succ, List.setIfInBounds_toArray, List.set_cons_zero, List.set_cons_succ]
      refine wpAnyH_take (i := 5) (v := ?_) rfl (by kernel_rfl) (by kernel_rfl) (by kernel_rfl) (fun _ _ _ h => h) (Or.inl ⟨by rfl, fun w hSw => ?_⟩) hHeld ?_
      rotate_left
      · ((try dsimp only at hSw); go_split_ands; go_simp; (try with_reducible rfl))
      try simp only [Act.put, List.getElem_toArray, List.getElem_cons_zero, List.getElem_cons_succ, List.setIfInBounds_toArray, List.set_cons_zero, List.set_cons_succ]
      refine wpAnyH_take (i := 6) (v := ?_) rfl (by kernel_rfl) (by kernel_rfl) (by kernel_rfl) (fun _ _ _ h => h) (Or.inl ⟨by rfl, fun w hSw => ?_⟩) hHeld ?_
      rotate_left
      · ((try dsimp only at hSw); go_split_ands; go_simp; (try with_reducible rfl))
      try simp only [Act.put, List.getElem_toArray, List.getElem_cons_zero, List.getElem_cons_succ, List.setIfInBounds_toArray, List.set_cons_zero, List.set_cons_succ]
      refine wpAnyH_take (i := 7) (v := ?_) rfl (by kernel_rfl) (by kernel_rfl) (by kernel_rfl) (fun _ _ _ h => h) (Or.inl ⟨by rfl, fun w hSw => ?_⟩) hHeld ?_
      rotate_left
      · ((try dsimp only at hSw); go_split_ands; go_simp; (try with_reducible rfl))
      try simp only [Act.put, List.getElem_toArray, List.getElem_cons_zero, List.getElem_cons_succ, List.setIfInBounds_toArray, List.set_cons_zero, List.set_cons_succ]
      refine wpAnyH_ready (rs := [8]) (by kernel_rfl) (by simp) ?_
      refine AllReadyH.cons rfl (fun K hK => ?_) AllReadyH.nil
      try simp only [List.getElem_toArray, List.getElem_cons_zero, List.getElem_cons_succ]
      (go_simp; refine (t_ste _ _ s _ (S1.out.below bel) (S2.out.below bel)).mono ?_; rintro e w1 ⟨rfl, hB1⟩; have hS := bgo (w := wr) bel hB1)
      refine hK.out _ _ (⟨⟨(hS.cell (p := ⟨b, o + k*2, none⟩) lb).trans g0, (hS.cell (p := ⟨b, o + k*2 + 1, none⟩) lb).trans g1⟩, (hS.cell (p := ⟨b', o' + k*2, none⟩) lb').trans g0', (hS.cell (p := ⟨b', o' + k*2 + 1, none⟩) lb').trans g1'⟩) (fun hHeldN => ?_)
      clear hHeld hK K
      have hHeld := hHeldN
      clear hHeldN
      try simp only [Act.put, List.getElem_toArray, List.getElem_cons_zero, List.getElem_cons_succ, List.setIfInBounds_toArray, List.set_cons_zero, List.set_cons_succ]
      refine wpAnyH_take (i := 9) (v := ?_) rfl (by kernel_rfl) (by kernel_rfl) (by kernel_rfl) (fun _ _ _ h => h) (Or.inl ⟨by rfl, fun w hSw => ?_⟩) hHeld ?_
      rotate_left
      · ((try dsimp only at hSw); go_split_ands; go_simp; (try with_reducible rfl))
      try simp only [Act.put, List.getElem_toArray, List.getElem_cons_zero, List.getElem_cons_succ, List.setIfInBounds_toArray, List.set_cons_zero, List.set_cons_succ]
      refine wpAnyH_done (by kernel_rfl) ?_ _
      refine NoPanic.normal ?_
      have hB2 := bgo hB hS
      go_wp2_with fail
      go_round
      case rel => exact ⟨k + 1, by omega, by go_num, bel⟩
      case measure => simp [intOf]; omega
    · obtain rfl : k = x.length := by omega
      go_wp2_with fail
      go_ret
      exact ⟨rfl, hB⟩

--@ laws.markStateS
theorem S2O.at {w : World} {base n c k : Nat} {A : Option Addr} {vs : List Value} {ss : List Ste} (h : S2O w base (.slice A n c) vs ss) (hk : k < vs.length) (hr : k < (rowsS ss).length) : ∃ b o B d, A = some ⟨b, o, none⟩ ∧ b < w.heap.size ∧ w.cell? ⟨b, o + k, none⟩ = some (.slice B (rowsS ss)[k].length d) ∧ vs[k] = .slice B (rowsS ss)[k].length d := by
  obtain ⟨A', c', e, h1⟩ := own_reads h.row h.lim
  injection e with e1 e2 e3
  subst e1
  have hl : vs.length = ss.length * 2 := h1.raw.1
  obtain ⟨b, o, e, -, -, hc⟩ := h1.raw.form (by omega)
  obtain ⟨B, d, e2, -⟩ := (h.at_ k hk hr).reads
  have c1 := hc k _ (List.getElem?_eq_getElem hk)
  rw [e2] at c1
  exact ⟨b, o, B, d, e, block_lt_of_cell c1, c1, e2⟩
theorem S2O.update {w w' : World} {base j : Nat} {v : Value} {vs : List Value} {ss ss' : List Ste} (h : S2O w base v vs ss) (hj : j < vs.length) (hr : j < (rowsS ss).length) {ys : List Int} (e : rowsS ss' = (rowsS ss).set j ys) (hl : ss'.length = ss.length) (hy : IntsO w' base vs[j] ys) (hM : Mk (fun g => vs[j].ownBlock = some g) w w') : S2O w' base v vs ss' := by
  have hlen := h.len
  have hrow : w'.ownsRow base tSt 2 v ss.length vs := own_mk h.row hM fun g hg hp => own_ne h.row (h.at_ j hj hr).1 (by decide) g hg hp
  refine ⟨by rw [hl]; exact hrow, by rw [hl]; exact h.lim, by rw [e, List.length_set]; exact h.len, fun k h1 h2 => ?_, h.apart⟩
  have h2' : k < (rowsS ss).length := by omega
  have e2 : (rowsS ss')[k] = ((rowsS ss).set j ys)[k]'(by simpa using h2') := by simp only [e]
  rw [e2]
  by_cases ej : j = k
  · subst ej; simpa using hy
  · rw [List.getElem_set_ne ej]
    refine (h.at_ k h1 h2').mk hM fun g hg hp => ?_
    rcases Nat.lt_or_gt_of_ne ej with hlt | hlt
    · exact h.apart j k hj h1 hlt g hp hg
    · exact h.apart k j h1 hj hlt g hg hp
theorem markStS_append : ∀ (k : Int) (xs ys : List Ste), markStS k (xs ++ ys) = markStS k xs ++ markStS (k + tot (rowsS xs)) ys
  | k, [], ys => by simp [markStS, rowsS, tot]
  | k, x :: xs, ys => by
    have e : rowsS (x :: xs) = x.values :: x.heap :: rowsS xs := rfl
    simp only [List.cons_append, markStS, markStS_append, e, tot_cons]
    congr 3
    omega
/-- the first n states are marked -/
def ssTo (k : Int) (x : List Ste) (n : Nat) : List Ste := markStS k (x.take n) ++ x.drop n
/-- .. and the values of the next -/
def ssHalf (k : Int) (x : List Ste) (n : Nat) (s : Ste) : List Ste := markStS k (x.take n) ++ (⟨iota (k + tot (rowsS (x.take n))) s.values.length, s.heap⟩ :: x.drop (n + 1))
theorem ssTo_len (k : Int) (x : List Ste) {n : Nat} (hn : n ≤ x.length) : (ssTo k x n).length = x.length := by simp [ssTo, markStS_len]; omega
theorem ssHalf_len (k : Int) (x : List Ste) {n : Nat} (hn : n < x.length) (s : Ste) : (ssHalf k x n s).length = x.length := by simp [ssHalf, markStS_len]; omega
theorem rows_at {L R : List Ste} {n : Nat} (hL : L.length = n) (s : Ste) (ys : List Int) : (rowsS (L ++ s :: R)).set (n*2) ys = rowsS (L ++ ⟨ys, s.heap⟩ :: R) ∧ (rowsS (L ++ s :: R)).set (n*2+1) ys = rowsS (L ++ ⟨s.values, ys⟩ :: R) := by
  have hl := rowsS_len L
  rw [hL] at hl
  have e (t : Ste) : rowsS (L ++ t :: R) = rowsS L ++ (t.values :: t.heap :: rowsS R) := by rw [rowsS_append]; rfl
  rw [e, e, e]
  constructor
  · rw [set_mid _ _ _ _ hl]; rfl
  · rw [List.set_append, if_neg (by omega), hl, Nat.add_sub_cancel_left]; rfl
theorem ssTo_get (k : Int) (x : List Ste) {n : Nat} (hn : n < x.length) : ssTo k x n = markStS k (x.take n) ++ (x[n] :: x.drop (n + 1)) := by
  unfold ssTo; rw [List.drop_eq_getElem_cons hn]
theorem take_mark_len (k : Int) (x : List Ste) {n : Nat} (hn : n < x.length) : (markStS k (x.take n)).length = n := by rw [markStS_len, List.length_take]; omega
theorem ssHalf_rows (k : Int) (x : List Ste) {n : Nat} (hn : n < x.length) : rowsS (ssHalf k x n x[n]) = (rowsS (ssTo k x n)).set (n*2) (iota (k + tot (rowsS (x.take n))) x[n].values.length) := by
  rw [ssTo_get k x hn, (rows_at (take_mark_len k x hn) _ _).1]; rfl
theorem ssTo_succ (k : Int) (x : List Ste) {n : Nat} (hn : n < x.length) : rowsS (ssTo k x (n + 1)) = (rowsS (ssHalf k x n x[n])).set (n*2+1) (iota (k + tot (rowsS (x.take n)) + x[n].values.length) x[n].heap.length) := by
  unfold ssHalf ssTo
  rw [(rows_at (take_mark_len k x hn) _ _).2, List.take_succ_eq_append_getElem hn, markStS_append, List.append_assoc]
  rfl
theorem ssTo_rows (k : Int) (x : List Ste) {n : Nat} (hn : n < x.length) : (rowsS (ssTo k x n))[n*2]? = some x[n].values ∧ (rowsS (ssHalf k x n x[n]))[n*2+1]? = some x[n].heap := by
  have hl := rowsS_len (markStS k (x.take n))
  rw [take_mark_len k x hn] at hl
  rw [ssTo_get k x hn]
  unfold ssHalf
  have e (t : Ste) : rowsS (markStS k (x.take n) ++ t :: x.drop (n + 1)) = rowsS (markStS k (x.take n)) ++ (t.values :: t.heap :: rowsS (x.drop (n + 1))) := by rw [rowsS_append]; rfl
  rw [e, e, List.getElem?_append_right (by omega), List.getElem?_append_right (by omega), hl]
  simp
theorem tot_rows (x : List Ste) {n : Nat} (hn : n < x.length) : tot (rowsS (x.take (n + 1))) = tot (rowsS (x.take n)) + x[n].values.length + x[n].heap.length := by
  rw [List.take_succ_eq_append_getElem hn, rowsS_append, tot_append]; simp [rowsS, tot]; omega
theorem tot_rows_le (x : List Ste) (n : Nat) : tot (rowsS (x.take n)) ≤ tot (rowsS x) := by
  conv => rhs; rw [← List.take_append_drop n x, rowsS_append, tot_append]
  omega
theorem get_of {α : Type} {l : List α} {n : Nat} {u : α} (h : l[n]? = some u) (hn : n < l.length) : l[n] = u := by rw [List.getElem?_eq_getElem hn] at h; exact Option.some.inj h
set_option maxHeartbeats 3200000 in
theorem m_stes (v : Value) (x : List Ste) (k : Int) (lo hi : Nat) (w : World) (h : StesI w lo hi v x) (h0 : 0 ≤ k) (h1 : k ≤ 274877906944) : Calls Try.prog 15 #[v, .int .i64 k] w fun e w' => e = .returned (.int .i64 (k + tot (rowsS x))) ∧ StesI w' lo hi v (markStS k x) ∧ Mk (fun g => lo ≤ g ∧ g < hi) w w' := by
  obtain ⟨vs, hS, hv, hvs, ht⟩ := h
  have hl : x.length ≤ 1049600 := hS.lim
  have hlen : vs.length = x.length * 2 := by rw [hS.len, rowsS_len]
  obtain ⟨A, c, rfl⟩ := hS.form
  have HS := Lib.hid hS
  have HVS := Lib.hid hvs
  have HV := Lib.hid hv
  have HT := Lib.hid (tot_rows_le x)
  clear hS hvs hv
  go_enter Try.func15, Try.ntmps15
  go_wp2_with fail
  go_loopw [1, 5] (fun q i wr => ∃ n : Nat, n ≤ x.length ∧ i = .int .i64 n ∧ q = .int .i64 (k + tot (rowsS (x.take n))) ∧ Hid (S2O wr lo (.slice A x.length c) vs (ssTo k x n)) ∧ Hid (Mk (fun g => lo ≤ g ∧ g < hi) w wr)) (fun _ i _ => x.length - (intOf i).toNat)
  case atStart => exact ⟨0, Nat.zero_le _, rfl, by simp [tot, rowsS], by show S2O _ _ _ _ _; simpa [ssTo, markStS] using HS.out, Mk.refl _ _⟩
  case round =>
    obtain ⟨n, hn, rfl, rfl, HS2, HM⟩ := hrel
    by_cases hlt : n < x.length
    · have hr1 : (rowsS (ssTo k x n)).length = x.length * 2 := by rw [rowsS_len, ssTo_len k x hn]
      have hr2 : (rowsS (ssHalf k x n x[n])).length = x.length * 2 := by rw [rowsS_len, ssHalf_len k x hlt]
      have hge1 : (rowsS (ssTo k x n))[n*2]'(by omega) = x[n].values := get_of (ssTo_rows k x hlt).1 _
      have hge2 := (ssTo_rows k x hlt).2
      obtain ⟨b, o, R, d, rfl, lb, g0, hvn⟩ := HS2.out.at (k := n*2) (by omega) (by omega)
      have hat := HS2.out.at_ (n*2) (by omega) (by omega)
      rw [hge1] at g0 hvn hat
      rw [hvn] at hat
      have hun := HVS.out (n*2) (by omega)
      rw [hvn] at hun
      have HVN := Lib.hid hvn
      have HR1 := Lib.hid (ssHalf_rows k x hlt)
      have HR2 := Lib.hid (ssTo_succ k x hlt)
      have HTN := Lib.hid (tot_rows x hlt)
      have htn := HT.out n
      have htn1 := HT.out (n + 1)
      rw [HTN.out] at htn1
      have HL1 := Lib.hid (ssHalf_len k x hlt x[n])
      have HL2 := Lib.hid (ssTo_len k x (n := n + 1) hlt)
      have HL0 := Lib.hid (ssTo_len k x hn)
      obtain ⟨X1, hX1⟩ : ∃ X, X = ssHalf k x n x[n] := ⟨_, rfl⟩
      obtain ⟨s, hs⟩ : ∃ s, s = x[n] := ⟨_, rfl⟩
      obtain ⟨T, hT⟩ : ∃ T, T = tot (rowsS (x.take n)) := ⟨_, rfl⟩
      rw [← hX1] at HR1 HR2 HL1 hr2 hge2
      rw [← hs] at g0 hat HR1 HR2 HTN htn1 HVN hge2 hun
      rw [← hT] at HR1 HR2 HTN htn htn1 ⊢
      have HT2 := Lib.hid hT
      have HG2 : Hid (∀ h, (rowsS X1)[n*2+1]'h = s.heap) := Lib.hid fun h => get_of hge2 h
      clear hX1 hs hT hge1 hge2 hvn
      have hnx : (n : Int) < (x.length : Int) := by omega
      have hkn : k + (T : Int) ≤ 549755813888 := by omega
      have hk0 : 0 ≤ k + (T : Int) := by omega
      go_wp2_with fail
      refine (c_markIntS _ s.values (k + (T : Int)) lo _ hat hk0 (by omega)).mono ?_
      rintro e w1 ⟨rfl, h2, h3⟩
      have HS3 : Hid (S2O w1 lo (.slice (some ⟨b, o, none⟩) x.length c) vs X1) :=
        HS2.out.update (j := n*2) (by omega) (by omega) HR1.out (by rw [HL1.out, HL0.out]) (by rw [HVN.out]; exact h2) (by rw [HVN.out]; exact h3)
      have HM3 := Lib.hid (HM.out.trans (h3.mono fun g hg => und_range hat.1 hun g hg))
      clear h2 h3 hat hun
      obtain ⟨b', o', R', d', e', lb', g0', hvn'⟩ := HS3.out.at (k := n*2+1) (by omega) (by omega)
      simp only [Option.some.injEq, Addr.mk.injEq, and_true] at e'
      obtain ⟨rfl, rfl⟩ := e'
      have hat' := HS3.out.at_ (n*2+1) (by omega) (by omega)
      rw [HG2.out] at g0' hvn' hat'
      rw [hvn'] at hat'
      have hun' := HVS.out (n*2+1) (by omega)
      rw [hvn'] at hun'
      have HVN' := Lib.hid hvn'
      clear hvn' g0
      rw [show o + (n*2+1) = o + n*2 + 1 from rfl] at g0'
      go_wp2_with fail
      refine (c_markIntS _ s.heap (k + (T : Int) + s.values.length) lo _ hat' (by omega) (by omega)).mono ?_
      rintro e w2 ⟨rfl, h4, h5⟩
      have HS4 : Hid (S2O w2 lo (.slice (some ⟨b, o, none⟩) x.length c) vs (ssTo k x (n + 1))) :=
        HS3.out.update (j := n*2+1) (by omega) (by omega) HR2.out (by rw [HL1.out, HL2.out]) (by rw [HVN'.out]; exact h4) (by rw [HVN'.out]; exact h5)
      have HM4 := Lib.hid (HM3.out.trans (h5.mono fun g hg => und_range hat'.1 hun' g hg))
      clear h4 h5 hat' hun'
      go_wp2_with fail
      go_round
      case rel => exact ⟨n + 1, by omega, by go_num, by rw [HTN.out]; congr 1; omega, HS4, HM4⟩
      case measure => simp [intOf]; omega
    · obtain rfl : n = x.length := by omega
      go_wp2_with fail
      go_ret
      rw [List.take_length]
      refine ⟨rfl, ⟨vs, ?_, HV.out, HVS.out, by rw [markStS_rows, tot_markSS]; exact ht⟩, HM.out⟩
      have := HS2.out
      rw [ssTo, List.take_length, List.drop_length, List.append_nil] at this
      have hf : (markStS k x).length = x.length := markStS_len _ _
      exact this

--@ laws.heldStateS
theorem markStS_get (k : Int) (x : List Ste) (n : Nat) (hn : n < x.length) (h : n < (markStS k x).length) : (markStS k x)[n] = markSt (k + tot (rowsS (x.take n))) x[n] := by
  have e : (markStS k x)[n]? = some (markSt (k + tot (rowsS (x.take n))) x[n]) := by
    conv => lhs; rw [← List.take_append_drop n x, markStS_append, List.drop_eq_getElem_cons hn]
    rw [List.getElem?_append_right (by rw [markStS_len, List.length_take]; omega), markStS_len]
    simp [Nat.min_eq_left (show n ≤ x.length by omega), markStS]
  exact get_of e h
set_option maxHeartbeats 1600000 in
theorem h_stes {lo hi : Nat} (A : Option Addr) (x : List Ste) (c : Nat) (k : Int) (w : World) (h : StesI w lo hi (.slice A x.length c) (markStS k x)) (h0 : 0 ≤ k) (hk : k ≤ 274877906944) :
    Calls Try.prog 16 #[.slice A x.length c, .int .i64 k] w fun e w' => e = .returned (.int .i64 (k + tot (rowsS x))) ∧ Below w.heap.size w w' := by
  have hl : x.length ≤ 1049600 := by have := h.len.1; rwa [markStS_len] at this
  have ht : tot (rowsS x) ≤ 16777216 := by have := h.len.2; rwa [markStS_rows, tot_markSS] at this
  have H := Lib.hid h.reads
  have HT := Lib.hid (tot_rows_le x)
  clear h
  go_enter Try.func16, Try.ntmps16
  go_wp2_with fail
  go_loop [1, 5] (fun q i => ∃ n : Nat, n ≤ x.length ∧ i = .int .i64 n ∧ q = .int .i64 (k + tot (rowsS (x.take n)))) (fun _ i => x.length - (intOf i).toNat)
  case atStart => exact ⟨0, Nat.zero_le _, rfl, by simp [tot, rowsS]⟩
  case round =>
    obtain ⟨n, hn, rfl, rfl⟩ := hrel
    by_cases hlt : n < x.length
    · obtain ⟨b, o, R, d, R2, d2, rfl, lb, g0, g1, v0, v1⟩ := H.out.at (k := n) (by rw [markStS_len]; exact hlt)
      rw [markStS_get k x n hlt] at g0 v0 g1 v1
      simp only [markSt] at g0 g1 v0 v1
      rw [iota_length] at g0 g1
      have hnx : (n : Int) < (x.length : Int) := by omega
      have htn := HT.out n
      have hk0 : 0 ≤ k + (tot (rowsS (x.take n)) : Int) := by omega
      have HTN := Lib.hid (tot_rows x hlt)
      have htn1 := HT.out (n + 1)
      rw [HTN.out] at htn1
      go_wp2_with fail
      refine (c_heldIntS R x[n].values.length d (k + (tot (rowsS (x.take n)) : Int)) _ v0 hk0 (by omega)).mono ?_
      rintro e w1 ⟨rfl, rfl⟩
      have hge : ¬ (k + (tot (rowsS (x.take n)) : Int) + x[n].values.length < 0) := by omega
      go_wp2_with fail
      refine (c_heldIntS R2 x[n].heap.length d2 (k + (tot (rowsS (x.take n)) : Int) + x[n].values.length) _ v1 (by omega) (by omega)).mono ?_
      rintro e w1 ⟨rfl, rfl⟩
      have hge2 : ¬ (k + (tot (rowsS (x.take n)) : Int) + x[n].values.length + x[n].heap.length < 0) := by omega
      go_wp2_with fail
      go_round
      case rel => exact ⟨n + 1, by omega, by go_num, by rw [HTN.out]; congr 1; omega⟩
      case measure => simp [intOf]; omega
    · obtain rfl : n = x.length := by omega
      go_wp2_with fail
      go_ret
      exact ⟨rfl, Below.refl _ _⟩
end Go.Proofs.Yteogcababfenfaa
