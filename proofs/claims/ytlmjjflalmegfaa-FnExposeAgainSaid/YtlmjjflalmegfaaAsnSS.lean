/- Lists of assertions: words, comparison, marks. -/
import Derived.Test.YtlmjjflalmegfaaMCasesOf
import Derived.Test.YtlmjjflalmegfaaExt
set_option linter.unusedSimpArgs false
set_option linter.unusedVariables false
namespace Go.Proofs.Ytlmjjflalmegfaa
open Go Go.RowKit Go.Proofs

/-- a row of facts or of atoms -/
abbrev RowT := List Fct ⊕ List Atm
def rlen : RowT → Nat | .inl fs => fs.length | .inr xs => xs.length
def RowO (w : World) (base : Nat) (v : Value) : RowT → Prop | .inl fs => FactsO w base v fs | .inr xs => AtomsO w base v xs
def RowV (w : World) (lo hi : Nat) (A : Option Addr) : RowT → Prop | .inl fs => FactsV w lo hi A fs | .inr xs => AtomsV w lo hi A xs
section
variable {w w' : World} {base base' lo hi : Nat} {v : Value} {A : Option Addr}
theorem RowO.below {r : RowT} (h : RowO w base v r) (hb : Below w.heap.size w w') : RowO w' base v r := by cases r; exact FactsO.below h hb; exact AtomsO.below h hb
theorem RowO.lower {r : RowT} (h : RowO w base v r) (hb : base' ≤ base) : RowO w base' v r := by cases r; exact FactsO.lower h hb; exact AtomsO.lower h hb
theorem RowO.setT {r : RowT} (h : RowO w base v r) {g : Nat} {t : TypeId} {cs : Array Value} (hk : Blk w g t cs) (h1 : t ≠ tF) (h2 : t ≠ tA) (i : Nat) (u : Value) : RowO (w.setCell ⟨g, i, none⟩ u) base v r := by cases r; exact FactsO.setT h hk h1 i u; exact AtomsO.setT h hk h2 i u
theorem RowO.setb {r : RowT} (h : RowO w base v r) {p : Addr} (hp : p.block < base) (u : Value) : RowO (w.setCell p u) base v r := by cases r; exact FactsO.setb h hp u; exact AtomsO.setb h hp u
theorem RowO.lt {r : RowT} (h : RowO w base v r) : ∀ g, v.ownBlock = some g → base ≤ g ∧ g < w.heap.size := by cases r; exact h.1.lt; exact h.1.lt
theorem RowO.mk {p : Nat → Prop} {r : RowT} (h : RowO w base v r) (hb : Mk p w w') (hp : ∀ g, v.ownBlock = some g → ¬ p g) : RowO w' base v r := by cases r; exact FactsO.mk h hb hp; exact AtomsO.mk h hb hp
theorem RowO.ne {r : RowT} (h : RowO w base v r) {e : TypeId} {b s n : Nat} {v' : Value} {xs : List Value} (h' : w.ownsRow b e s v' n xs) (h1 : e ≠ tF) (h2 : e ≠ tA) : ∀ g, v'.ownBlock = some g → v.ownBlock ≠ some g := by
  cases r
  · exact own_ne h' h.1 h1
  · exact own_ne h' h.1 h2
theorem RowO.grown {r : RowT} (h : RowO w base v r) {e : TypeId} {b s n : Nat} {v' : Value} {xs : List Value} (h' : w.ownsRow b e s v' n xs) (hg : w.grownBy w' v'.ownBlock) (h1 : tF ≠ e) (h2 : tA ≠ e) : RowO w' base v r := by
  cases r
  · exact ⟨own_grownO h.1 h' hg h1, h.2⟩
  · exact ⟨own_grownO h.1 h' hg h2, h.2⟩
theorem RowO.turn {T : TypeId} {B : Nat} {row : Option Nat} {r : RowT} (h : RowO w base v r) (hg : w.grownBy w' row) (hr : Turn T B w row) (h1 : tF ≠ T) (h2 : tA ≠ T) : RowO w' base v r := by
  cases r
  · exact ⟨own_turn h.1 hg hr h1, h.2⟩
  · exact ⟨own_turn h.1 hg hr h2, h.2⟩
theorem RowO.reads {r : RowT} (h : RowO w base v r) : ∃ B c, v = .slice B (rlen r) c ∧ RowV w base w.heap.size B r := by
  cases r
  · obtain ⟨B, c, e, h1⟩ := FactsO.reads h; exact ⟨B, c, e, h1⟩
  · obtain ⟨B, c, e, h1⟩ := AtomsO.reads h; exact ⟨B, c, e, h1⟩
theorem RowV.below {r : RowT} (h : RowV w lo hi A r) (hb : Below w.heap.size w w') : RowV w' lo hi A r := by cases r; exact FactsV.below h hb; exact AtomsV.below h hb
end
def totR (rs : List RowT) : Nat := (rs.map fun r => 3 * rlen r).sum
theorem totR_cons (r : RowT) (rs : List RowT) : totR (r :: rs) = 3 * rlen r + totR rs := by simp [totR]
theorem totR_append (xs ys : List RowT) : totR (xs ++ ys) = totR xs + totR ys := by simp [totR]
def markR (k : Int) : RowT → RowT | .inl fs => .inl (markF k fs.length) | .inr xs => .inr (markA k xs.length)
/-- the rows in a list of assertions -/
def rowsA (ss : List Asn) : List RowT := ss.flatMap fun s => [.inl s.facts, .inr s.atoms]
theorem rowsA_len : ∀ (ss : List Asn), (rowsA ss).length = ss.length * 2
  | [] => rfl
  | s :: ss => by
    have := rowsA_len ss
    simp only [rowsA, List.flatMap_cons, List.length_append, List.length_cons, List.length_nil] at this ⊢
    omega
theorem rowsA_get : ∀ (ss : List Asn) (k : Nat) (hk : k < ss.length), (rowsA ss)[k*2]? = some (.inl ss[k].facts) ∧ (rowsA ss)[k*2+1]? = some (.inr ss[k].atoms)
  | s :: ss, 0, _ => by simp [rowsA]
  | s :: ss, k + 1, hk => by
    have h1 := rowsA_get ss k (by simpa using hk)
    have e : rowsA (s :: ss) = [.inl s.facts, .inr s.atoms] ++ rowsA ss := rfl
    rw [e, List.getElem?_append_right (by simp; omega), List.getElem?_append_right (by simp; omega)]
    simp only [List.length_cons, List.length_nil, List.getElem_cons_succ]
    rw [show (k + 1) * 2 - (0 + 1 + 1) = k * 2 by omega, show (k + 1) * 2 + 1 - (0 + 1 + 1) = k * 2 + 1 by omega]
    exact h1
theorem rowsA_append (ss ts : List Asn) : rowsA (ss ++ ts) = rowsA ss ++ rowsA ts := by simp [rowsA]
def totA (ss : List Asn) : Nat := totR (rowsA ss)
theorem totA_cons (s : Asn) (ss : List Asn) : totA (s :: ss) = 3 * s.facts.length + 3 * s.atoms.length + totA ss := by
  have e : rowsA (s :: ss) = .inl s.facts :: .inr s.atoms :: rowsA ss := rfl
  unfold totA; rw [e, totR_cons, totR_cons]; simp only [rlen]; omega
theorem totA_append (xs ys : List Asn) : totA (xs ++ ys) = totA xs + totA ys := by unfold totA; rw [rowsA_append, totR_append]
theorem totA_le {n m : Nat} : ∀ {ss : List Asn}, (∀ s ∈ ss, s.facts.length ≤ n ∧ s.atoms.length ≤ m) → totA ss ≤ ss.length * (3 * n + 3 * m)
  | [], _ => by simp [totA, totR, rowsA]
  | s :: ss, h => by
    have h1 := totA_le (ss := ss) fun x hx => h x (List.mem_cons_of_mem _ hx)
    have h2 := h s (List.mem_cons_self ..)
    rw [totA_cons, List.length_cons, Nat.add_mul, Nat.one_mul]
    omega
def markAsS : Int → List Asn → List Asn
  | _, [] => []
  | k, s :: ss => markAs k s :: markAsS (k + 3 * s.facts.length + 3 * s.atoms.length) ss
theorem markAsS_len : ∀ (k : Int) (ss : List Asn), (markAsS k ss).length = ss.length
  | _, [] => rfl
  | k, s :: ss => by simp [markAsS, markAsS_len]
theorem totA_mark : ∀ (k : Int) (ss : List Asn), totA (markAsS k ss) = totA ss
  | _, [] => rfl
  | k, s :: ss => by simp [markAsS, totA_cons, totA_mark, markAs, markF_length, markA_length]
/-- the elements of a row of assertions: no two share a block -/
structure AEls (w : World) (base : Nat) (vs : List Value) (ss : List Asn) : Prop where
  len : vs.length = (rowsA ss).length
  at_ : ∀ (k : Nat) (h : k < vs.length) (h' : k < (rowsA ss).length), RowO w base vs[k] (rowsA ss)[k]
  apart : ∀ (i j : Nat) (hi : i < vs.length) (hj : j < vs.length), i < j → ∀ g, vs[i].ownBlock = some g → vs[j].ownBlock ≠ some g
/-- a row of our own of assertions -/
structure A2O (w : World) (base : Nat) (v : Value) (vs : List Value) (ss : List Asn) : Prop where
  row : w.ownsRow base tAs 2 v ss.length vs
  lim : Lim ss.length
  els : AEls w base vs ss
theorem infoAs2 : (Try.prog.info? tAs).map (fun i => (i.zero, i.size, i.bytes)) = some (some (.agg #[.slice none 0 0, .slice none 0 0]), 2, 48) := by kernel_rfl
section
variable {w w' : World} {base base' mid : Nat} {v : Value} {vs vs2 : List Value} {ss ss2 : List Asn}
theorem AEls.below (h : AEls w base vs ss) (hb : Below w.heap.size w w') : AEls w' base vs ss := ⟨h.len, fun k h1 h2 => (h.at_ k h1 h2).below hb, h.apart⟩
theorem AEls.lower (h : AEls w base vs ss) (hb : base' ≤ base) : AEls w base' vs ss := ⟨h.len, fun k h1 h2 => (h.at_ k h1 h2).lower hb, h.apart⟩
theorem AEls.setb (h : AEls w base vs ss) {p : Addr} (hp : p.block < base) (u : Value) : AEls (w.setCell p u) base vs ss := ⟨h.len, fun k a b => (h.at_ k a b).setb hp u, h.apart⟩
theorem AEls.setT (h : AEls w base vs ss) {g : Nat} {t : TypeId} {cs : Array Value} (hk : Blk w g t cs) (h1 : t ≠ tF) (h2 : t ≠ tA) (i : Nat) (u : Value) : AEls (w.setCell ⟨g, i, none⟩ u) base vs ss := ⟨h.len, fun k a b => (h.at_ k a b).setT hk h1 h2 i u, h.apart⟩
theorem AEls.grown (h : AEls w base vs ss) {e : TypeId} {b s n : Nat} {v' : Value} {xs : List Value} (h' : w.ownsRow b e s v' n xs) (hg : w.grownBy w' v'.ownBlock) (h1 : tF ≠ e) (h2 : tA ≠ e) : AEls w' base vs ss := ⟨h.len, fun k a b => (h.at_ k a b).grown h' hg h1 h2, h.apart⟩
theorem AEls.turn {T : TypeId} {B : Nat} {row : Option Nat} (h : AEls w base vs ss) (hg : w.grownBy w' row) (hr : Turn T B w row) (h1 : tF ≠ T) (h2 : tA ≠ T) : AEls w' base vs ss := ⟨h.len, fun k a b => (h.at_ k a b).turn hg hr h1 h2, h.apart⟩
theorem AEls.nil (w : World) (base : Nat) : AEls w base [] [] := ⟨rfl, fun k h => absurd h (by simp), fun i j h => absurd h (by simp)⟩
theorem AEls.und (h : AEls w base vs ss) : ∀ (k : Nat) (hk : k < vs.length), Und vs[k] w.heap.size := fun k hk g hg => ((h.at_ k hk (by rw [← h.len]; exact hk)).lt g hg).2
theorem AEls.one {s1 s2 : Value} {s : Asn} (h : AsnO w base (.agg #[s1, s2]) s) : AEls w base [s1, s2] [s] := by
  obtain ⟨_, _, e, n1, n2⟩ := h
  injection e with e
  injection e with e
  injection e with e1 e2
  injection e2 with e2 e3
  subst e1 e2
  refine ⟨rfl, fun k h1 h2 => ?_, fun i j hi hj hij g hgi hgj => ?_⟩
  · have hk : k = 0 ∨ k = 1 := by simp at h1; omega
    rcases hk with rfl | rfl
    · exact n1
    · exact n2
  · have : i = 0 ∧ j = 1 := by simp at hj; omega
    obtain ⟨rfl, rfl⟩ := this
    exact own_ne n1.1 n2.1 (by decide) g hgi hgj
theorem AEls.cat (h : AEls w base vs ss) (h2 : AEls w mid vs2 ss2) (hb : base ≤ mid) (hu : ∀ (k : Nat) (hk : k < vs.length), Und vs[k] mid) : AEls w base (vs ++ vs2) (ss ++ ss2) := by
  have er := rowsA_append ss ss2
  have hlen := h.len
  refine ⟨by rw [er, List.length_append, List.length_append, h.len, h2.len], fun k k1 k2 => ?_, fun i j hi hj hij g hgi hgj => ?_⟩
  · by_cases e : k < vs.length
    · have e' : k < (rowsA ss).length := by omega
      simp only [er, List.getElem_append, e, e', dite_true]
      exact h.at_ k e e'
    · have e' : ¬ k < (rowsA ss).length := by omega
      simp only [er, List.getElem_append, e, e', dite_false]
      have l1 : k - vs.length < vs2.length := by simp at k1; omega
      have l2 : k - (rowsA ss).length < (rowsA ss2).length := by rw [er] at k2; simp at k2; omega
      have := h2.at_ (k - vs.length) l1 (by rw [← h2.len]; exact l1)
      have e3 : k - vs.length = k - (rowsA ss).length := by omega
      simp only [e3] at this ⊢
      exact this.lower hb
  · by_cases ej : j < vs.length
    · have ei : i < vs.length := by omega
      simp only [List.getElem_append, ei, ej, dite_true] at hgi hgj
      exact h.apart i j ei ej hij g hgi hgj
    · have lj : j - vs.length < vs2.length := by simp at hj; omega
      by_cases ei : i < vs.length
      · simp only [List.getElem_append, ei, ej, dite_true, dite_false] at hgi hgj
        have e1 := hu i ei g hgi
        have e2 := ((h2.at_ (j - vs.length) lj (by rw [← h2.len]; exact lj)).lt g hgj).1
        omega
      · simp only [List.getElem_append, ei, ej, dite_false] at hgi hgj
        exact h2.apart (i - vs.length) (j - vs.length) (by omega) lj (by omega) g hgi hgj
theorem A2O.below (h : A2O w base v vs ss) (hb : Below w.heap.size w w') : A2O w' base v vs ss := ⟨own_below h.row hb, h.lim, h.els.below hb⟩
theorem A2O.lower (h : A2O w base v vs ss) (hb : base' ≤ base) : A2O w base' v vs ss := ⟨own_lower h.row hb, h.lim, h.els.lower hb⟩
theorem A2O.setb (h : A2O w base v vs ss) {p : Addr} (hp : p.block < base) (u : Value) : A2O (w.setCell p u) base v vs ss := ⟨ownsRow_setCell_below h.row hp u, h.lim, h.els.setb hp u⟩
theorem A2O.setT (h : A2O w base v vs ss) {g : Nat} {t : TypeId} {cs : Array Value} (hk : Blk w g t cs) (h0 : t ≠ tAs) (h1 : t ≠ tF) (h2 : t ≠ tA) (i : Nat) (u : Value) : A2O (w.setCell ⟨g, i, none⟩ u) base v vs ss :=
  ⟨own_setT h.row hk h0 i u, h.lim, h.els.setT hk h1 h2 i u⟩
theorem A2O.nil (w : World) (base : Nat) : A2O w base (.slice none 0 0) [] [] := ⟨World.ownsRow_nil _ _ _ _, by simp [Lim], AEls.nil _ _⟩
theorem A2O.empty (w : World) {g : Nat} (hg : g = w.heap.size) : A2O (w.alloc (.cells #[] tAs)) g (.slice (some ⟨g, 0, none⟩) 0 0) [] [] := by
  subst hg
  exact ⟨own_empty w _ _, by simp [Lim], AEls.nil _ _⟩
theorem A2O.ofBlk {g : Nat} (h : Blk w g tAs #[]) (hb : base ≤ g) : A2O w base (.slice (some ⟨g, 0, none⟩) 0 0) [] [] := ⟨own_ofBlk h hb, by simp [Lim], AEls.nil _ _⟩
/-- a literal with one assertion -/
theorem A2O.one {g : Nat} {s1 s2 : Value} {s : Asn} (hk : Blk w g tAs #[s1, s2]) (hg : base ≤ g) (h : AsnO w base (.agg #[s1, s2]) s) : A2O w base (.slice (some ⟨g, 0, none⟩) 1 1) [s1, s2] [s] :=
  ⟨own_of_blk hk hg rfl (fun j hj => by
    match j, hj with
    | 0, _ => rfl
    | 1, _ => rfl) (Nat.le_refl _) (by decide) rfl, by simp [Lim], AEls.one h⟩
theorem A2O.form (h : A2O w base v vs ss) : ∃ A c, v = .slice A ss.length c := by
  obtain ⟨A, c, e, -⟩ := own_reads h.row h.lim
  exact ⟨A, c, e⟩
theorem A2O.und (h : A2O w base v vs ss) : Und v w.heap.size := fun g hg => (h.row.lt g hg).2
/-- what the append of a read list makes -/
theorem A2O.cat {w1 : World} {v' v2 : Value} (h : A2O w base v vs ss) (hb : Below w.heap.size w w1) (h2 : A2O w1 mid v2 vs2 ss2) (hbm : base ≤ mid) (hm : w.heap.size ≤ mid) (hl : ss.length + ss2.length ≤ 1049600)
    (hg : w1.grownBy w' v.ownBlock) (hr : w'.ownsRow base tAs 2 v' (ss.length + ss2.length) (vs ++ vs2)) : A2O w' base v' (vs ++ vs2) (ss ++ ss2) := by
  have hrow := own_below h.row hb
  refine ⟨by rw [List.length_append]; exact hr, by rw [List.length_append]; exact hl, ?_⟩
  exact ((h.els.below hb).grown hrow hg (by decide) (by decide)).cat (h2.els.grown hrow hg (by decide) (by decide)) hbm fun k hk => (h.els.und k hk).mono hm
theorem RowO.one {w : World} {b : Nat} {v : Value} {r : RowT} (h : RowO w b v r) : v.oneCell' = true := by obtain ⟨A, c, rfl, -⟩ := h.reads; rfl
theorem AEls.one_cell (h : AEls w base vs ss) : ∀ u ∈ vs, u.oneCell' = true := by
  intro u hu
  obtain ⟨k, hk, rfl⟩ := List.getElem_of_mem hu
  exact (h.at_ k hk (by rw [← h.len]; exact hk)).one
/-- a slice that reads as assertions -/
def AsnsV (w : World) (lo hi : Nat) (A : Option Addr) (ss : List Asn) : Prop :=
  ∃ vs : List Value, Rd w lo hi 2 A ss.length vs ∧ ∀ (k : Nat) (h : k < vs.length) (h' : k < (rowsA ss).length), ∃ B c, vs[k] = .slice B (rlen (rowsA ss)[k]) c ∧ RowV w lo hi B (rowsA ss)[k]
theorem AsnsV.below {lo hi : Nat} {A : Option Addr} (h : AsnsV w lo hi A ss) (hb : Below w.heap.size w w') : AsnsV w' lo hi A ss := by
  obtain ⟨vs, h1, h2⟩ := h
  exact ⟨vs, h1.below hb, fun k a b => by obtain ⟨B, c, e, h3⟩ := h2 k a b; exact ⟨B, c, e, h3.below hb⟩⟩
theorem AsnsV.at {lo hi : Nat} {A : Option Addr} (h : AsnsV w lo hi A ss) {k : Nat} (hk : k < ss.length) : ∃ b o B c D d, A = some ⟨b, o, none⟩ ∧ b < w.heap.size ∧ w.cell? ⟨b, o + k*2, none⟩ = some (.slice B ss[k].facts.length c) ∧ w.cell? ⟨b, o + k*2 + 1, none⟩ = some (.slice D ss[k].atoms.length d) ∧ FactsV w lo hi B ss[k].facts ∧ AtomsV w lo hi D ss[k].atoms := by
  obtain ⟨vs, h1, h2⟩ := h
  have hl : vs.length = ss.length * 2 := h1.raw.1
  have hr := rowsA_len ss
  obtain ⟨b, o, e, -, -, hc⟩ := h1.raw.form (by omega)
  obtain ⟨g1, g2⟩ := rowsA_get ss k hk
  obtain ⟨B, c, e1, v1⟩ := h2 (k*2) (by omega) (by omega)
  obtain ⟨D, d, e2, v2⟩ := h2 (k*2+1) (by omega) (by omega)
  have x1 : (rowsA ss)[k*2]'(by omega) = .inl ss[k].facts := by rw [List.getElem?_eq_getElem (by omega)] at g1; exact Option.some.inj g1
  have x2 : (rowsA ss)[k*2+1]'(by omega) = .inr ss[k].atoms := by rw [List.getElem?_eq_getElem (by omega)] at g2; exact Option.some.inj g2
  rw [x1] at e1 v1
  rw [x2] at e2 v2
  have c1 := hc (k*2) _ (List.getElem?_eq_getElem (by omega))
  have c2 := hc (k*2+1) _ (List.getElem?_eq_getElem (by omega))
  rw [e1] at c1
  rw [e2] at c2
  exact ⟨b, o, B, c, D, d, e, block_lt_of_cell c1, c1, c2, v1, v2⟩
theorem A2O.reads {A : Option Addr} {n c : Nat} (h : A2O w base (.slice A n c) vs ss) : n = ss.length ∧ AsnsV w base w.heap.size A ss := by
  obtain ⟨A', c', e, h1⟩ := own_reads h.row h.lim
  injection e with e1 e2 e3
  subst e1
  refine ⟨e2, vs, h1, fun k a b => ?_⟩
  obtain ⟨B, d, e, h3⟩ := (h.els.at_ k a b).reads
  exact ⟨B, d, e, h3⟩
end
/-- the word for the exact laws -/
def AsnsI (w : World) (lo hi : Nat) (v : Value) (ss : List Asn) : Prop := ∃ vs, A2O w lo v vs ss ∧ Und v hi ∧ (∀ (k : Nat) (h : k < vs.length), Und vs[k] hi) ∧ totA ss ≤ 16777216
/-- contracts hand this word over -/
def AsnsR (w : World) (base : Nat) (v : Value) (ss : List Asn) : Prop := (∃ vs, A2O w base v vs ss) ∧ totA ss ≤ 16777216
section
variable {w w' : World} {lo hi a b : Nat} {v : Value} {ss : List Asn}
theorem AsnsR.I {base : Nat} (h : AsnsR w base v ss) : AsnsI w base w.heap.size v ss := by
  obtain ⟨⟨vs, h⟩, hb⟩ := h
  exact ⟨vs, h, h.und, h.els.und, hb⟩
theorem AsnsR.below {base : Nat} (h : AsnsR w base v ss) (hb : Below w.heap.size w w') : AsnsR w' base v ss := by obtain ⟨⟨vs, h1⟩, h2⟩ := h; exact ⟨⟨vs, h1.below hb⟩, h2⟩
theorem AsnsR.lower {base base' : Nat} (h : AsnsR w base v ss) (hb : base' ≤ base) : AsnsR w base' v ss := by obtain ⟨⟨vs, h1⟩, h2⟩ := h; exact ⟨⟨vs, h1.lower hb⟩, h2⟩
theorem AsnsR.setb {base : Nat} (h : AsnsR w base v ss) {p : Addr} (hp : p.block < base) (u : Value) : AsnsR (w.setCell p u) base v ss := by obtain ⟨⟨vs, h1⟩, h2⟩ := h; exact ⟨⟨vs, h1.setb hp u⟩, h2⟩
theorem AsnsR.form {base : Nat} (h : AsnsR w base v ss) : ∃ A c, v = .slice A ss.length c := by obtain ⟨⟨vs, h1⟩, h2⟩ := h; exact h1.form
theorem AsnsR.nil (w : World) (base : Nat) : AsnsR w base (.slice none 0 0) [] := ⟨⟨_, A2O.nil _ _⟩, by simp [totA, totR, rowsA]⟩
theorem AsnsI.below (h : AsnsI w lo hi v ss) (hb : Below w.heap.size w w') : AsnsI w' lo hi v ss := by
  obtain ⟨vs, h1, h2⟩ := h; exact ⟨vs, h1.below hb, h2⟩
theorem AsnsI.mk (h : AsnsI w lo hi v ss) (hb : Mk (fun g => a ≤ g ∧ g < b) w w') (hd : hi ≤ a ∨ b ≤ lo) : AsnsI w' lo hi v ss := by
  obtain ⟨vs, h1, h2, h3, h4⟩ := h
  refine ⟨vs, ⟨own_mk h1.row hb fun g hg hp => by have := und_range h1.row h2 g hg; omega, h1.lim, h1.els.len, fun k x y => ?_, h1.els.apart⟩, h2, h3, h4⟩
  exact (h1.els.at_ k x y).mk hb fun g hg hp => by have := (h1.els.at_ k x y).lt g hg; have := h3 k x g hg; omega
theorem AsnsI.form (h : AsnsI w lo hi v ss) : ∃ A c, v = .slice A ss.length c := by obtain ⟨vs, h1, -⟩ := h; exact h1.form
theorem AsnsI.reads {A : Option Addr} {n c : Nat} (h : AsnsI w lo hi (.slice A n c) ss) : AsnsV w lo w.heap.size A ss := by obtain ⟨vs, h1, -⟩ := h; exact h1.reads.2
theorem AsnsI.len (h : AsnsI w lo hi v ss) : ss.length ≤ 1049600 ∧ totA ss ≤ 16777216 := by obtain ⟨vs, h1, -, -, h4⟩ := h; exact ⟨h1.lim, h4⟩
end

--@ laws.eqAssertionS
set_option maxHeartbeats 1600000 in
theorem t_asns {lo hi lo' hi' : Nat} (A A' : Option Addr) (c c' : Nat) (x : List Asn) (w : World) (h : AsnsV w lo hi A x) (h' : AsnsV w lo' hi' A' x) : Calls Try.prog 11 #[.slice A x.length c, .slice A' x.length c'] w fun e w' => e = .returned (.bool true) ∧ Below w.heap.size w w' := by
  have hl : x.length ≤ 1049600 := by obtain ⟨vs, h1, -⟩ := h; exact h1.lim
  have H := Lib.hid h
  have H' := Lib.hid h'
  clear h h'
  go_enter Try.func11, Try.ntmps11
  go_wp2_with fail
  go_loopw [5] (fun i wr => ∃ k : Nat, k ≤ x.length ∧ i = .int .i64 k ∧ Below w.heap.size w wr) (fun i _ => x.length - (intOf i).toNat)
  case atStart => exact ⟨0, Nat.zero_le _, rfl, bel⟩
  case round =>
    obtain ⟨k, hk, rfl, hB⟩ := hrel
    by_cases hlt : k < x.length
    · obtain ⟨b, o, R, d, R2, d2, rfl, lb, g0, g1, v0, v1⟩ := (H.out.below hB).at hlt
      obtain ⟨b', o', R', d', R2', d2', rfl, lb', g0', g1', v0', v1'⟩ := (H'.out.below hB).at hlt
      have hkx : (k : Int) < (x.length : Int) := by omega
      have S1 : Hid (AsnV wr lo hi (.agg #[.slice R x[k].facts.length d, .slice R2 x[k].atoms.length d2]) x[k]) := Lib.hid ⟨_, _, _, _, rfl, v0, v1⟩
      have S2 : Hid (AsnV wr lo' hi' (.agg #[.slice R' x[k].facts.length d', .slice R2' x[k].atoms.length d2']) x[k]) := Lib.hid ⟨_, _, _, _, rfl, v0', v1'⟩
      clear v0 v1 v0' v1'
      obtain ⟨s, hs⟩ : ∃ s, s = x[k] := ⟨_, rfl⟩
      rw [← hs] at g0 g1 g0' g1' S1 S2
      clear hs
      go_wp2_with fail
      refine wp_region_noPanic ?_
      refine wp_region_held_drew (S := (fun w' => (w'.cell? ⟨b, o + k*2, none⟩ = some (.slice R s.facts.length d) ∧ w'.cell? ⟨b, o + k*2 + 1, none⟩ = some (.slice R2 s.atoms.length d2)) ∧ w'.cell? ⟨b', o' + k*2, none⟩ = some (.slice R' s.facts.length d') ∧ w'.cell? ⟨b', o' + k*2 + 1, none⟩ = some (.slice R2' s.atoms.length d2'))) (by kernel_rfl) (⟨⟨g0, g1⟩, g0', g1'⟩) (fun hHeld => ?_)
      refine wpAnyH_take (i := 0) (v := ?_) rfl (by kernel_rfl) (by kernel_rfl) (by kernel_rfl) (fun _ _ _ h => h) (Or.inl ⟨by rfl, fun w hSw => ?_⟩) hHeld ?_
      rotate_left
      · ((try dsimp only at hSw); go_split_ands; go_simp; (try with_reducible rfl))
      try simp only [Act.put, List.getElem_toArray, List.getElem_cons_zero, List.getElem_cons_succ, List.setIfInBounds_toArray, List.set_cons_zero, List.set_cons_succ]
      refine wpAnyH_take (i := 1) (v := ?_) rfl (by kernel_rfl) (by kernel_rfl) (by kernel_rfl) (fun _ _ _ h => h) (Or.inl ⟨by rfl, fun w hSw => ?_⟩) hHeld ?_
      rotate_left
      · ((try dsimp only at hSw); go_split_ands; go_simp; (try with_reducible rfl))
      try simp only [Act.put, List.getElem_toArray, List.getElem_cons_zero, List.getElem_cons_succ, List.setIfInBounds_toArray, List.set_cons_zero, List.set_cons_succ]
      refine wpAnyH_take (i := 2) (v := ?_) rfl (by kernel_rfl) (by kernel_rfl) (by kernel_rfl) (fun _ _ _ h => h) (Or.inl ⟨by rfl, fun w hSw => ?_⟩) hHeld ?_
      rotate_left
      · ((try dsimp only at hSw); go_split_ands; go_simp; (try with_reducible rfl))
      try simp only [Act.put, List.getElem_toArray, List.getElem_cons_zero, List.getElem_cons_succ, List.setIfInBounds_toArray, List.set_cons_zero, List.set_cons_succ]
      refine wpAnyH_take (i := 3) (v := ?_) rfl (by kernel_rfl) (by kernel_rfl) (by kernel_rfl) (fun _ _ _ h => h) (Or.inl ⟨by rfl, fun w hSw => ?_⟩) hHeld ?_
      rotate_left
      · ((try dsimp only at hSw); go_split_ands; go_simp; (try with_reducible rfl))
      try simp only [Act.put, List.getElem_toArray, List.getElem_cons_zero, List.getElem_cons_succ, List.setIfInBounds_toArray, List.set_cons_zero, List.set_cons_succ]
      refine wpAnyH_take (i := 4) (v := ?_) rfl (by kernel_rfl) (by kernel_rfl) (by kernel_rfl) (fun _ _ _ h => h) (Or.inl ⟨by rfl, fun w hSw => ?_⟩) hHeld ?_
      rotate_left
      · ((try dsimp only at hSw); go_split_ands; go_simp; (try with_reducible rfl))
      try simp only [Act.put, List.getElem_toArray, List.getElem_cons_zero, List.getElem_cons_succ, List.setIfInBounds_toArray, List.set_cons_zero, List.set_cons_succ]
      refine wpAnyH_take (i := 5) (v := ?_) rfl (by kernel_rfl) (by kernel_rfl) (by kernel_rfl) (fun _ _ _ h => h) (Or.inl ⟨by rfl, fun w hSw => ?_⟩) hHeld ?_
      rotate_left
      · ((try dsimp only at hSw); go_split_ands; go_simp; (try with_reducible rfl))
      try simp only [Act.put, List.getElem_toArray, List.getElem_cons_zero, List.getElem_cons_succ, List.setIfInBounds_toArray, List.set_cons_zero, List.set_cons_succ]
      refine wpAnyH_take (i := 6) (v := ?_) rfl (by kernel_rfl) (by kernel_rfl) (by kernel_rfl) (fun _ _ _ h => h) (Or.inl ⟨by rfl, fun w hSw => ?_⟩) hHeld ?_
      rotate_left
      · ((try dsimp only at hSw); go_split_ands; go_simp; (try with_reducible rfl))
      try simp only [Act.put, List.getElem_toArray, List.getElem_cons_zero, List.getElem_cons_succ, List.setIfInBounds_toArray, List.set_cons_zero, List.set_cons_succ]
      refine wpAnyH_take (i := 7) (v := ?_) rfl (by kernel_rfl) (by kernel_rfl) (by kernel_rfl) (fun _ _ _ h => h) (Or.inl ⟨by rfl, fun w hSw => ?_⟩) hHeld ?_
      rotate_left
      · ((try dsimp only at hSw); go_split_ands; go_simp; (try with_reducible rfl))
      try simp only [Act.put, List.getElem_toArray, List.getElem_cons_zero, List.getElem_cons_succ, List.setIfInBounds_toArray, List.set_cons_zero, List.set_cons_succ]
      refine wpAnyH_ready (rs := [8]) (by kernel_rfl) (by simp) ?_
      refine AllReadyH.cons rfl (fun K hK => ?_) AllReadyH.nil
      try simp only [List.getElem_toArray, List.getElem_cons_zero, List.getElem_cons_succ]
      (go_simp; refine (t_asn _ _ s _ (S1.out.below bel) (S2.out.below bel)).mono ?_; rintro e w1 ⟨rfl, hB1⟩; have hS := bgo (w := wr) bel hB1)
      refine hK.out _ _ (⟨⟨(hS.cell (p := ⟨b, o + k*2, none⟩) lb).trans g0, (hS.cell (p := ⟨b, o + k*2 + 1, none⟩) lb).trans g1⟩, (hS.cell (p := ⟨b', o' + k*2, none⟩) lb').trans g0', (hS.cell (p := ⟨b', o' + k*2 + 1, none⟩) lb').trans g1'⟩) (fun hHeldN => ?_)
      clear hHeld hK K
      have hHeld := hHeldN
      clear hHeldN
      try simp only [Act.put, List.getElem_toArray, List.getElem_cons_zero, List.getElem_cons_succ, List.setIfInBounds_toArray, List.set_cons_zero, List.set_cons_succ]
      refine wpAnyH_take (i := 9) (v := ?_) rfl (by kernel_rfl) (by kernel_rfl) (by kernel_rfl) (fun _ _ _ h => h) (Or.inl ⟨by rfl, fun w hSw => ?_⟩) hHeld ?_
      rotate_left
      · ((try dsimp only at hSw); go_split_ands; go_simp; (try with_reducible rfl))
      try simp only [Act.put, List.getElem_toArray, List.getElem_cons_zero, List.getElem_cons_succ, List.setIfInBounds_toArray, List.set_cons_zero, List.set_cons_succ]
      refine wpAnyH_done (by kernel_rfl) ?_ _
      refine NoPanic.normal ?_
      have hB2 := bgo hB hS
      go_wp2_with fail
      go_round
      case rel => exact ⟨k + 1, by omega, by go_num, bel⟩
      case measure => simp [intOf]; omega
    · obtain rfl : k = x.length := by omega
      go_wp2_with fail
      go_ret
      exact ⟨rfl, hB⟩

--@ laws.markAssertionS
theorem A2O.at {w : World} {base n c k : Nat} {A : Option Addr} {vs : List Value} {ss : List Asn} (h : A2O w base (.slice A n c) vs ss) (hk : k < vs.length) (hr : k < (rowsA ss).length) : ∃ b o B d, A = some ⟨b, o, none⟩ ∧ b < w.heap.size ∧ w.cell? ⟨b, o + k, none⟩ = some (.slice B (rlen (rowsA ss)[k]) d) ∧ vs[k] = .slice B (rlen (rowsA ss)[k]) d := by
  obtain ⟨A', c', e, h1⟩ := own_reads h.row h.lim
  injection e with e1 e2 e3
  subst e1
  have hl : vs.length = ss.length * 2 := h1.raw.1
  obtain ⟨b, o, e, -, -, hc⟩ := h1.raw.form (by omega)
  obtain ⟨B, d, e2, -⟩ := (h.els.at_ k hk hr).reads
  have c1 := hc k _ (List.getElem?_eq_getElem hk)
  rw [e2] at c1
  exact ⟨b, o, B, d, e, block_lt_of_cell c1, c1, e2⟩
theorem A2O.update {w w' : World} {base j : Nat} {v : Value} {vs : List Value} {ss ss' : List Asn} (h : A2O w base v vs ss) (hj : j < vs.length) (hr : j < (rowsA ss).length) {ys : RowT} (e : rowsA ss' = (rowsA ss).set j ys) (hl : ss'.length = ss.length) (hy : RowO w' base vs[j] ys) (hM : Mk (fun g => vs[j].ownBlock = some g) w w') : A2O w' base v vs ss' := by
  have hlen := h.els.len
  have hrow : w'.ownsRow base tAs 2 v ss.length vs := own_mk h.row hM fun g hg hp => (h.els.at_ j hj hr).ne h.row (by decide) (by decide) g hg hp
  refine ⟨by rw [hl]; exact hrow, by rw [hl]; exact h.lim, by rw [e, List.length_set]; exact h.els.len, fun k h1 h2 => ?_, h.els.apart⟩
  have h2' : k < (rowsA ss).length := by omega
  have e2 : (rowsA ss')[k] = ((rowsA ss).set j ys)[k]'(by simpa using h2') := by simp only [e]
  rw [e2]
  by_cases ej : j = k
  · subst ej; simpa using hy
  · rw [List.getElem_set_ne ej]
    refine (h.els.at_ k h1 h2').mk hM fun g hg hp => ?_
    rcases Nat.lt_or_gt_of_ne ej with hlt | hlt
    · exact h.els.apart j k hj h1 hlt g hp hg
    · exact h.els.apart k j h1 hj hlt g hg hp
theorem markAsS_append : ∀ (k : Int) (xs ys : List Asn), markAsS k (xs ++ ys) = markAsS k xs ++ markAsS (k + totA xs) ys
  | k, [], ys => by simp [markAsS, rowsA, totA, totR]
  | k, x :: xs, ys => by
    simp only [List.cons_append, markAsS, markAsS_append, totA_cons]
    congr 3
    omega
/-- the first n assertions are marked -/
def asTo (k : Int) (x : List Asn) (n : Nat) : List Asn := markAsS k (x.take n) ++ x.drop n
/-- .. and the facts of the next -/
def asHalf (k : Int) (x : List Asn) (n : Nat) (s : Asn) : List Asn := markAsS k (x.take n) ++ (⟨markF (k + totA (x.take n)) s.facts.length, s.atoms⟩ :: x.drop (n + 1))
theorem asTo_len (k : Int) (x : List Asn) {n : Nat} (hn : n ≤ x.length) : (asTo k x n).length = x.length := by simp [asTo, markAsS_len]; omega
theorem asHalf_len (k : Int) (x : List Asn) {n : Nat} (hn : n < x.length) (s : Asn) : (asHalf k x n s).length = x.length := by simp [asHalf, markAsS_len]; omega
theorem rowA_at {L R : List Asn} {n : Nat} (hL : L.length = n) (s : Asn) (fs : List Fct) (xs : List Atm) : (rowsA (L ++ s :: R)).set (n*2) (.inl fs) = rowsA (L ++ ⟨fs, s.atoms⟩ :: R) ∧ (rowsA (L ++ s :: R)).set (n*2+1) (.inr xs) = rowsA (L ++ ⟨s.facts, xs⟩ :: R) := by
  have hl := rowsA_len L
  rw [hL] at hl
  have e (t : Asn) : rowsA (L ++ t :: R) = rowsA L ++ (.inl t.facts :: .inr t.atoms :: rowsA R) := by rw [rowsA_append]; rfl
  rw [e, e, e]
  constructor
  · rw [set_mid _ _ _ _ hl]; rfl
  · rw [List.set_append, if_neg (by omega), hl, Nat.add_sub_cancel_left]; rfl
theorem asTo_get (k : Int) (x : List Asn) {n : Nat} (hn : n < x.length) : asTo k x n = markAsS k (x.take n) ++ (x[n] :: x.drop (n + 1)) := by
  unfold asTo; rw [List.drop_eq_getElem_cons hn]
theorem take_markA_len (k : Int) (x : List Asn) {n : Nat} (hn : n < x.length) : (markAsS k (x.take n)).length = n := by rw [markAsS_len, List.length_take]; omega
theorem asHalf_rows (k : Int) (x : List Asn) {n : Nat} (hn : n < x.length) : rowsA (asHalf k x n x[n]) = (rowsA (asTo k x n)).set (n*2) (.inl (markF (k + totA (x.take n)) x[n].facts.length)) := by
  rw [asTo_get k x hn, (rowA_at (take_markA_len k x hn) _ _ []).1]; rfl
theorem asTo_succ (k : Int) (x : List Asn) {n : Nat} (hn : n < x.length) : rowsA (asTo k x (n + 1)) = (rowsA (asHalf k x n x[n])).set (n*2+1) (.inr (markA (k + totA (x.take n) + 3 * x[n].facts.length) x[n].atoms.length)) := by
  unfold asHalf asTo
  rw [(rowA_at (take_markA_len k x hn) _ [] _).2, List.take_succ_eq_append_getElem hn, markAsS_append, List.append_assoc]
  rfl
theorem asTo_rows (k : Int) (x : List Asn) {n : Nat} (hn : n < x.length) : (rowsA (asTo k x n))[n*2]? = some (.inl x[n].facts) ∧ (rowsA (asHalf k x n x[n]))[n*2+1]? = some (.inr x[n].atoms) := by
  have hl := rowsA_len (markAsS k (x.take n))
  rw [take_markA_len k x hn] at hl
  rw [asTo_get k x hn]
  unfold asHalf
  have e (t : Asn) : rowsA (markAsS k (x.take n) ++ t :: x.drop (n + 1)) = rowsA (markAsS k (x.take n)) ++ (.inl t.facts :: .inr t.atoms :: rowsA (x.drop (n + 1))) := by rw [rowsA_append]; rfl
  rw [e, e, List.getElem?_append_right (by omega), List.getElem?_append_right (by omega), hl]
  simp
theorem totA_rows (x : List Asn) {n : Nat} (hn : n < x.length) : totA (x.take (n + 1)) = totA (x.take n) + 3 * x[n].facts.length + 3 * x[n].atoms.length := by
  rw [List.take_succ_eq_append_getElem hn, totA_append, totA_cons]; simp [totA, totR, rowsA]; omega
theorem totA_rows_le (x : List Asn) (n : Nat) : totA (x.take n) ≤ totA x := by
  conv => rhs; rw [← List.take_append_drop n x, totA_append]
  omega
theorem get_ofA {α : Type} {l : List α} {n : Nat} {u : α} (h : l[n]? = some u) (hn : n < l.length) : l[n] = u := by rw [List.getElem?_eq_getElem hn] at h; exact Option.some.inj h
set_option maxHeartbeats 3200000 in
theorem m_asns (v : Value) (x : List Asn) (k : Int) (lo hi : Nat) (w : World) (h : AsnsI w lo hi v x) (h0 : 0 ≤ k) (h1 : k ≤ 274877906944) : Calls Try.prog 16 #[v, .int .i64 k] w fun e w' => e = .returned (.int .i64 (k + totA x)) ∧ AsnsI w' lo hi v (markAsS k x) ∧ Mk (fun g => lo ≤ g ∧ g < hi) w w' := by
  obtain ⟨vs, hS, hv, hvs, ht⟩ := h
  have hl : x.length ≤ 1049600 := hS.lim
  have hlen : vs.length = x.length * 2 := by rw [hS.els.len, rowsA_len]
  obtain ⟨A, c, rfl⟩ := hS.form
  have HS := Lib.hid hS
  have HVS := Lib.hid hvs
  have HV := Lib.hid hv
  have HT := Lib.hid (totA_rows_le x)
  clear hS hvs hv
  go_enter Try.func16, Try.ntmps16
  go_wp2_with fail
  go_loopw [1, 5] (fun q i wr => ∃ n : Nat, n ≤ x.length ∧ i = .int .i64 n ∧ q = .int .i64 (k + totA (x.take n)) ∧ Hid (A2O wr lo (.slice A x.length c) vs (asTo k x n)) ∧ Hid (Mk (fun g => lo ≤ g ∧ g < hi) w wr)) (fun _ i _ => x.length - (intOf i).toNat)
  case atStart => exact ⟨0, Nat.zero_le _, rfl, by simp [totA, totR, rowsA], by show A2O _ _ _ _ _; simpa [asTo, markAsS] using HS.out, Mk.refl _ _⟩
  case round =>
    obtain ⟨n, hn, rfl, rfl, HS2, HM⟩ := hrel
    by_cases hlt : n < x.length
    · have hr1 : (rowsA (asTo k x n)).length = x.length * 2 := by rw [rowsA_len, asTo_len k x hn]
      have hr2 : (rowsA (asHalf k x n x[n])).length = x.length * 2 := by rw [rowsA_len, asHalf_len k x hlt]
      have hge1 : (rowsA (asTo k x n))[n*2]'(by omega) = .inl x[n].facts := get_ofA (asTo_rows k x hlt).1 _
      have hge2 := (asTo_rows k x hlt).2
      obtain ⟨b, o, R, d, rfl, lb, g0, hvn⟩ := HS2.out.at (k := n*2) (by omega) (by omega)
      have hat := HS2.out.els.at_ (n*2) (by omega) (by omega)
      rw [hge1] at g0 hvn hat
      rw [hvn] at hat
      have hun := HVS.out (n*2) (by omega)
      rw [hvn] at hun
      simp only [rlen] at g0 hvn hat hun
      replace hat : FactsO _ _ _ _ := hat
      have HVN := Lib.hid hvn
      have HR1 := Lib.hid (asHalf_rows k x hlt)
      have HR2 := Lib.hid (asTo_succ k x hlt)
      have HTN := Lib.hid (totA_rows x hlt)
      have htn := HT.out n
      have htn1 := HT.out (n + 1)
      rw [HTN.out] at htn1
      have HL1 := Lib.hid (asHalf_len k x hlt x[n])
      have HL2 := Lib.hid (asTo_len k x (n := n + 1) hlt)
      have HL0 := Lib.hid (asTo_len k x hn)
      obtain ⟨X1, hX1⟩ : ∃ X, X = asHalf k x n x[n] := ⟨_, rfl⟩
      obtain ⟨s, hs⟩ : ∃ s, s = x[n] := ⟨_, rfl⟩
      obtain ⟨T, hT⟩ : ∃ T, T = totA (x.take n) := ⟨_, rfl⟩
      rw [← hX1] at HR1 HR2 HL1 hr2 hge2
      rw [← hs] at g0 hat HR1 HR2 HTN htn1 HVN hge2 hun
      rw [← hT] at HR1 HR2 HTN htn htn1 ⊢
      have HT2 := Lib.hid hT
      have HG2 : Hid (∀ h, (rowsA X1)[n*2+1]'h = .inr s.atoms) := Lib.hid fun h => get_ofA hge2 h
      clear hX1 hs hT hge1 hge2 hvn
      have hnx : (n : Int) < (x.length : Int) := by omega
      have hkn : k + (T : Int) ≤ 549755813888 := by omega
      have hk0 : 0 ≤ k + (T : Int) := by omega
      go_wp2_with fail
      refine (c_markFactS _ s.facts (k + (T : Int)) lo _ hat hk0 (by omega)).mono ?_
      rintro e w1 ⟨rfl, h2, h3⟩
      have HS3 : Hid (A2O w1 lo (.slice (some ⟨b, o, none⟩) x.length c) vs X1) :=
        HS2.out.update (j := n*2) (by omega) (by omega) HR1.out (by rw [HL1.out, HL0.out]) (by rw [HVN.out]; exact h2) (by rw [HVN.out]; exact h3)
      have HM3 := Lib.hid (HM.out.trans (h3.mono fun g hg => und_range hat.1 hun g hg))
      clear h2 h3 hat hun
      obtain ⟨b', o', R', d', e', lb', g0', hvn'⟩ := HS3.out.at (k := n*2+1) (by omega) (by omega)
      simp only [Option.some.injEq, Addr.mk.injEq, and_true] at e'
      obtain ⟨rfl, rfl⟩ := e'
      have hat' := HS3.out.els.at_ (n*2+1) (by omega) (by omega)
      rw [HG2.out] at g0' hvn' hat'
      rw [hvn'] at hat'
      have hun' := HVS.out (n*2+1) (by omega)
      rw [hvn'] at hun'
      simp only [rlen] at g0' hvn' hat' hun'
      replace hat' : AtomsO _ _ _ _ := hat'
      have HVN' := Lib.hid hvn'
      clear hvn' g0
      rw [show o + (n*2+1) = o + n*2 + 1 from rfl] at g0'
      go_wp2_with fail
      refine (c_markAtomS _ s.atoms (k + (T : Int) + 3 * s.facts.length) lo _ hat' (by omega) (by omega)).mono ?_
      rintro e w2 ⟨rfl, h4, h5⟩
      have HS4 : Hid (A2O w2 lo (.slice (some ⟨b, o, none⟩) x.length c) vs (asTo k x (n + 1))) :=
        HS3.out.update (j := n*2+1) (by omega) (by omega) HR2.out (by rw [HL1.out, HL2.out]) (by rw [HVN'.out]; exact h4) (by rw [HVN'.out]; exact h5)
      have HM4 := Lib.hid (HM3.out.trans (h5.mono fun g hg => und_range hat'.1 hun' g hg))
      clear h4 h5 hat' hun'
      go_wp2_with fail
      go_round
      case rel => exact ⟨n + 1, by omega, by go_num, by rw [HTN.out]; congr 1; omega, HS4, HM4⟩
      case measure => simp [intOf]; omega
    · obtain rfl : n = x.length := by omega
      go_wp2_with fail
      go_ret
      rw [List.take_length]
      refine ⟨rfl, ⟨vs, ?_, HV.out, HVS.out, by rw [totA_mark]; exact ht⟩, HM.out⟩
      have := HS2.out
      rw [asTo, List.take_length, List.drop_length, List.append_nil] at this
      have hf : (markAsS k x).length = x.length := markAsS_len _ _
      exact this

--@ laws.heldAssertionS
theorem markAsS_get (k : Int) (x : List Asn) (n : Nat) (hn : n < x.length) (h : n < (markAsS k x).length) : (markAsS k x)[n] = markAs (k + totA (x.take n)) x[n] := by
  have e : (markAsS k x)[n]? = some (markAs (k + totA (x.take n)) x[n]) := by
    conv => lhs; rw [← List.take_append_drop n x, markAsS_append, List.drop_eq_getElem_cons hn]
    rw [List.getElem?_append_right (by rw [markAsS_len, List.length_take]; omega), markAsS_len]
    simp [Nat.min_eq_left (show n ≤ x.length by omega), markAsS]
  exact get_ofA e h
set_option maxHeartbeats 1600000 in
theorem h_asns {lo hi : Nat} (A : Option Addr) (x : List Asn) (c : Nat) (k : Int) (w : World) (h : AsnsI w lo hi (.slice A x.length c) (markAsS k x)) (h0 : 0 ≤ k) (hk : k ≤ 274877906944) :
    Calls Try.prog 17 #[.slice A x.length c, .int .i64 k] w fun e w' => e = .returned (.int .i64 (k + totA x)) ∧ Below w.heap.size w w' := by
  have hl : x.length ≤ 1049600 := by have := h.len.1; rwa [markAsS_len] at this
  have ht : totA x ≤ 16777216 := by have := h.len.2; rwa [totA_mark] at this
  have H := Lib.hid h.reads
  have HT := Lib.hid (totA_rows_le x)
  clear h
  go_enter Try.func17, Try.ntmps17
  go_wp2_with fail
  go_loop [1, 5] (fun q i => ∃ n : Nat, n ≤ x.length ∧ i = .int .i64 n ∧ q = .int .i64 (k + totA (x.take n))) (fun _ i => x.length - (intOf i).toNat)
  case atStart => exact ⟨0, Nat.zero_le _, rfl, by simp [totA, totR, rowsA]⟩
  case round =>
    obtain ⟨n, hn, rfl, rfl⟩ := hrel
    by_cases hlt : n < x.length
    · obtain ⟨b, o, R, d, R2, d2, rfl, lb, g0, g1, v0, v1⟩ := H.out.at (k := n) (by rw [markAsS_len]; exact hlt)
      rw [markAsS_get k x n hlt] at g0 v0 g1 v1
      simp only [markAs] at g0 g1 v0 v1
      rw [markF_length] at g0
      rw [markA_length] at g1
      have hnx : (n : Int) < (x.length : Int) := by omega
      have htn := HT.out n
      have hk0 : 0 ≤ k + (totA (x.take n) : Int) := by omega
      have HTN := Lib.hid (totA_rows x hlt)
      have htn1 := HT.out (n + 1)
      rw [HTN.out] at htn1
      go_wp2_with fail
      refine (c_heldFactS R x[n].facts.length d (k + (totA (x.take n)) : Int) _ v0 hk0 (by omega)).mono ?_
      rintro e w1 ⟨rfl, rfl⟩
      have hge : ¬ (k + (totA (x.take n) : Int) + 3 * x[n].facts.length < 0) := by omega
      go_wp2_with fail
      refine (c_heldAtomS R2 x[n].atoms.length d2 (k + (totA (x.take n) : Int) + 3 * x[n].facts.length) _ v1 (by omega) (by omega)).mono ?_
      rintro e w1 ⟨rfl, rfl⟩
      have hge2 : ¬ (k + (totA (x.take n) : Int) + 3 * x[n].facts.length + 3 * x[n].atoms.length < 0) := by omega
      go_wp2_with fail
      go_round
      case rel => exact ⟨n + 1, by omega, by go_num, by rw [HTN.out]; congr 1; omega⟩
      case measure => simp [intOf]; omega
    · obtain rfl : n = x.length := by omega
      go_wp2_with fail
      go_ret
      exact ⟨rfl, Below.refl _ _⟩
--@ impl.joinLists[impl.Assertion]
theorem mkAs0 (n : Nat) (h : Lim n) (w : World) : (Instr.makeSlice 28 (.int .i64 0) (.int .i64 (n : Int))).run Try.prog w = .ok (.slice (some ⟨w.heap.size, 0, none⟩) 0 n) (w.alloc (.cells (madeCells #[.slice none 0 0, .slice none 0 0] (n * 2)) tAs)) := by
  obtain ⟨i, hi, hz, hs, hb⟩ := info_parts infoAs2
  have := run_make_rowN (P := Try.prog) 28 tAs i _ Try.underlying28 hi hz .i64 .i64 0 n (Nat.zero_le _) (by rw [hb]; unfold Lim at h; omega) (by unfold Lim at h; omega) w
  rwa [hs] at this
theorem madeAs (w : World) (n : Nat) (h : n ≤ 1049600) : (w.alloc (.cells (madeCells #[.slice none 0 0, .slice none 0 0] (n * 2)) tAs)).ownsRow w.heap.size tAs 2 (.slice (some ⟨w.heap.size, 0, none⟩) 0 n) 0 [] :=
  World.ownsRow_made w _ n (Nat.le_refl _) (by unfold maxLen; omega) (by rw [size_madeCells])
set_option maxHeartbeats 1600000 in
theorem c_joinAs {lo hi lo' hi' : Nat} (A A' : Option Addr) (n m c c' : Nat) (vs vs' : List Value) (w : World) (h : Rd w lo hi 2 A n vs) (h' : Rd w lo' hi' 2 A' m vs') (h1 : ∀ u ∈ vs, u.oneCell' = true) (h1' : ∀ u ∈ vs', u.oneCell' = true) (hn : n + m ≤ 1049600) :
    Calls Try.prog 121 #[.slice A n c, .slice A' m c'] w fun e w' => ∃ r, e = .returned r ∧ w'.ownsRow w.heap.size tAs 2 r (n + m) (vs ++ vs') ∧ Below w.heap.size w w' := by
  have hmk := mkAs0 (n + m) hn
  simp only [Int.natCast_add] at hmk
  have hO0 := Lib.hid (madeAs w (n + m) hn)
  have hnl := h.lim
  have hml := h'.lim
  have H := Lib.hid h
  have H' := Lib.hid h'
  have H1 := Lib.hid h1
  have H1' := Lib.hid h1'
  clear h h' h1 h1'
  go_enter Try.func121, Try.ntmps121
  go_wp2_with (first
    | (at_builtin; (refine wpList_appL rfl _ _ 28 rfl Try.underlying28 infoAs2 rfl (by decide) (by decide) rfl hO0.out rfl (H.out.below bel).raw H1.out (by omega) (by simp) ?_); intro v1 w1 hO1 hg1 hB1; simp only [Nat.zero_add, List.nil_append] at hO1; have hB : Below w.heap.size w w1 := Below.trans bel hB1; obtain ⟨A1, d1, rfl, -⟩ := own_reads hO1 (by unfold Lim; omega))
    | (at_builtin; refine wpList_appL rfl _ _ 28 rfl Try.underlying28 infoAs2 rfl (by decide) (by decide) rfl hO1 rfl (H'.out.below hB).raw H1'.out (by omega) hB.size ?_; intro v2 w2 hO2 hg2 hB2; obtain ⟨A2, d2, rfl, -⟩ := own_reads hO2 (by unfold Lim; omega)))
  go_ret
  exact ⟨_, rfl, by simpa using hO2, hB.trans hB2⟩
--@
end Go.Proofs.Ytlmjjflalmegfaa
