/- A region that draws its order and whose last operation is a store: the store stands behind all others, whatever the order. Plain lemmas; no program. -/
import Derived.StillTail
import Derived.Deep.RegionHeld
set_option linter.unusedSimpArgs false
set_option linter.unusedVariables false
namespace Go.Proofs.Ytcgifoghggajgaa
open Go

section
variable {P : Program} {md : Region.Mode} {S : World → Prop} {Q : Exit → Act → World → Prop}

/-- what is asked behind all others: the last operation's own run -/
def lastQ (P : Program) (st : Oper) (Q : Exit → Act → World → Prop) : Exit → Act → World → Prop
  | .normal, a, w => Oper.wp P st a w (Q .normal) Q
  | e, a, w => Q e a w
/-- the last operation, emptied -/
def nopOf (st : Oper) : Oper := { st with op := .assign (.const undef), dst := none, guard := none }

theorem wp_monoQ {o : Oper} {a : Act} {w : World} {K K' : Act → World → Prop} {Q Q' : Exit → Act → World → Prop} (hK : ∀ a w, K a w → K' a w)
    (hQ : ∀ c a w, Q (.panic c) a w → Q' (.panic c) a w) (hL : LetsOut Q → LetsOut Q') (hh : o.wp P a w K Q) : o.wp P a w K' Q' := by
  unfold Oper.wp at *
  generalize (execOp a.eval o).run P w = r at *
  cases r with
  | ok n w' =>
    cases n <;> simp only [Oper.upon] at hh ⊢ <;>
      first
        | exact hK _ _ hh
        | exact Calls.mono hh (fun e w'' he => by cases e <;> first | exact hK _ _ he | exact hQ _ _ _ he | exact hL he)
        | exact Rows.mono hh (fun _ _ he => hK _ _ he)
  | halt x w' => cases x <;> simp only [Oper.upon] at hh ⊢ <;> first | exact hQ _ _ _ hh | exact hh

theorem lastQ_panic {st : Oper} (c : _) (a : Act) (w : World) (h : lastQ P st Q (.panic c) a w) : Q (.panic c) a w := h

theorem ready_push (l : List Oper) (st : Oper) (listed : Array Bool) : Region.ready md (l ++ [nopOf st]).toArray listed = Region.ready md (l ++ [st]).toArray listed := by
  unfold Region.ready
  simp only [List.size_toArray, List.length_append, List.length_cons, List.length_nil]
  apply List.filter_congr
  intro i hi
  congr 1
  simp only [List.getElem?_toArray, List.getElem?_append]
  split
  · rfl
  · rcases Nat.eq_zero_or_pos (i - l.length) with h | h
    · rw [h]; rfl
    · rw [List.getElem?_eq_none (by simp; omega), List.getElem?_eq_none (by simp; omega)]

/-- every operation waits for earlier ones alone -/
def topoB (md : Region.Mode) (ops : Array Oper) : Bool :=
  (List.range ops.size).all fun i => match ops[i]? with | some o => o.after.all fun e => !Region.binds md e || decide (e.on < i) | none => true

theorem ready_some {ops : Array Oper} (ht : topoB md ops = true) {listed : Array Bool} (hsz : listed.size = ops.size) {z : Nat} (hz : z < ops.size) (hun : listed.getD z true = false) : Region.ready md ops listed ≠ [] := by
  have : ∀ n z, z < n → z < ops.size → listed.getD z true = false → ∃ i, i ∈ Region.ready md ops listed := by
    intro n
    induction n with
    | zero => intro z h; omega
    | succ n ih =>
      intro z hzn hz hun
      by_cases hm : ∃ j, j < z ∧ listed.getD j true = false
      · obtain ⟨j, hj, hju⟩ := hm
        exact ih j (by omega) (by omega) hju
      · refine ⟨z, mem_ready.2 ⟨hun, ops[z], Array.getElem?_eq_getElem hz, fun e he hb => ?_⟩⟩
        have h1 := List.all_eq_true.1 ht z (by simpa using hz)
        rw [Array.getElem?_eq_getElem hz] at h1
        simp only [Array.all_eq_true_iff_forall_mem] at h1
        have h2 := h1 e he
        rw [hb] at h2
        simp at h2
        cases h3 : listed.getD e.on true
        · exact absurd ⟨e.on, h2, h3⟩ hm
        · have h4 : e.on < listed.size := by omega
          simp [h4] at h3 ⊢
          exact h3
  obtain ⟨i, hi⟩ := this (z + 1) z (Nat.lt_succ_self _) hz hun
  intro h
  rw [h] at hi
  cases hi

theorem wpAny_of_last {l : List Oper} {st : Oper} (hg : (l.all fun o => o.guard.isNone) = true) (hst : st.guard.isNone = true)
    (hs : Region.sinkB md (l ++ [st]).toArray l.length = true) (hc : Region.chainB md (l ++ [st]).toArray l.length = true) (ht : topoB md (l ++ [st]).toArray = true) :
    ∀ (f : Nat) (listed : Array Bool) (a : Act) (w : World), HeadInv md (l ++ [st]).toArray l.length listed →
      wpAnyH P md (l ++ [nopOf st]).toArray (lastQ P st Q) S f listed a w → wpAny P md (l ++ [st]).toArray Q f listed a w := by
  have hsz : (l ++ [st]).toArray.size = l.length + 1 := by simp
  have hzs : (l ++ [st]).toArray[l.length]? = some st := by simp
  have hzn : (l ++ [nopOf st]).toArray[l.length]? = some (nopOf st) := by simp
  intro f
  induction f with
  | zero =>
    intro listed a w inv h
    have hun := inv.tail l.length (Nat.le_refl _) (by omega)
    exact absurd ((ready_push l st listed).symm.trans h.1) (ready_some ht inv.size (by omega) hun)
  | succ f ih =>
    intro listed a w inv h
    have hun := inv.tail l.length (Nat.le_refl _) (by omega)
    refine ⟨fun h0 => absurd h0 (ready_some ht inv.size (by omega) hun), fun i hi => ?_⟩
    have hi' : i ∈ Region.ready md (l ++ [nopOf st]).toArray listed := by rw [ready_push]; exact hi
    have h1 := h.2 i hi'
    obtain ⟨_, oi, hoi, _⟩ := mem_ready.1 hi
    have hil : i < l.length + 1 := by have := (Array.getElem?_eq_some_iff.1 hoi).1; omega
    by_cases hiz : i = l.length
    · subst hiz
      have hall : ∀ j, j < l.length → listed.getD j true = true := by
        intro j hj
        cases hu : listed.getD j true
        · exact absurd hi (tail_waits hs hc (by omega) inv _ j rfl hj hu l.length (Nat.le_refl _))
        · rfl
      have hnil : Region.ready md (l ++ [st]).toArray (listed.setIfInBounds l.length true) = [] := by
        rw [List.eq_nil_iff_forall_not_mem]
        intro j hj
        obtain ⟨hju, oj, hoj, _⟩ := mem_ready.1 hj
        have hjl : j < l.length + 1 := by have := (Array.getElem?_eq_some_iff.1 hoj).1; omega
        by_cases e : l.length = j
        · subst e
          have : l.length < listed.size := by have := inv.size; omega
          simp [this] at hju
        · rw [getD_set_ne true e, hall j (by omega)] at hju; cases hju
      unfold wpOp at h1 ⊢
      simp only [hzn, hzs] at h1 ⊢
      have hw1 : Region.wanted (nopOf st) (yielded (l ++ [nopOf st]).toArray a.tmps) = true := by simp [Region.wanted, nopOf]
      have hgs : st.guard = none := by simpa using hst
      have hw2 : Region.wanted st (yielded (l ++ [st]).toArray a.tmps) = true := by simp [Region.wanted, hgs]
      rw [hw1, if_pos rfl] at h1
      rw [hw2, if_pos rfl]
      refine Or.inl ?_
      have h2 : wpAnyH P md (l ++ [nopOf st]).toArray (lastQ P st Q) S f (listed.setIfInBounds l.length true) a w := by
        rcases h1 with h1 | ⟨h1, _⟩
        · unfold Oper.wp at h1
          simp [nopOf, execOp, Oper.upon, Act.put, Act.eval] at h1
          exact h1.2
        · simp [Oper.asks, nopOf, execOp] at h1
          exact absurd h1 (by intro h; cases h; rename_i h; cases h)
      have h3 : lastQ P st Q .normal a w := by
        rw [← ready_push] at hnil
        cases f with
        | zero => exact h2.2
        | succ f => exact h2.1 hnil
      refine Oper.wp_mono (fun a' w' hq => ?_) h3
      cases f with
      | zero => exact ⟨hnil, hq⟩
      | succ f => exact ⟨fun _ => hq, by rw [hnil]; simp⟩
    · have hlt : i < l.length := by omega
      have e1 : (l ++ [st]).toArray[i]? = some l[i] := by simp [List.getElem?_append, hlt]
      have e2 : (l ++ [nopOf st]).toArray[i]? = some l[i] := by simp [List.getElem?_append, hlt]
      have hgi : l[i].guard = none := by have := List.all_eq_true.1 hg l[i] (List.getElem_mem hlt); simpa using this
      unfold wpOp at h1 ⊢
      simp only [e1, e2] at h1 ⊢
      have hw1 : Region.wanted l[i] (yielded (l ++ [nopOf st]).toArray a.tmps) = true := by simp [Region.wanted, hgi]
      have hw2 : Region.wanted l[i] (yielded (l ++ [st]).toArray a.tmps) = true := by simp [Region.wanted, hgi]
      rw [hw1, if_pos rfl] at h1
      rw [hw2, if_pos rfl]
      rcases h1 with h1 | ⟨h1, h2⟩
      · exact Or.inl (wp_monoQ (K := fun a' w' => S w' ∧ wpAnyH P md (l ++ [nopOf st]).toArray (lastQ P st Q) S f (listed.setIfInBounds i true) a' w') (fun a' w' hk => ih _ _ _ (inv.set hi hlt) hk.2) (fun c a w h => h) (fun h => h) h1)
      · exact Or.inr ⟨h1, h2⟩

/-- THE LAW: walk the region as if the last store were empty, under S; then carry the store out. -/
theorem wp_region_last {l : List Oper} {st : Oper} {id : Nat} {a : Act} {w : World} (hm : P.follows .mixedOrders = true) (hg : (l.all fun o => o.guard.isNone) = true) (hst : st.guard.isNone = true)
    (hs : Region.sinkB .any (l ++ [st]).toArray l.length = true) (hc : Region.chainB .any (l ++ [st]).toArray l.length = true) (ht : topoB .any (l ++ [st]).toArray = true) (hS : S w.drew)
    (h : S w.drew → wpAnyH P .any (l ++ [nopOf st]).toArray (lastQ P st Q) S (l.length + 1) (Array.replicate (l.length + 1) false) a w.drew) : (Code.region id (l ++ [st]).toArray true).wp P Q a w := by
  refine wp_region_any hm ?_
  have e : (l ++ [st]).toArray.size = l.length + 1 := by simp
  rw [e]
  refine wpAny_of_last hg hst hs hc ht _ _ _ _ ⟨by simp, fun j oj _ hl => ?_, fun t _ ht => ?_⟩ (h hS)
  · rw [getD_replicate_false] at hl; cases hl
  · exact getD_in (by simpa using ht) (getD_replicate_false _ _)
/-- the law's conditions, as one Bool -/
def lastB (L : List Oper) : Bool :=
  match L.getLast? with
  | none => false
  | some st => (L.dropLast.all fun o => o.guard.isNone) && st.guard.isNone && Region.sinkB .any L.toArray L.dropLast.length && Region.chainB .any L.toArray L.dropLast.length && topoB .any L.toArray
theorem wp_region_last' {L : List Oper} {id : Nat} {a : Act} {w : World} (hne : L ≠ []) (hm : P.follows .mixedOrders = true) (hB : lastB L = true) (hS : S w.drew)
    (h : S w.drew → wpAnyH P .any (L.dropLast ++ [nopOf (L.getLast hne)]).toArray (lastQ P (L.getLast hne) Q) S L.length (Array.replicate L.length false) a w.drew) : (Code.region id L.toArray true).wp P Q a w := by
  have e : L.dropLast ++ [L.getLast hne] = L := List.dropLast_concat_getLast hne
  unfold lastB at hB
  rw [List.getLast?_eq_some_getLast hne] at hB
  simp only [Bool.and_eq_true] at hB
  obtain ⟨⟨⟨⟨h1, h2⟩, h3⟩, h4⟩, h5⟩ := hB
  have hl : L.dropLast.length + 1 = L.length := by have := congrArg List.length e; simpa using this
  have key := wp_region_last (P := P) (S := S) (Q := Q) (l := L.dropLast) (st := L.getLast hne) (id := id) (a := a) (w := w) hm h1 h2 (by rw [e]; exact h3) (by rw [e]; exact h4) (by rw [e]; exact h5) hS (by rw [hl]; exact h)
  rwa [e] at key
end
end Go.Proofs.Ytcgifoghggajgaa
