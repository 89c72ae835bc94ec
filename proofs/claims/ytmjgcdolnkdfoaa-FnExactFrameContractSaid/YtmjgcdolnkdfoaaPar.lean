/- A part of a region that draws its order, by an invariant: each operation once. Plain lemmas; no program. -/
import Derived.Deep.RegionHeld
set_option linter.unusedSimpArgs false
set_option linter.unusedVariables false
namespace Go.Proofs.Ytmjgcdolnkdfoaa
open Go

section
variable {P : Program} {md : Region.Mode} {ops : Array Oper} {S : World → Prop} {Q : Exit → Act → World → Prop} {I : Array Bool → Act → World → Prop}

/-- operation j has come up -/
def dn (D : Array Bool) (j : Nat) : Bool := D.getD j false
theorem dn_ne {D : Array Bool} {i j : Nat} (h : i ≠ j) : dn (D.setIfInBounds i true) j = dn D j := getD_set_ne false h
theorem dn_self {D : Array Bool} {i : Nat} (h : D.getD i true = false) : dn (D.setIfInBounds i true) i = true := by
  unfold dn
  rcases Nat.lt_or_ge i D.size with h' | h'
  · simp [h']
  · simp [Array.getElem?_eq_none h'] at h
theorem dn_un {D : Array Bool} {i : Nat} (h : D.getD i true = false) : dn D i = false := by
  unfold dn
  rcases Nat.lt_or_ge i D.size with h' | h'
  · simp [h'] at h ⊢; exact h
  · simp [Array.getElem?_eq_none h'] at h
theorem dn_keep {D : Array Bool} {i j : Nat} {p q : Prop} (hij : i ≠ j) (h : dn D j = true → p) (hpq : p → q) : dn (D.setIfInBounds i true) j = true → q := fun e => hpq (h (by rwa [dn_ne hij] at e))

/-- from the state D on nothing but the operations H comes up for n steps, in whatever order, and then the state is Dz -/
def parB (md : Region.Mode) (ops : Array Oper) (H : List Nat) (Dz : Array Bool) : Nat → Array Bool → Bool
  | 0, D => decide (D = Dz)
  | n + 1, D => !(Region.ready md ops D).isEmpty && (Region.ready md ops D).all fun i => H.contains i && parB md ops H Dz n (D.setIfInBounds i true)

def ParSteps (P : Program) (md : Region.Mode) (ops : Array Oper) (Q : Exit → Act → World → Prop) (S : World → Prop) (I : Array Bool → Act → World → Prop) (hs : List Nat) : Prop :=
  ∀ i ∈ hs, ∀ D a w, i ∈ Region.ready md ops D → I D a w → S w → wpOp P ops Q i (fun a' w' => S w' ∧ I (D.setIfInBounds i true) a' w') a w
theorem ParSteps.nil : ParSteps P md ops Q S I [] := fun _ h => by cases h
theorem ParSteps.cons {i : Nat} {o : Oper} {hs : List Nat} (ho : ops[i]? = some o)
    (h : ∀ (D : Array Bool) (a : Act) (w : World), D.getD i true = false → (∀ e ∈ o.after.toList, Region.binds md e = true → dn D e.on = true) → I D a w → S w →
      ∀ K' : Act → World → Prop, Shut (∀ a w, S w → I (D.setIfInBounds i true) a w → K' a w) → ∀ G : Prop, ((if Region.wanted o (yielded ops a.tmps) = true then Oper.wp P o a w K' Q else K' (a.put o.dst undef) w) → G) → G)
    (hs' : ParSteps P md ops Q S I hs) : ParSteps P md ops Q S I (i :: hs) := fun j hj D a w hr hI hS => by
  rcases List.mem_cons.1 hj with rfl | hj
  · obtain ⟨h1, o', ho', h2⟩ := mem_ready.1 hr
    obtain rfl : o = o' := Option.some.inj (ho.symm.trans ho')
    exact wpOp_step ho (fun K' hK => h D a w h1 (fun e he hb => h2 e (Array.mem_toList_iff.1 he) hb) hI hS K' (fun a w hS hW => hK a w ⟨hS, hW⟩) _ id)
  · exact hs' j hj D a w hr hI hS
theorem wpAnyH_par (H : List Nat) (Dz : Array Bool) {fuel : Nat} {D0 : Array Bool} {a0 : Act} {w0 : World} (n : Nat) (hH : parB md ops H Dz n D0 = true) (hS : S w0) (J : Act → Array Bool → Act → World → Prop) (h0 : J a0 D0 a0 w0)
    (hstep : ParSteps P md ops Q S (J a0) H) (hend : ∀ a w, S w → J a0 Dz a w → wpAnyH P md ops Q S fuel Dz a w) : wpAnyH P md ops Q S (fuel + n) D0 a0 w0 := by
  generalize hJ : J a0 = I at *
  clear hJ
  induction n generalizing D0 a0 w0 with
  | zero =>
    unfold parB at hH
    obtain rfl : D0 = Dz := of_decide_eq_true hH
    exact hend _ _ hS h0
  | succ n ih =>
    unfold parB at hH
    simp only [Bool.and_eq_true, Bool.not_eq_true', List.all_eq_true, List.isEmpty_eq_false_iff, List.contains_iff_mem] at hH
    refine wpAnyH_ready (fuel := fuel + n) rfl hH.1 fun i hi => ?_
    have h1 := hH.2 i hi
    exact wpOp_mono (fun a' w' h => ⟨h.1, ih h1.2 h.1 h.2⟩) (hstep i h1.1 D0 a0 w0 hi h0 hS)
end
end Go.Proofs.Ytmjgcdolnkdfoaa
