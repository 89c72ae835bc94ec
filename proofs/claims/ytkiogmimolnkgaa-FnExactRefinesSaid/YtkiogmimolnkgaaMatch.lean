/- Matching the filled atoms of two assertions in a case. Plain; no program. -/
import Derived.Test.YtkiogmimolnkgaaCase
namespace Go.Proofs.Ytkiogmimolnkgaa
open Go

/-- atom k is not used and begins at class c -/
def freeAt (atoms : List Atm) (used : List Bool) (c : Int) (k : Nat) : Bool := decide (((atoms[k]?).getD default).a = c) && !((used[k]?).getD true)
def findU (atoms : List Atm) (used : List Bool) (c : Int) : Option Nat := (List.range atoms.length).find? (freeAt atoms used c)
def closedB (atoms : List Atm) (b : Int) : Bool := decide (b = 0) || atoms.any fun x => decide (x.a = b)
def chainF (atoms : List Atm) (b : Int) : Nat → List Bool → Int → Option (List Bool)
  | 0, _, _ => none
  | n + 1, used, c => (findU atoms used c).bind fun k =>
      if ((atoms[k]?).getD default).b = b then some (used.set k true)
      else if ((atoms[k]?).getD default).kind = 2 ∧ closedB atoms b = false then none
      else chainF atoms b n (used.set k true) ((atoms[k]?).getD default).b
def useOne (atoms : List Atm) (used : List Bool) (x : Atm) : Option (List Bool) :=
  if x.kind = 1 then (findU atoms used x.a).bind fun k => if (atoms[k]?).getD default = x then some (used.set k true) else none
  else chainF atoms x.b (atoms.length + 1) used x.a
def matchF (atoms : List Atm) : List Bool → List Atm → Option (List Bool)
  | used, [] => some used
  | used, x :: xs => (useOne atoms used x).bind fun u => matchF atoms u xs
def matchB (atoms goal : List Atm) : Bool := match matchF atoms (List.replicate atoms.length false) goal with | some u => u.all id | none => false
def entB (a b : Asn) (c : List Int) : Bool := b.facts.all (Fct.fits c) && matchB (filledL a.atoms c) (filledL b.atoms c)

theorem range_find_some {n k : Nat} {p : Nat → Bool} (hk : k < n) (hp : p k = true) (hb : ∀ j, j < k → p j = false) : (List.range n).find? p = some k := by
  rw [List.find?_range_eq_some]
  refine ⟨hp, by simpa using hk, fun j hj => by simp [hb j hj]⟩
theorem range_find_none {n : Nat} {p : Nat → Bool} (hb : ∀ j, j < n → p j = false) : (List.range n).find? p = none := by
  rw [List.find?_eq_none]
  intro j hj
  rw [List.mem_range] at hj
  simp [hb j hj]
theorem findU_some {atoms : List Atm} {used : List Bool} {c : Int} {k : Nat} (h : findU atoms used c = some k) : k < atoms.length ∧ freeAt atoms used c k = true := by
  unfold findU at h
  have h1 := List.mem_of_find?_eq_some h
  exact ⟨by simpa using h1, List.find?_some h⟩
theorem freeAt_used {atoms : List Atm} {used : List Bool} {c : Int} {k : Nat} (h : freeAt atoms used c k = true) : k < used.length ∧ used[k]? = some false := by
  unfold freeAt at h
  cases e : used[k]? with
  | none => rw [e] at h; simp at h
  | some u =>
    rw [e] at h
    have := (List.getElem?_eq_some_iff.1 e).1
    cases u
    · exact ⟨this, rfl⟩
    · simp at h
theorem count_take {used : List Bool} {k : Nat} (h : used[k]? = some false) : (used.set k true).count true = used.count true + 1 := by
  induction used generalizing k with
  | nil => simp at h
  | cons u us ih =>
    cases k with
    | zero => simp at h; subst h; simp
    | succ k =>
      simp only [List.set_cons_succ, List.count_cons]
      rw [ih (by simpa using h)]
      omega
theorem count_all {used : List Bool} : (used.count true = used.length) ↔ used.all id = true := by
  induction used with
  | nil => simp
  | cons u us ih =>
    have := List.count_le_length (a := true) (l := us)
    cases u
    · simp; omega
    · simp only [List.count_cons, beq_self_eq_true, if_true, List.length_cons, List.all_cons, id_eq, Bool.true_and]
      rw [← ih]; omega
theorem chainF_len {atoms : List Atm} {b : Int} : ∀ (n : Nat) (used : List Bool) (c : Int) (u : List Bool), chainF atoms b n used c = some u → u.length = used.length := by
  intro n
  induction n with
  | zero => intro used c u h; cases h
  | succ n ih =>
    intro used c u h
    unfold chainF at h
    rw [Option.bind_eq_some_iff] at h
    obtain ⟨k, hk, h⟩ := h
    split at h
    · cases h; simp
    · split at h
      · cases h
      · rw [ih _ _ _ h]; simp
theorem useOne_len {atoms : List Atm} {used : List Bool} {x : Atm} {u : List Bool} (h : useOne atoms used x = some u) : u.length = used.length := by
  unfold useOne at h
  split at h
  · rw [Option.bind_eq_some_iff] at h
    obtain ⟨k, hk, h⟩ := h
    split at h
    · cases h; simp
    · cases h
  · exact chainF_len _ _ _ _ h
end Go.Proofs.Ytkiogmimolnkgaa
