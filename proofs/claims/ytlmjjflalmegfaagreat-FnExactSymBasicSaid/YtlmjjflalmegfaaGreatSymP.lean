/- Symbolic execution of a basic command; plain. -/
import Derived.Test.YtlmjjflalmegfaaGreatMWoS
set_option linter.unusedSimpArgs false
set_option linter.unusedVariables false
namespace Go.Proofs.YtlmjjflalmegfaaGreat
open Go Go.RowKit Go.Proofs

/-- a with the variable x forgotten, and the term that takes its place -/
def forgetF (a : Asn) (x : Int) (K : Nat) : Option (Asn × Int) := if (tset (termsL a)).testBit x.toNat then (newT (tset (termsL a) ||| K)).map fun n => (substA x (n : Int) a, (n : Int)) else some (a, x)
def setX (a : Asn) (x p t : Int) : Asn := ⟨a.facts ++ [⟨true, x, swp x p t⟩], a.atoms⟩
def newX (a : Asn) (x : Int) : Asn := ⟨a.facts, ⟨1, x, 0⟩ :: a.atoms⟩
def okX (a : Asn) : Option Asn := if a.valid then some a else none
def assignF (a : Asn) (x t : Int) (K : Nat) : Option Asn := (forgetF a x K).bind fun p => okX (setX p.1 x p.2 t)
def cellNF (a : Asn) (x : Int) (K : Nat) : Option Asn := (forgetF a x K).bind fun p => okX (newX p.1 x)
def head0 (a : Asn) : Atm := (a.atoms[0]?).getD default
def storeX (a : Asn) (B : Int) : Asn := ⟨a.facts, a.atoms.set 0 ⟨(head0 a).kind, (head0 a).a, B⟩⟩
def freeX (a : Asn) : Asn := ⟨a.facts, withoutL a.atoms 0⟩
/-- after a command whose cell is the first atom -/
def accF (k A B : Int) (a : Asn) (K : Nat) : Option Asn := if k = 2 then assignF a A (head0 a).b K else if k = 3 then some (storeX a B) else some (freeX a)
def mapF (f : Asn → Option Asn) : List Asn → Option (List Asn)
  | [] => some []
  | x :: xs => (f x).bind fun y => (mapF f xs).map (y :: ·)
theorem mapF_none {f : Asn → Option Asn} : ∀ {xs : List Asn} {k : Nat} (hk : k < xs.length), f xs[k] = none → mapF f xs = none
  | x :: xs, 0, _, h => by unfold mapF; rw [show f x = none from h]; rfl
  | x :: xs, k + 1, hk, h => by
    unfold mapF
    rw [mapF_none (xs := xs) (k := k) (by simpa using hk) h]
    cases f x <;> rfl
theorem mapF_some {f : Asn → Option Asn} : ∀ {xs ys : List Asn}, ys.length = xs.length → (∀ (k : Nat) (h : k < xs.length) (h' : k < ys.length), f xs[k] = some ys[k]) → mapF f xs = some ys
  | [], [], _, _ => rfl
  | [], _ :: _, h, _ => by simp at h
  | _ :: _, [], h, _ => by simp at h
  | x :: xs, y :: ys, hl, h => by
    unfold mapF
    rw [show f x = some y from h 0 (by simp) (by simp), mapF_some (xs := xs) (ys := ys) (by simpa using hl) fun k h1 h2 => h (k + 1) (by simpa using h1) (by simpa using h2)]
    rfl
theorem mapF_spec {f : Asn → Option Asn} : ∀ {xs ys : List Asn}, mapF f xs = some ys → ys.length = xs.length ∧ ∀ (k : Nat) (h : k < xs.length) (h' : k < ys.length), f xs[k] = some ys[k]
  | [], ys, h => by obtain rfl := Option.some.inj h; exact ⟨rfl, fun k h => absurd h (by simp)⟩
  | x :: xs, ys, h => by
    unfold mapF at h
    rw [Option.bind_eq_some_iff] at h
    obtain ⟨y, h1, h2⟩ := h
    rw [Option.map_eq_some_iff] at h2
    obtain ⟨zs, h3, rfl⟩ := h2
    obtain ⟨g1, g2⟩ := mapF_spec h3
    refine ⟨by simp [g1], fun k k1 k2 => ?_⟩
    cases k with
    | zero => exact h1
    | succ k => exact g2 k (by simpa using k1) (by simpa using k2)
def symT (k A B : Int) : Int := if k = 2 then B else A
def symB (a : Asn) (k A B : Int) (K : Nat) : Option (List Asn) :=
  if k = 1 then (if A = B then some [a] else (assignF a A B K).map fun x => [x])
  else if k = 4 then (cellNF a A K).map fun x => [x]
  else (exposeF 7 a (symT k A B) K).bind fun l => mapF (fun x => accF k A B x K) l
/-- the terms that are kept, with those of the command -/
def keepK (K : Nat) (A B : Int) : Nat := tins (tins K A) B
def symR (a : Asn) (ok : Bool) (k A B : Int) (ks : List Int) : Option (List Asn) := if a.valid && ok then symB a k A B (keepK (tset ks) A B) else none
theorem okX_ok {a b : Asn} (h : okX a = some b) : b.valid = true ∧ b = a := by
  unfold okX at h
  split at h
  · rename_i hv; obtain rfl := Option.some.inj h; exact ⟨hv, rfl⟩
  · cases h
theorem assignF_ok {a b : Asn} {x t : Int} {K : Nat} (h : assignF a x t K = some b) : b.valid = true := by
  unfold assignF at h
  obtain ⟨p, -, h⟩ := Option.bind_eq_some_iff.1 h
  exact (okX_ok h).1
theorem cellF_ok {a b : Asn} {x : Int} {K : Nat} (h : cellNF a x K = some b) : b.valid = true := by
  unfold cellNF at h
  obtain ⟨p, -, h⟩ := Option.bind_eq_some_iff.1 h
  exact (okX_ok h).1
theorem storeX_ok {a : Asn} (hv : a.valid = true) {B : Int} (hB : isTermB B = true) : (storeX a B).valid = true := by
  unfold storeX
  simp only [Asn.valid, Bool.and_eq_true, List.length_set] at hv ⊢
  refine ⟨hv.1, hv.2.1, List.all_eq_true.2 fun y hy => ?_⟩
  cases e : a.atoms with
  | nil => rw [e] at hy; simp at hy
  | cons z zs =>
    have hz := List.all_eq_true.1 hv.2.2 z (by rw [e]; simp)
    have e0 : head0 a = z := by unfold head0; rw [e]; rfl
    rcases List.mem_or_eq_of_mem_set hy with hy | rfl
    · exact List.all_eq_true.1 hv.2.2 y hy
    · simp only [Atm.valid, e0, hB] at hz ⊢
      simp at hz ⊢
      exact hz.1
theorem freeX_ok {a : Asn} (hv : a.valid = true) : (freeX a).valid = true := by
  unfold freeX withoutL
  simp only [Asn.valid, Bool.and_eq_true, decide_eq_true_eq, List.take_zero, List.nil_append, List.length_drop] at hv ⊢
  exact ⟨hv.1, by omega, List.all_eq_true.2 fun y hy => List.all_eq_true.1 hv.2.2 y (List.mem_of_mem_drop hy)⟩
theorem accF_ok {k A B : Int} {a b : Asn} {K : Nat} (hv : a.valid = true) (hB : k = 3 → isTermB B = true) (h : accF k A B a K = some b) : b.valid = true := by
  unfold accF at h
  split at h
  · exact assignF_ok h
  · split at h
    · rename_i h3
      obtain rfl := Option.some.inj h
      exact storeX_ok hv (hB h3)
    · obtain rfl := Option.some.inj h
      exact freeX_ok hv
theorem symB_ok {a : Asn} {k A B : Int} {K : Nat} {l : List Asn} (hv : a.valid = true) (hB : k = 3 → isTermB B = true) (h : symB a k A B K = some l) : l.length ≤ 128 ∧ ∀ b ∈ l, b.valid = true := by
  unfold symB at h
  split at h
  · split at h
    · obtain rfl := Option.some.inj h
      exact ⟨by simp, fun b hb => by rw [List.mem_singleton.1 hb]; exact hv⟩
    · obtain ⟨x, hx, rfl⟩ := Option.map_eq_some_iff.1 h
      exact ⟨by simp, fun b hb => by rw [List.mem_singleton.1 hb]; exact assignF_ok hx⟩
  · split at h
    · obtain ⟨x, hx, rfl⟩ := Option.map_eq_some_iff.1 h
      exact ⟨by simp, fun b hb => by rw [List.mem_singleton.1 hb]; exact cellF_ok hx⟩
    · obtain ⟨l0, h0, h⟩ := Option.bind_eq_some_iff.1 h
      obtain ⟨g1, g2⟩ := mapF_spec h
      have h1 := expose_ok h0
      refine ⟨by rw [g1]; exact h1.1, fun b hb => ?_⟩
      obtain ⟨j, hj, rfl⟩ := List.mem_iff_getElem.1 hb
      exact accF_ok (h1.2 _ (List.getElem_mem (by omega))) hB (g2 j (by omega) hj)
theorem symR_ok {a : Asn} {ok : Bool} {k A B : Int} {ks : List Int} (hB : ok = true → k = 3 → isTermB B = true) : ((symR a ok k A B ks).getD []).length ≤ 128 ∧ totA ((symR a ok k A B ks).getD []) ≤ 16777216 := by
  cases h : symR a ok k A B ks with
  | none => simp [totA, totR, rowsA]
  | some l =>
    have h' : (a.valid && ok) = true ∧ symB a k A B (keepK (tset ks) A B) = some l := by
      unfold symR at h
      split at h
      · rename_i hc; exact ⟨hc, h⟩
      · cases h
    rw [Bool.and_eq_true] at h'
    have h1 := symB_ok h'.1.1 (hB h'.1.2) h'.2
    have h2 : l.length ≤ 128 := h1.1
    refine ⟨h2, ?_⟩
    have h3 := totA_le (n := 12) (m := 6) fun s hs => valid_len (h1.2 s hs)
    simp only [Option.getD_some]
    omega
end Go.Proofs.YtlmjjflalmegfaaGreat
