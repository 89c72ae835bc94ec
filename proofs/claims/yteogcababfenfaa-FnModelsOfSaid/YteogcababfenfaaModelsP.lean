/- Some states of an assertion; plain. -/
import Derived.Test.YteogcababfenfaaMGrowP
import Derived.Test.YteogcababfenfaaSteSS
import Derived.Test.YteogcababfenfaaMCasesS
import Derived.Test.YteogcababfenfaaMCells
set_option linter.unusedSimpArgs false
set_option linter.unusedVariables false
namespace Go.Proofs.Yteogcababfenfaa
open Go Go.RowKit Go.Proofs

def pickS (a : Asn) (c : List Int) (m : Nat) : List Ste := match varF a c m true with
  | some s => if holdsF s a then [s] else []
  | none => []
/-- the states of one case, for the first k masks -/
def caseM (a : Asn) (c : List Int) (k : Nat) : List Ste := (List.range k).flatMap (pickS a c)
def casesM (a : Asn) (L : List (List Int)) : List Ste := L.flatMap fun c => caseM a c 4
/-- what ModelsOf hands back -/
def modelsV (a : Asn) : List Ste := casesM a ((casesV a).take 4)
theorem caseM_succ (a : Asn) (c : List Int) (k : Nat) : caseM a c (k + 1) = caseM a c k ++ pickS a c k := by
  unfold caseM; rw [List.range_succ, List.flatMap_append]; simp
theorem pickS_le (a : Asn) (c : List Int) (m : Nat) : (pickS a c m).length ≤ 1 := by
  unfold pickS; split
  · split <;> simp
  · simp
theorem caseM_le (a : Asn) (c : List Int) : ∀ k, (caseM a c k).length ≤ k
  | 0 => by simp [caseM]
  | k + 1 => by
    rw [caseM_succ, List.length_append]
    have := caseM_le a c k
    have := pickS_le a c k
    omega
theorem casesM_le (a : Asn) : ∀ (L : List (List Int)), (casesM a L).length ≤ L.length * 4
  | [] => by simp [casesM]
  | c :: L => by
    have h1 := casesM_le a L
    have h2 := caseM_le a c 4
    simp only [casesM, List.flatMap_cons, List.length_append, List.length_cons] at h1 ⊢
    omega
theorem casesM_snoc (a : Asn) (L : List (List Int)) (c : List Int) : casesM a (L ++ [c]) = casesM a L ++ caseM a c 4 := by simp [casesM]
theorem pick_no {a : Asn} {c : List Int} {m : Nat} (h : (varF a c m true).isSome = false) : pickS a c m = [] := by
  unfold pickS
  cases e : varF a c m true with
  | none => rfl
  | some s => rw [e] at h; cases h
theorem pick_yes {a : Asn} {c : List Int} {m : Nat} {s : Ste} (h : varF a c m true = some s) : pickS a c m = if holdsF s a then [s] else [] := by
  unfold pickS; rw [h]
theorem growF_len {vs : List Int} {mask : Nat} {last : Bool} : ∀ (xs : List Atm) (n : Nat) (h h' : List Int), growF vs mask last xs n h = some h' → h'.length = h.length
  | [], _, h, h', e => by rw [growF] at e; rw [Option.some.inj e]
  | x :: xs, n, h, h', e => by
    rw [growF] at e
    split at e
    · exact growF_len xs n h h' e
    · split at e
      · exact growF_len xs (n + 1) h h' e
      · split at e
        · cases e
        · rename_i h2 e2
          have := growF_len xs (n + 1) h2 h' e
          rw [this]
          unfold growS at e2
          split at e2
          · cases e2
          · rw [← Option.some.inj e2]; simp
theorem varF_len {a : Asn} {c : List Int} {m : Nat} {last : Bool} {s : Ste} (h : varF a c m last = some s) : s.values.length = 8 ∧ s.heap.length = 8 := by
  unfold varF at h
  cases e : growF (modV c) m last (filledL a.atoms c) 0 (modS a c).heap with
  | none => rw [e] at h; cases h
  | some h' =>
    rw [e] at h
    have h2 := growF_len _ _ _ _ e
    have : s = ⟨modV c, h'⟩ := (Option.some.inj h).symm
    subst this
    exact ⟨(modV_ok c).1, by rw [h2]; show (heapS _ _ _).length = 8; rw [heapS_len]; rfl⟩
theorem casesM_len8 {a : Asn} {L : List (List Int)} {s : Ste} (h : s ∈ casesM a L) : s.values.length = 8 ∧ s.heap.length = 8 := by
  unfold casesM caseM at h
  simp only [List.mem_flatMap] at h
  obtain ⟨c, -, m, -, hm⟩ := h
  unfold pickS at hm
  split at hm
  · rename_i t e
    split at hm
    · rw [List.mem_singleton] at hm
      rw [hm]; exact varF_len e
    · cases hm
  · cases hm
theorem tot_eight : ∀ (ss : List Ste), (∀ s ∈ ss, s.values.length = 8 ∧ s.heap.length = 8) → tot (rowsS ss) = ss.length * 16
  | [], _ => rfl
  | s :: ss, h => by
    have e : rowsS (s :: ss) = s.values :: s.heap :: rowsS ss := rfl
    have h1 := h s List.mem_cons_self
    rw [e, tot_cons, tot_cons, tot_eight ss fun t ht => h t (List.mem_cons_of_mem _ ht), h1.1, h1.2, List.length_cons]
    omega
theorem modelsV_tot (a : Asn) : tot (rowsS (modelsV a)) ≤ 16777216 := by
  unfold modelsV
  rw [tot_eight _ fun s hs => casesM_len8 hs]
  have h1 := casesM_le a ((casesV a).take 4)
  have h2 : ((casesV a).take 4).length ≤ 4 := by rw [List.length_take]; omega
  omega
end Go.Proofs.Yteogcababfenfaa
