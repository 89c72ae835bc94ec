/- Exposing cells; plain. -/
import Derived.Test.YtlmjjflalmegfaaExpB
import Derived.Test.YtlmjjflalmegfaaMCanon
set_option linter.unusedSimpArgs false
set_option linter.unusedVariables false
namespace Go.Proofs.Ytlmjjflalmegfaa
open Go Go.RowKit Go.Proofs

theorem imp_iff {a : Asn} {f : Fct} : impB a f = true ↔ a.valid = true ∧ f.valid = true ∧ ∀ M, Sat M a → decide (M f.a = M f.b) = f.eq := by
  unfold impB
  rw [Bool.and_eq_true, Bool.and_eq_true, and_assoc, List.all_eq_true]
  constructor
  · rintro ⟨h1, h2, h3⟩
    refine ⟨h1, h2, fun M hM => ?_⟩
    have hfo := Fct.valid_ok h2
    have ha : isTermB f.a = true := by simp [isTermB]; omega
    have hb : isTermB f.b = true := by simp [isTermB]; omega
    have hbit : ∀ j : Nat, (factS f).testBit j = (decide (f.a = (j : Int)) || decide (f.b = (j : Int))) := fun j => by
      rw [tins_bit, tins_bit, Nat.zero_testBit, ha, hb]; simp
    have b1 : (caseS a (factS f)).testBit f.a.toNat = true := by rw [caseS_bit, hbit, Int.toNat_of_nonneg hfo.1.1]; simp
    have b2 : (caseS a (factS f)).testBit f.b.toNat = true := by rw [caseS_bit, hbit, Int.toNat_of_nonneg hfo.2.1]; simp
    have hc := sat_case h1 (caseS_zero a (factS f)) (caseS_terms h1 (factS f)) hM
    have h4 := h3 _ hc
    have h5 := cl_canon_eq (M := M) (S := caseS a (factS f)) ⟨hfo.1, b1⟩ ⟨hfo.2, b2⟩
    simp only [Fct.fits, beq_iff_eq] at h4
    rw [← h4, decide_eq_decide]
    exact h5.symm
  · rintro ⟨h1, h2, h3⟩
    refine ⟨h1, h2, fun c hc => ?_⟩
    have := h3 _ (case_sat h1 (caseS_zero a (factS f)) hc)
    simp only [Fct.fits, beq_iff_eq]
    exact this
def emptyX (a : Asn) (x : Atm) (i : Nat) : Asn := ⟨a.facts ++ [⟨true, x.a, x.b⟩], withoutL a.atoms i⟩
def fullX (a : Asn) (x : Atm) (i : Nat) (m : Int) : Asn := ⟨a.facts ++ [⟨false, x.a, x.b⟩], ([⟨1, x.a, m⟩] ++ withoutL a.atoms i) ++ [⟨2, m, x.b⟩]⟩
theorem without_perm {xs : List Atm} {i : Nat} {x : Atm} (h : xs[i]? = some x) : xs.Perm (x :: withoutL xs i) := by
  obtain ⟨hi, rfl⟩ := List.getElem?_eq_some_iff.1 h
  have e : xs = xs.take i ++ xs[i] :: xs.drop (i + 1) := by rw [← List.drop_eq_getElem_cons hi, List.take_append_drop]
  conv => lhs; rw [e]
  exact List.perm_middle
theorem full_sat {M : Int → Int} {a : Asn} {x : Atm} {i : Nat} {m : Int} (hx : a.atoms[i]? = some x) (hk : x.kind = 2) (h : Sat M (fullX a x i m)) : Sat M a := by
  have hp := without_perm hx
  have hne : decide (M x.a = M x.b) = false := h.facts ⟨false, x.a, x.b⟩ (by simp [fullX])
  have hfx : fillM M x = true := by simp [fillM, hne]
  have hf1 : fillM M ⟨1, x.a, m⟩ = true := by simp [fillM]
  refine ⟨fun f hf => h.facts f (by simp [fullX, hf]), fun y hy hfy => ?_, ?_⟩
  · rcases List.mem_cons.1 (hp.mem_iff.1 hy) with rfl | hy
    · exact h.nil ⟨1, y.a, m⟩ (by simp [fullX]) hf1
    · exact h.nil y (by simp [fullX, hy]) hfy
  · have h2 := h.apart
    refine ((hp.filter (fillM M)).map fun x => M x.a).nodup_iff.2 ?_
    rw [List.filter_cons, if_pos hfx]
    simp only [fullX, List.filter_append, List.map_append, List.append_assoc, List.singleton_append, List.filter_cons, List.cons_append, if_pos hf1, List.map_cons, List.filter_nil, List.nil_append] at h2
    refine List.Nodup.sublist ?_ h2
    simp only [List.map_cons]
    exact List.Sublist.cons_cons _ (List.sublist_append_left _ _)
theorem full_imp {a : Asn} {x : Atm} {i : Nat} {m t : Int} (hx : a.atoms[i]? = some x) (hk : x.kind = 2) (hf : (fullX a x i m).valid = true) (h : impB a ⟨true, x.a, t⟩ = true) : impB (fullX a x i m) ⟨true, x.a, t⟩ = true := by
  rw [imp_iff] at h ⊢
  exact ⟨hf, h.2.1, fun M hM => h.2.2 M (full_sat hx hk hM)⟩
theorem find_some {a : Asn} {kind t : Int} {i : Nat} (h : findK a kind t = some i) : ∃ x, a.atoms[i]? = some x ∧ x.kind = kind ∧ impB a ⟨true, x.a, t⟩ = true ∧ i < a.atoms.length := by
  have h1 := List.find?_some h
  unfold findP at h1
  cases e : a.atoms[i]? with
  | none => rw [e] at h1; cases h1
  | some x =>
    rw [e] at h1
    simp only [Bool.and_eq_true, decide_eq_true_eq] at h1
    exact ⟨x, rfl, h1.1, h1.2, (List.getElem?_eq_some_iff.1 e).1⟩
theorem full_find {a : Asn} {x : Atm} {i : Nat} {m t : Int} (hx : a.atoms[i]? = some x) (hk : x.kind = 2) (hf : (fullX a x i m).valid = true) (h : impB a ⟨true, x.a, t⟩ = true) : findK (fullX a x i m) 1 t = some 0 := by
  refine findK_yes (by simp [fullX]) (fun j hj => by omega) ?_
  unfold findP
  have : (fullX a x i m).atoms[0]? = some ⟨1, x.a, m⟩ := by simp [fullX]
  rw [this]
  simp [full_imp hx hk hf h]
/-- what exposing a term gives, with at most n unfoldings -/
def exposeF : Nat → Asn → Int → Nat → Option (List Asn)
  | 0, _, _, _ => none
  | n + 1, a, t, K =>
    if a.valid = false then none
    else if consB a = false then some []
    else match findK a 1 t with
      | some i => if (cellX a (a.atoms[i]?.getD default) i t).valid then some [cellX a (a.atoms[i]?.getD default) i t] else none
      | none => match findK a 2 t with
        | none => none
        | some i => match newT (tset (termsL a) ||| tins K t) with
          | none => none
          | some m => match exposeF n (emptyX a (a.atoms[i]?.getD default) i) t K with
            | none => none
            | some l1 => match exposeF n (fullX a (a.atoms[i]?.getD default) i (m : Int)) t K with
              | none => none
              | some l2 => some (l1 ++ l2)
theorem expose_direct {a : Asn} {t : Int} {K n : Nat} (h : consB a = true → (findK a 1 t).isSome = true) : exposeF (n + 1) a t K = exposeF 1 a t K := by
  unfold exposeF
  split
  · rfl
  · split
    · rfl
    · rename_i h1 h2
      have h3 := h (by simpa using h2)
      cases e : findK a 1 t with
      | none => rw [e] at h3; cases h3
      | some i => rfl
end Go.Proofs.Ytlmjjflalmegfaa
