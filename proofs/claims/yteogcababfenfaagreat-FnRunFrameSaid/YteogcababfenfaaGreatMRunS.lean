/- Running programs in a part of a heap; plain. -/
import Derived.Test.YteogcababfenfaaGreatMCells
import Derived.Test.YteogcababfenfaaGreatMParts
set_option linter.unusedSimpArgs false
set_option linter.unusedVariables false
namespace Go.Proofs.YteogcababfenfaaGreat
open Go Go.RowKit Go.Proofs

/-- the heap h is the part p and the rest r -/
def Glue (p r h : List Int) : Prop := p.length = 8 ∧ h.length = 8 ∧ ∀ a, addrB a = true → (0 ≤ cont r a → cont p a < 0 ∧ cont h a = cont r a) ∧ (cont r a < 0 → cont h a = cont p a)
theorem Glue.cont {p r h : List Int} (g : Glue p r h) {a : Int} (ha : allocB p a = true) : addrB a = true ∧ 0 ≤ Proofs.YteogcababfenfaaGreat.cont p a ∧ Proofs.YteogcababfenfaaGreat.cont h a = Proofs.YteogcababfenfaaGreat.cont p a ∧ allocB h a = true := by
  obtain ⟨h1, h2⟩ := cont_alloc ha
  have h3 := g.2.2 a h1
  have h4 : Proofs.YteogcababfenfaaGreat.cont h a = Proofs.YteogcababfenfaaGreat.cont p a := h3.2 (by rcases Int.lt_or_le (Proofs.YteogcababfenfaaGreat.cont r a) 0 with q | q; exact q; have := (h3.1 q).1; omega)
  exact ⟨h1, h2, h4, by simp only [allocB, decide_eq_true_eq]; omega⟩
theorem Glue.set {p r h : List Int} (g : Glue p r h) {a : Int} (ha : allocB p a = true) (v : Int) : Glue (p.set (a - 1).toNat v) r (h.set (a - 1).toNat v) := by
  obtain ⟨h1, h2, h3, h4⟩ := g.cont ha
  refine ⟨by simpa using g.1, by simpa using g.2.1, fun b hb => ?_⟩
  rw [cont_set8 g.1 h1 hb, cont_set8 g.2.1 h1 hb]
  have h5 := g.2.2 b hb
  by_cases e : b = a
  · subst e
    rw [if_pos rfl, if_pos rfl]
    exact ⟨fun q => by have := (h5.1 q).1; omega, fun _ => rfl⟩
  · rw [if_neg e, if_neg e]
    exact h5
/-- what ends in a part ends in the whole alike -/
def Local (r : List Int) (R : Ste → Nat → Ste × Int × Nat) : Prop := ∀ s s' f, s'.values = s.values → Glue s.heap r s'.heap → (R s f).2.1 = 0 → (R s' f).2 = (R s f).2 ∧ (R s' f).1.values = (R s f).1.values ∧ Glue (R s f).1.heap r (R s' f).1.heap
theorem loopF_local {r : List Int} {R : Ste → Nat → Ste × Int × Nat} (hR : Local r R) (t : Fct) : ∀ m, Local r (loopF R t m)
  | 0 => fun s s' f hv hg h0 => by simp [loopF] at h0
  | m + 1 => fun s s' f hv hg h0 => by
    simp only [loopF] at h0 ⊢
    rw [hv]
    by_cases ht : t.holds s.values = true
    · simp only [if_pos ht] at h0 ⊢
      by_cases hc : (R s f).2.1 ≠ 0
      · simp only [if_pos hc] at h0
        exact absurd h0 hc
      · have hc0 : (R s f).2.1 = 0 := by simpa using hc
        obtain ⟨q1, q2, q3⟩ := hR s s' f hv hg hc0
        simp only [if_neg hc] at h0
        have hc' : ¬ (R s' f).2.1 ≠ 0 := by rw [q1]; exact hc
        simp only [if_neg hc, if_neg hc', q1]
        by_cases hf : (R s f).2.2 < 1
        · simp only [if_pos hf] at h0
          exact absurd h0 (by decide)
        · simp only [if_neg hf] at h0 ⊢
          exact loopF_local hR t m _ _ _ q2 q3 h0
    · simp only [if_neg ht] at h0 ⊢
      refine ⟨?_, hv, hg⟩ <;> first | trivial | rfl
theorem basicF_local {r : List Int} {k a b : Int} (hk : k ≠ 4) {s s' : Ste} (hv : s'.values = s.values) (hg : Glue s.heap r s'.heap) (h0 : (basicF s k a b).2 = 0) : (basicF s' k a b).2 = (basicF s k a b).2 ∧ (basicF s' k a b).1.values = (basicF s k a b).1.values ∧ Glue (basicF s k a b).1.heap r (basicF s' k a b).1.heap := by
  unfold basicF at h0 ⊢
  rw [hv]
  by_cases k1 : k = 1
  · simp only [if_pos k1]
    refine ⟨?_, ?_, hg⟩ <;> first | trivial | rfl
  simp only [if_neg k1] at h0 ⊢
  by_cases k2 : k = 2
  · simp only [if_pos k2] at h0 ⊢
    by_cases ha : allocB s.heap (tval s.values b) = true
    · obtain ⟨-, -, q3, q4⟩ := hg.cont ha
      simp only [if_pos ha, if_pos q4, q3]
      refine ⟨?_, ?_, hg⟩ <;> first | trivial | rfl
    · simp only [if_neg ha] at h0
      exact absurd h0 (by decide)
  simp only [if_neg k2] at h0 ⊢
  by_cases k3 : k = 3
  · simp only [if_pos k3] at h0 ⊢
    by_cases ha : allocB s.heap (tval s.values a) = true
    · obtain ⟨-, -, q3, q4⟩ := hg.cont ha
      simp only [if_pos ha, if_pos q4]
      refine ⟨?_, ?_, hg.set ha _⟩ <;> first | trivial | rfl
    · simp only [if_neg ha] at h0
      exact absurd h0 (by decide)
  simp only [if_neg k3, if_neg hk] at h0 ⊢
  by_cases ha : allocB s.heap (tval s.values a) = true
  · obtain ⟨-, -, q3, q4⟩ := hg.cont ha
    simp only [if_pos ha, if_pos q4]
    refine ⟨?_, ?_, hg.set ha _⟩ <;> first | trivial | rfl
  · simp only [if_neg ha] at h0
    exact absurd h0 (by decide)
theorem cmdR_local {r : List Int} {RB RE : Ste → Nat → Ste × Int × Nat} (hB : Local r RB) (hE : Local r RE) {k : Int} (hk : k ≠ 4) (a b : Int) (t : Fct) : Local r (cmdR k a b t RB RE) := fun s s' f hv hg h0 => by
  unfold cmdR at h0 ⊢
  by_cases k6 : k = 6
  · simp only [if_pos k6] at h0 ⊢
    rw [hv]
    by_cases ht : t.holds s.values = true
    · simp only [if_pos ht] at h0 ⊢
      exact hB s s' f hv hg h0
    · simp only [if_neg ht] at h0 ⊢
      exact hE s s' f hv hg h0
  simp only [if_neg k6] at h0 ⊢
  by_cases k7 : k = 7
  · simp only [if_pos k7] at h0 ⊢
    exact loopF_local hB t _ s s' f hv hg h0
  simp only [if_neg k7] at h0 ⊢
  obtain ⟨q1, q2, q3⟩ := basicF_local hk hv hg h0
  exact ⟨by rw [q1], q2, q3⟩
theorem cmdF_local {r : List Int} {RB RE : Ste → Nat → Ste × Int × Nat} (hB : Local r RB) (hE : Local r RE) {k : Int} (hk : k ≠ 4) (a b : Int) (t : Fct) : Local r (cmdF k a b t RB RE) := fun s s' f hv hg h0 => by
  unfold cmdF at h0 ⊢
  by_cases hf : f < 1
  · simp only [if_pos hf] at h0
    exact absurd h0 (by decide)
  · simp only [if_neg hf] at h0 ⊢
    exact cmdR_local hB hE hk a b t s s' _ hv hg h0
/-- no command allocates -/
def Cms.noNew : Cms → Bool
  | .nil => true
  | .cons k _ _ _ _ body els r => decide (k ≠ 4) && (body.noNew && els.noNew && r.noNew)
theorem run_local {r : List Int} : ∀ (L : Cms), L.noNew = true → Local r L.run
  | .nil, _ => fun s s' f hv hg h0 => ⟨rfl, hv, hg⟩
  | .cons k a b t i body els rst, h => fun s s' f hv hg h0 => by
    simp only [Cms.noNew, Bool.and_eq_true, decide_eq_true_eq] at h
    obtain ⟨hk, ⟨hb, he⟩, hr⟩ := h
    have hL := cmdF_local (run_local body hb) (run_local els he) hk a b t s s' f hv hg
    simp only [Cms.run] at h0 ⊢
    by_cases hc : (cmdF k a b t body.run els.run s f).2.1 ≠ 0
    · simp only [if_pos hc] at h0
      exact absurd h0 hc
    · have hc0 : (cmdF k a b t body.run els.run s f).2.1 = 0 := by simpa using hc
      obtain ⟨q1, q2, q3⟩ := hL hc0
      have hc' : ¬ (cmdF k a b t body.run els.run s' f).2.1 ≠ 0 := by rw [q1]; exact hc
      simp only [if_neg hc] at h0
      simp only [if_neg hc, if_neg hc', q1]
      exact run_local rst hr _ _ _ q2 q3 h0
/-- execution is local -/
theorem frame_run {s p : Ste} {r : List Int} {L : Cms} {f : Int} (hs : s.valid = true) (hv : s.values = p.values) (hg : Glue p.heap r s.heap) (hL : L.noNew = true) (h0 : codeF p L f = 0) :
    codeF s L f = 0 ∧ (afterF s L f).values = (afterF p L f).values ∧ Glue (afterF p L f).heap r (afterF s L f).heap := by
  have hr : runsP p L f = true := runs_of_code (by rw [h0]; decide)
  obtain ⟨-, h2, h3, h4⟩ := runsP_iff.1 hr
  have hr' : runsP s L f = true := runsP_iff.2 ⟨hs, h2, h3, h4⟩
  have e0 : (L.run p f.toNat).2.1 = 0 := by rw [← code_run hr]; exact h0
  obtain ⟨q1, q2, q3⟩ := run_local L hL p s f.toNat hv hg e0
  have h5 : codeF s L f = 0 := by rw [code_run hr', q1, e0]
  exact ⟨h5, by rw [after_run h5, after_run h0]; exact q2, by rw [after_run h5, after_run h0]; exact q3⟩
end Go.Proofs.YteogcababfenfaaGreat

/- Parts of a heap and their join; plain. -/
namespace Go.Proofs.YteogcababfenfaaGreat
open Go Go.RowKit Go.Proofs

theorem Glue.keep {s : Ste} (hs : s.valid = true) (p : Int → Bool) : Glue (keepS s p).heap (keepS s fun x => !p x).heap s.heap := by
  have hl := (Ste.valid_iff.1 hs).2.1
  refine ⟨(Ste.valid_iff.1 (keep_valid hs p)).2.1, hl, fun a ha => ?_⟩
  have h1 := cont_le (Ste.all_heap hs) a
  simp only [keepS, cont_keep]
  cases hp : p a
  · simp
    omega
  · simp
/-- two heaps as one -/
def joinH (y r : List Int) : List Int := (List.range 8).map fun i : Nat => if 0 ≤ Proofs.YteogcababfenfaaGreat.cont r ((i : Int) + 1) then Proofs.YteogcababfenfaaGreat.cont r ((i : Int) + 1) else Proofs.YteogcababfenfaaGreat.cont y ((i : Int) + 1)
theorem cont_succ {h : List Int} (hl : h.length = 8) {i : Nat} (hi : i < 8) : h[i]? = some (Proofs.YteogcababfenfaaGreat.cont h ((i : Int) + 1)) := by
  unfold Proofs.YteogcababfenfaaGreat.cont
  rw [if_pos (by simp only [addrB, decide_eq_true_eq]; omega)]
  rw [show ((i : Int) + 1 - 1).toNat = i by omega, List.getElem?_eq_getElem (by omega)]
  rfl
theorem Glue.join {y r x : List Int} (g : Glue y r x) : joinH y r = x ∧ ∀ i : Nat, i < 8 → 0 ≤ Proofs.YteogcababfenfaaGreat.cont r ((i : Int) + 1) → Proofs.YteogcababfenfaaGreat.cont y ((i : Int) + 1) < 0 := by
  have ha : ∀ i : Nat, i < 8 → addrB ((i : Int) + 1) = true := fun i hi => by simp only [addrB, decide_eq_true_eq]; omega
  refine ⟨?_, fun i hi h => ((g.2.2 _ (ha i hi)).1 h).1⟩
  apply List.ext_getElem?
  intro i
  by_cases hi : i < 8
  · rw [cont_succ g.2.1 hi]
    unfold joinH
    rw [List.getElem?_map, List.getElem?_range hi, Option.map_some]
    have h := g.2.2 _ (ha i hi)
    by_cases h0 : 0 ≤ Proofs.YteogcababfenfaaGreat.cont r ((i : Int) + 1)
    · rw [if_pos h0, (h.1 h0).2]
    · rw [if_neg h0, h.2 (by omega)]
  · rw [List.getElem?_eq_none (by simp [joinH]; omega), List.getElem?_eq_none (by have := g.2.1; omega)]
end Go.Proofs.YteogcababfenfaaGreat
