/- Running programs: plain. -/
import Derived.Test.YteogcababfenfaaGreatMCmd
import Derived.Test.YteogcababfenfaaGreatMCmdK
import Derived.Test.YteogcababfenfaaGreatMCmdG
import Derived.Test.YteogcababfenfaaGreatMVisP
import Derived.Laws.CopyOwn
import Derived.Test.YteogcababfenfaaGreatMDrawV
set_option linter.unusedSimpArgs false
set_option linter.unusedVariables false
namespace Go.Proofs.YteogcababfenfaaGreat
open Go Go.RowKit Go.Proofs

/-- the first cell that is not allocated -/
def freeK (h : List Int) : Option Nat := (List.range 8).find? fun k : Nat => !allocB h ((k : Int) + 1)
theorem freeK_none {h : List Int} (H : ∀ k : Nat, k < 8 → allocB h ((k : Int) + 1) = true) : freeK h = none := by
  unfold freeK
  rw [List.find?_eq_none]
  intro k hk
  simp [H k (by simpa using hk)]
theorem find_range {p : Nat → Bool} {n k : Nat} (hk : k < n) (hp : p k = true) (hl : ∀ j, j < k → p j = false) : (List.range n).find? p = some k := by
  induction n with
  | zero => omega
  | succ n ih =>
    rw [List.range_succ, List.find?_append]
    rcases Nat.lt_or_ge k n with h | h
    · rw [ih h]; rfl
    · obtain rfl : k = n := by omega
      have e : (List.range k).find? p = none := by
        rw [List.find?_eq_none]; intro j hj
        simp [hl j (by simpa using hj)]
      rw [e]; simp [hp]
theorem freeK_some {h : List Int} {k : Nat} (hk : k < 8) (ha : allocB h ((k : Int) + 1) = false) (H : ∀ j : Nat, j < k → allocB h ((j : Int) + 1) = true) : freeK h = some k :=
  find_range hk (by simp [ha]) fun j hj => by simp [H j hj]
theorem freeK_lt {h : List Int} {k : Nat} (e : freeK h = some k) : k < 8 := by
  have := List.mem_of_find?_eq_some e
  simpa using this
/-- a command without blocks: the state after it and the code -/
def basicF (s : Ste) (k a b : Int) : Ste × Int :=
  if k = 1 then (⟨s.values.set (a - 1).toNat (tval s.values b), s.heap⟩, 0)
  else if k = 2 then if allocB s.heap (tval s.values b) then (⟨s.values.set (a - 1).toNat (cont s.heap (tval s.values b)), s.heap⟩, 0) else (s, 1)
  else if k = 3 then if allocB s.heap (tval s.values a) then (⟨s.values, s.heap.set (tval s.values a - 1).toNat (tval s.values b)⟩, 0) else (s, 1)
  else if k = 4 then match freeK s.heap with
    | some n => (⟨s.values.set (a - 1).toNat ((n : Int) + 1), s.heap.set n 0⟩, 0)
    | none => (s, 2)
  else if allocB s.heap (tval s.values a) then (⟨s.values, s.heap.set (tval s.values a - 1).toNat (-1)⟩, 0) else (s, 1)
/-- a loop: the rounds are bounded by n, which is more than the fuel -/
def loopF (R : Ste → Nat → Ste × Int × Nat) (t : Fct) : Nat → Ste → Nat → Ste × Int × Nat
  | 0, s, f => (s, 3, f)
  | n + 1, s, f => if t.holds s.values then
      (if (R s f).2.1 ≠ 0 then R s f else if (R s f).2.2 < 1 then ((R s f).1, 3, (R s f).2.2) else loopF R t n (R s f).1 ((R s f).2.2 - 1))
    else (s, 0, f)
/-- a command that is paid -/
def cmdR (k a b : Int) (t : Fct) (RB RE : Ste → Nat → Ste × Int × Nat) (s : Ste) (f : Nat) : Ste × Int × Nat :=
  if k = 6 then (if t.holds s.values then RB s f else RE s f) else if k = 7 then loopF RB t (f + 1) s f else ((basicF s k a b).1, (basicF s k a b).2, f)
/-- a command -/
def cmdF (k a b : Int) (t : Fct) (RB RE : Ste → Nat → Ste × Int × Nat) (s : Ste) (f : Nat) : Ste × Int × Nat :=
  if f < 1 then (s, 3, f) else cmdR k a b t RB RE s (f - 1)
/-- the state, the code and the fuel behind a program -/
def Cms.run : Cms → Ste → Nat → Ste × Int × Nat
  | .nil, s, f => (s, 0, f)
  | .cons k a b t _ body els r, s, f =>
    if (cmdF k a b t body.run els.run s f).2.1 ≠ 0 then cmdF k a b t body.run els.run s f else r.run (cmdF k a b t body.run els.run s f).1 (cmdF k a b t body.run els.run s f).2.2
/-- what a run keeps -/
def RunOk (R : Ste → Nat → Ste × Int × Nat) : Prop := ∀ s f, s.valid = true → (R s f).1.valid = true ∧ (R s f).2.2 ≤ f ∧ 0 ≤ (R s f).2.1 ∧ (R s f).2.1 ≤ 3
theorem Ste.valid_iff {s : Ste} : s.valid = true ↔ s.values.length = 8 ∧ s.heap.length = 8 ∧ (∀ v ∈ s.values, valB v = true) ∧ (∀ v ∈ s.heap, cellB v = true) := by
  simp only [Ste.valid, Bool.and_eq_true, decide_eq_true_eq, List.all_eq_true, and_assoc]
theorem Ste.set_values {s : Ste} (h : s.valid = true) (n : Nat) {u : Int} (hu : valB u = true) : (Ste.mk (s.values.set n u) s.heap).valid = true := by
  rw [Ste.valid_iff] at h ⊢
  refine ⟨by simpa using h.1, h.2.1, fun v hv => ?_, h.2.2.2⟩
  rcases List.mem_or_eq_of_mem_set hv with hv | rfl
  · exact h.2.2.1 v hv
  · exact hu
theorem Ste.set_heap {s : Ste} (h : s.valid = true) (n : Nat) {u : Int} (hu : cellB u = true) : (Ste.mk s.values (s.heap.set n u)).valid = true := by
  rw [Ste.valid_iff] at h ⊢
  refine ⟨h.1, by simpa using h.2.1, h.2.2.1, fun v hv => ?_⟩
  rcases List.mem_or_eq_of_mem_set hv with hv | rfl
  · exact h.2.2.2 v hv
  · exact hu
theorem Ste.all_vals {s : Ste} (h : s.valid = true) : s.values.all valB = true := by
  rw [List.all_eq_true]; exact (Ste.valid_iff.1 h).2.2.1
theorem Ste.all_heap {s : Ste} (h : s.valid = true) : s.heap.all cellB = true := by
  rw [List.all_eq_true]; exact (Ste.valid_iff.1 h).2.2.2
theorem tval_valB {s : Ste} (h : s.valid = true) (t : Int) : valB (tval s.values t) = true := by
  have := tval_le (Ste.all_vals h) t
  simp [valB, this]
theorem allocB_iff {h : List Int} {a : Int} : allocB h a = true ↔ 0 ≤ cont h a := by simp [allocB]
theorem allocB_addr {h : List Int} {a : Int} (ha : allocB h a = true) : 1 ≤ a ∧ a ≤ 8 := by
  rw [allocB_iff] at ha
  unfold cont at ha
  split at ha
  · rename_i h1; simpa [addrB] using h1
  · omega
theorem basicF_ok {s : Ste} (h : s.valid = true) (k a b : Int) : (basicF s k a b).1.valid = true ∧ 0 ≤ (basicF s k a b).2 ∧ (basicF s k a b).2 ≤ 3 := by
  unfold basicF
  split
  · exact ⟨Ste.set_values h _ (tval_valB h b), by simp, by simp⟩
  split
  · split
    · rename_i ha
      have h1 := cont_le (Ste.all_heap h) (tval s.values b)
      have h2 := allocB_iff.1 ha
      exact ⟨Ste.set_values h _ (by simp [valB]; omega), by simp, by simp⟩
    · exact ⟨h, by simp, by simp⟩
  split
  · split
    · exact ⟨Ste.set_heap h _ (by simp [cellB, tval_valB h]), by simp, by simp⟩
    · exact ⟨h, by simp, by simp⟩
  split
  · split
    · rename_i n e
      have hn := freeK_lt e
      exact ⟨Ste.set_heap (s := ⟨_, _⟩) (Ste.set_values h _ (by simp [valB]; omega)) n (by decide), by simp, by simp⟩
    · exact ⟨h, by simp, by simp⟩
  split
  · exact ⟨Ste.set_heap h _ (by decide), by simp, by simp⟩
  · exact ⟨h, by simp, by simp⟩
theorem loopF_ok {R : Ste → Nat → Ste × Int × Nat} (hR : RunOk R) (t : Fct) : ∀ n, RunOk (loopF R t n)
  | 0 => fun s f h => ⟨h, Nat.le_refl _, by simp [loopF], by simp [loopF]⟩
  | n + 1 => fun s f h => by
    have h1 := hR s f h
    simp only [loopF]
    split
    · split
      · exact h1
      · split
        · exact ⟨h1.1, h1.2.1, by simp, by simp⟩
        · have h2 := loopF_ok hR t n (R s f).1 ((R s f).2.2 - 1) h1.1
          exact ⟨h2.1, by omega, h2.2.2⟩
    · exact ⟨h, Nat.le_refl _, by simp, by simp⟩
theorem cmdR_ok {RB RE : Ste → Nat → Ste × Int × Nat} (hB : RunOk RB) (hE : RunOk RE) (k a b : Int) (t : Fct) : RunOk (cmdR k a b t RB RE) := fun s f h => by
  unfold cmdR
  split
  · split
    · exact hB s f h
    · exact hE s f h
  split
  · exact loopF_ok hB t _ s f h
  · have := basicF_ok h k a b
    exact ⟨this.1, Nat.le_refl _, this.2⟩
theorem cmdF_ok {RB RE : Ste → Nat → Ste × Int × Nat} (hB : RunOk RB) (hE : RunOk RE) (k a b : Int) (t : Fct) : RunOk (cmdF k a b t RB RE) := fun s f h => by
  unfold cmdF
  split
  · exact ⟨h, Nat.le_refl _, by simp, by simp⟩
  · have := cmdR_ok hB hE k a b t s (f - 1) h
    exact ⟨this.1, by omega, this.2.2⟩
theorem Cms.run_ok : ∀ (L : Cms), RunOk L.run
  | .nil => fun s f h => ⟨h, Nat.le_refl _, by simp [Cms.run], by simp [Cms.run]⟩
  | .cons k a b t i body els r => fun s f h => by
    have h1 := cmdF_ok (Cms.run_ok body) (Cms.run_ok els) k a b t s f h
    simp only [Cms.run]
    split
    · exact h1
    · have h2 := Cms.run_ok r (cmdF k a b t body.run els.run s f).1 (cmdF k a b t body.run els.run s f).2.2 h1.1
      exact ⟨h2.1, by omega, h2.2.2⟩
/-- the loop's bound does not matter -/
theorem loopF_more {R : Ste → Nat → Ste × Int × Nat} (hR : RunOk R) (t : Fct) : ∀ (n m : Nat) (s : Ste) (f : Nat), s.valid = true → f < n → f < m → loopF R t n s f = loopF R t m s f
  | 0, _, _, _, _, h, _ => by omega
  | _ + 1, 0, _, _, _, _, h => by omega
  | n + 1, m + 1, s, f, hs, h1, h2 => by
    simp only [loopF]
    have h3 := hR s f hs
    split
    · split
      · rfl
      · split
        · rfl
        · rename_i hq
          exact loopF_more hR t n m _ _ h3.1 (by omega) (by omega)
    · rfl
/-- what RunProgram hands back -/
def runsP (s : Ste) (L : Cms) (f : Int) : Bool := s.valid && (L.prog && decide (0 ≤ f ∧ f ≤ 200))
def codeF (s : Ste) (L : Cms) (f : Int) : Int := if runsP s L f then (L.run s f.toNat).2.1 else 4
def afterF (s : Ste) (L : Cms) (f : Int) : Ste := if codeF s L f = 0 then (L.run s f.toNat).1 else ⟨[], []⟩
def stepsF (s : Ste) (L : Cms) (f : Int) : Int := if runsP s L f then f - (L.run s f.toNat).2.2 else 0
end Go.Proofs.YteogcababfenfaaGreat

/- Running programs: parts of programs, other amounts of fuel, loops, changed variables. Plain. -/
namespace Go.Proofs.YteogcababfenfaaGreat
open Go Go.RowKit Go.Proofs

theorem run_app : ∀ (A B : Cms) (s : Ste) (f : Nat), (A.app B).run s f = if (A.run s f).2.1 ≠ 0 then A.run s f else B.run (A.run s f).1 (A.run s f).2.2
  | .nil, B, s, f => by simp [Cms.app, Cms.run]
  | .cons k a b t i body els r, B, s, f => by
    simp only [Cms.app, Cms.run]
    by_cases h : (cmdF k a b t body.run els.run s f).2.1 ≠ 0
    · simp only [if_pos h]
    · simp only [if_neg h]
      exact run_app r B _ _
theorem Cms.take_drop : ∀ (n : Nat) (L : Cms), (L.take n).app (L.drop n) = L
  | 0, L => rfl
  | n + 1, .nil => rfl
  | n + 1, .cons k a b t i body els r => by simp only [Cms.take, Cms.drop, Cms.app, Cms.take_drop n r]
theorem shape_app : ∀ (A B : Cms) (d : Nat), (A.app B).shape d = (A.shape d && B.shape d)
  | .nil, B, d => by simp [Cms.app, Cms.shape]
  | .cons k a b t i body els r, B, d => by simp only [Cms.app, Cms.shape, shape_app r B d, Bool.and_assoc]
theorem sz_app : ∀ (A B : Cms), (A.app B).sz = A.sz + B.sz
  | .nil, B => by simp [Cms.app, Cms.sz]
  | .cons k a b t i body els r, B => by simp only [Cms.app, Cms.sz, sz_app r B]; omega
theorem prog_app {A B : Cms} (h : (A.app B).prog = true) : A.prog = true ∧ B.prog = true := by
  unfold Cms.prog at *
  rw [shape_app, sz_app] at h
  simp only [Bool.and_eq_true, decide_eq_true_eq] at h ⊢
  exact ⟨⟨h.1.1, by omega⟩, h.1.2, by omega⟩
/-- other amounts of fuel, for a run that ended -/
def Shift (R : Ste → Nat → Ste × Int × Nat) : Prop := ∀ s f f', s.valid = true → (R s f).2.1 ≠ 3 → f ≤ f' + (R s f).2.2 → R s f' = ((R s f).1, (R s f).2.1, f' + (R s f).2.2 - f)
theorem loopF_shift {R : Ste → Nat → Ste × Int × Nat} (hR : RunOk R) (hS : Shift R) (t : Fct) : ∀ (n m : Nat) (s : Ste) (f f' : Nat), s.valid = true → f < n → f' < m → (loopF R t n s f).2.1 ≠ 3 → f ≤ f' + (loopF R t n s f).2.2 →
    loopF R t m s f' = ((loopF R t n s f).1, (loopF R t n s f).2.1, f' + (loopF R t n s f).2.2 - f)
  | 0, _, _, _, _, _, h, _, _, _ => by omega
  | _ + 1, 0, _, _, _, _, _, h, _, _ => by omega
  | n + 1, m + 1, s, f, f', hs, h1, h2, h3, h4 => by
    have hr := hR s f hs
    have hf := hS s f f' hs
    simp only [loopF] at h3 h4 ⊢
    by_cases ht : t.holds s.values = true
    · simp only [if_pos ht] at h3 h4 ⊢
      by_cases hc : (R s f).2.1 ≠ 0
      · simp only [if_pos hc] at h3 h4 ⊢
        have e := hf h3 h4
        rw [e]
        simp only [if_pos hc]
      · simp only [if_neg hc] at h3 h4 ⊢
        have hc0 : (R s f).2.1 = 0 := by simpa using hc
        by_cases h0 : (R s f).2.2 < 1
        · simp only [if_pos h0] at h3; exact absurd rfl h3
        · simp only [if_neg h0] at h3 h4 ⊢
          have hlo := (loopF_ok hR t n (R s f).1 ((R s f).2.2 - 1) hr.1).2.1
          have e := hf (by rw [hc0]; decide) (by omega)
          rw [e]
          simp only [if_neg hc]
          rw [if_neg (by omega)]
          have := loopF_shift hR hS t n m (R s f).1 ((R s f).2.2 - 1) (f' + (R s f).2.2 - f - 1) hr.1 (by omega) (by omega) h3 (by omega)
          rw [this]
          congr 2
          omega
    · simp only [if_neg ht] at h3 h4 ⊢
      congr 2
      omega
theorem cmdR_shift {RB RE : Ste → Nat → Ste × Int × Nat} (hB : RunOk RB) (hSB : Shift RB) (hSE : Shift RE) (k a b : Int) (t : Fct) : Shift (cmdR k a b t RB RE) := fun s f f' hs h1 h2 => by
  unfold cmdR at *
  by_cases h6 : k = 6
  · simp only [if_pos h6] at h1 h2 ⊢
    by_cases ht : t.holds s.values = true
    · simp only [if_pos ht] at h1 h2 ⊢
      exact hSB s f f' hs h1 h2
    · simp only [if_neg ht] at h1 h2 ⊢
      exact hSE s f f' hs h1 h2
  · simp only [if_neg h6] at h1 h2 ⊢
    by_cases h7 : k = 7
    · simp only [if_pos h7] at h1 h2 ⊢
      exact loopF_shift hB hSB t (f + 1) (f' + 1) s f f' hs (by omega) (by omega) h1 h2
    · simp only [if_neg h7] at h1 h2 ⊢
      congr 2
      omega
theorem cmdF_shift {RB RE : Ste → Nat → Ste × Int × Nat} (hB : RunOk RB) (hE : RunOk RE) (hSB : Shift RB) (hSE : Shift RE) (k a b : Int) (t : Fct) : Shift (cmdF k a b t RB RE) := fun s f f' hs h1 h2 => by
  unfold cmdF at *
  by_cases h0 : f < 1
  · simp only [if_pos h0] at h1; exact absurd rfl h1
  · simp only [if_neg h0] at h1 h2 ⊢
    have hr := (cmdR_ok hB hE k a b t s (f - 1) hs).2.1
    rw [if_neg (by omega), cmdR_shift hB hSB hSE k a b t s (f - 1) (f' - 1) hs h1 (by omega)]
    congr 2
    omega
theorem run_shift : ∀ (L : Cms), Shift L.run
  | .nil => fun s f f' hs h1 h2 => by
    simp only [Cms.run] at *
    congr 2
    omega
  | .cons k a b t i body els r => fun s f f' hs h1 h2 => by
    have hr := cmdF_ok (Cms.run_ok body) (Cms.run_ok els) k a b t s f hs
    have hS := cmdF_shift (Cms.run_ok body) (Cms.run_ok els) (run_shift body) (run_shift els) k a b t s f f' hs
    simp only [Cms.run] at h1 h2 ⊢
    by_cases hc : (cmdF k a b t body.run els.run s f).2.1 ≠ 0
    · simp only [if_pos hc] at h1 h2 ⊢
      rw [hS h1 h2]
      simp only [if_pos hc]
    · simp only [if_neg hc] at h1 h2 ⊢
      have hc0 : (cmdF k a b t body.run els.run s f).2.1 = 0 := by simpa using hc
      have hlo := (Cms.run_ok r _ (cmdF k a b t body.run els.run s f).2.2 hr.1).2.1
      rw [hS (by rw [hc0]; decide) (by omega)]
      simp only [if_neg hc]
      rw [run_shift r _ (cmdF k a b t body.run els.run s f).2.2 _ hr.1 h1 (by omega)]
      congr 2
      omega
theorem runsP_iff {s : Ste} {L : Cms} {f : Int} : runsP s L f = true ↔ s.valid = true ∧ L.prog = true ∧ 0 ≤ f ∧ f ≤ 200 := by
  unfold runsP; simp only [Bool.and_eq_true, decide_eq_true_eq]
theorem code_run {s : Ste} {L : Cms} {f : Int} (h : runsP s L f = true) : codeF s L f = (L.run s f.toNat).2.1 := by unfold codeF; rw [if_pos h]
theorem code_bad {s : Ste} {L : Cms} {f : Int} (h : runsP s L f = false) : codeF s L f = 4 := by unfold codeF; rw [h]; rfl
theorem runs_of_code {s : Ste} {L : Cms} {f : Int} (h : codeF s L f ≠ 4) : runsP s L f = true := by
  cases hr : runsP s L f
  · exact absurd (code_bad hr) h
  · rfl
theorem code_le {s : Ste} {L : Cms} {f : Int} (h : runsP s L f = true) : 0 ≤ codeF s L f ∧ codeF s L f ≤ 3 := by
  rw [code_run h]
  exact (Cms.run_ok L s f.toNat (runsP_iff.1 h).1).2.2
theorem after_run {s : Ste} {L : Cms} {f : Int} (h : codeF s L f = 0) : afterF s L f = (L.run s f.toNat).1 := by unfold afterF; rw [if_pos h]
theorem after_no {s : Ste} {L : Cms} {f : Int} (h : codeF s L f ≠ 0) : afterF s L f = ⟨[], []⟩ := by unfold afterF; rw [if_neg h]
theorem steps_run {s : Ste} {L : Cms} {f : Int} (h : runsP s L f = true) : stepsF s L f = f - (L.run s f.toNat).2.2 := by unfold stepsF; rw [if_pos h]
theorem steps_le {s : Ste} {L : Cms} {f : Int} (h : runsP s L f = true) : 0 ≤ stepsF s L f ∧ stepsF s L f ≤ f := by
  have h1 := (Cms.run_ok L s f.toNat (runsP_iff.1 h).1).2.1
  have h2 := runsP_iff.1 h
  rw [steps_run h]
  omega
/-- more fuel, or just as much as was used -/
theorem fuel_law {s : Ste} {L : Cms} {f f' : Int} (h : runsP s L f = true) (h3 : codeF s L f ≠ 3) (h1 : stepsF s L f ≤ f') (h2 : f' ≤ 200) : codeF s L f' = codeF s L f ∧ afterF s L f' = afterF s L f := by
  obtain ⟨p1, p2, p3, p4⟩ := runsP_iff.1 h
  have hs := steps_le h
  have h' : runsP s L f' = true := runsP_iff.2 ⟨p1, p2, by omega, h2⟩
  have hr := (Cms.run_ok L s f.toNat p1).2.1
  have e : L.run s f'.toNat = ((L.run s f.toNat).1, (L.run s f.toNat).2.1, f'.toNat + (L.run s f.toNat).2.2 - f.toNat) := run_shift L s f.toNat f'.toNat p1 (by rw [← code_run h]; exact h3) (by rw [steps_run h] at h1; omega)
  have ec : codeF s L f' = codeF s L f := by rw [code_run h, code_run h', e]
  refine ⟨ec, ?_⟩
  by_cases h0 : codeF s L f = 0
  · rw [after_run h0, after_run (ec.trans h0), e]
  · rw [after_no h0, after_no (by rw [ec]; exact h0)]
/-- first commands, and the others -/
theorem seq_law1 {s : Ste} {A B : Cms} {f : Int} (h : runsP s (A.app B) f = true) (h0 : codeF s A f ≠ 0) : codeF s (A.app B) f = codeF s A f := by
  obtain ⟨p1, p2, p3, p4⟩ := runsP_iff.1 h
  have hA : runsP s A f = true := runsP_iff.2 ⟨p1, (prog_app p2).1, p3, p4⟩
  rw [code_run hA] at h0
  rw [code_run h, code_run hA, run_app, if_pos h0]
theorem seq_law2 {s : Ste} {A B : Cms} {f : Int} (h : runsP s (A.app B) f = true) (h0 : codeF s A f = 0) : codeF (afterF s A f) B (f - stepsF s A f) = codeF s (A.app B) f ∧ afterF (afterF s A f) B (f - stepsF s A f) = afterF s (A.app B) f := by
  obtain ⟨p1, p2, p3, p4⟩ := runsP_iff.1 h
  have hA : runsP s A f = true := runsP_iff.2 ⟨p1, (prog_app p2).1, p3, p4⟩
  have hk := Cms.run_ok A s f.toNat p1
  rw [after_run h0, steps_run hA, show f - (f - ((A.run s f.toNat).2.2 : Int)) = ((A.run s f.toNat).2.2 : Int) by omega]
  have hB : runsP (A.run s f.toNat).1 B ((A.run s f.toNat).2.2 : Int) = true := runsP_iff.2 ⟨hk.1, (prog_app p2).2, by omega, by omega⟩
  have e : (A.app B).run s f.toNat = B.run (A.run s f.toNat).1 (A.run s f.toNat).2.2 := by
    rw [code_run hA] at h0
    rw [run_app, if_neg (by simpa using h0)]
  have ec : codeF (A.run s f.toNat).1 B ((A.run s f.toNat).2.2 : Int) = codeF s (A.app B) f := by rw [code_run h, code_run hB, e, Int.toNat_natCast]
  refine ⟨ec, ?_⟩
  by_cases hz : codeF s (A.app B) f = 0
  · rw [after_run hz, after_run (ec.trans hz), e, Int.toNat_natCast]
  · rw [after_no hz, after_no (by rw [ec]; exact hz)]
/-- a loop is a choice -/
theorem loop_run (a b a' b' : Int) (t : Fct) (i i' : Asn) (body els els' : Cms) (s : Ste) (f : Nat) (hs : s.valid = true) :
    ((Cms.cons 6 a b t i (body.app (.cons 7 a' b' t i' body els' .nil)) .nil .nil).run s f).2.1 = ((Cms.cons 7 a' b' t i' body els' .nil).run s f).2.1 ∧
      (((Cms.cons 7 a' b' t i' body els' .nil).run s f).2.1 = 0 → ((Cms.cons 6 a b t i (body.app (.cons 7 a' b' t i' body els' .nil)) .nil .nil).run s f).1 = ((Cms.cons 7 a' b' t i' body els' .nil).run s f).1) := by
  have one : ∀ (k a b : Int) (t : Fct) (i : Asn) (body els : Cms) (s : Ste) (f : Nat), (Cms.cons k a b t i body els .nil).run s f = cmdF k a b t body.run els.run s f := by
    intro k a b t i body els s f
    simp only [Cms.run]
    by_cases h : (cmdF k a b t body.run els.run s f).2.1 ≠ 0
    · rw [if_pos h]
    · rw [if_neg h]
      have : (cmdF k a b t body.run els.run s f).2.1 = 0 := by simpa using h
      rw [← this]
  rw [one, one]
  unfold cmdF
  by_cases h0 : f < 1
  · rw [if_pos h0, if_pos h0]; exact ⟨rfl, fun _ => rfl⟩
  · rw [if_neg h0, if_neg h0]
    have e6 : ∀ (RB RE : Ste → Nat → Ste × Int × Nat) (g : Nat), cmdR 6 a b t RB RE s g = if t.holds s.values then RB s g else RE s g := fun _ _ _ => rfl
    have e7 : ∀ (RB RE : Ste → Nat → Ste × Int × Nat) (g : Nat), cmdR 7 a' b' t RB RE s g = loopF RB t (g + 1) s g := fun _ _ _ => rfl
    rw [e6, e7]
    have hl : loopF body.run t (f - 1 + 1) s (f - 1) = if t.holds s.values then (if (body.run s (f - 1)).2.1 ≠ 0 then body.run s (f - 1) else if (body.run s (f - 1)).2.2 < 1 then ((body.run s (f - 1)).1, 3, (body.run s (f - 1)).2.2) else loopF body.run t (f - 1) (body.run s (f - 1)).1 ((body.run s (f - 1)).2.2 - 1)) else (s, 0, f - 1) := rfl
    rw [hl]
    by_cases ht : t.holds s.values = true
    · rw [if_pos ht, if_pos ht, run_app, one]
      by_cases hc : (body.run s (f - 1)).2.1 ≠ 0
      · rw [if_pos hc, if_pos hc]; exact ⟨rfl, fun _ => rfl⟩
      · rw [if_neg hc, if_neg hc]
        have hk := Cms.run_ok body s (f - 1) hs
        unfold cmdF
        by_cases h1 : (body.run s (f - 1)).2.2 < 1
        · rw [if_pos h1, if_pos h1]; exact ⟨rfl, fun _ => rfl⟩
        · rw [if_neg h1, if_neg h1]
          have e7' : ∀ (RB RE : Ste → Nat → Ste × Int × Nat) (s : Ste) (g : Nat), cmdR 7 a' b' t RB RE s g = loopF RB t (g + 1) s g := fun _ _ _ _ => rfl
          rw [e7', loopF_more (Cms.run_ok body) t ((body.run s (f - 1)).2.2 - 1 + 1) (f - 1) _ _ hk.1 (by omega) (by omega)]
          exact ⟨rfl, fun _ => rfl⟩
    · rw [if_neg ht, if_neg ht]
      exact ⟨rfl, fun _ => rfl⟩
theorem loop_law (P : Cms) (a b a' b' : Int) (t : Fct) (i i' : Asn) (body els' : Cms) {s : Ste} {f : Int} (h : runsP s (P.app (.cons 7 a' b' t i' body els' .nil)) f = true)
    (h4 : codeF s (P.app (.cons 6 a b t i (body.app (.cons 7 a' b' t i' body els' .nil)) .nil .nil)) f ≠ 4) :
    codeF s (P.app (.cons 6 a b t i (body.app (.cons 7 a' b' t i' body els' .nil)) .nil .nil)) f = codeF s (P.app (.cons 7 a' b' t i' body els' .nil)) f ∧
      afterF s (P.app (.cons 6 a b t i (body.app (.cons 7 a' b' t i' body els' .nil)) .nil .nil)) f = afterF s (P.app (.cons 7 a' b' t i' body els' .nil)) f := by
  have h2 := runs_of_code h4
  have p1 := (runsP_iff.1 h).1
  have key : (((P.app (.cons 6 a b t i (body.app (.cons 7 a' b' t i' body els' .nil)) .nil .nil))).run s f.toNat).2.1 = ((P.app (.cons 7 a' b' t i' body els' .nil)).run s f.toNat).2.1 ∧
      (((P.app (.cons 7 a' b' t i' body els' .nil)).run s f.toNat).2.1 = 0 → (((P.app (.cons 6 a b t i (body.app (.cons 7 a' b' t i' body els' .nil)) .nil .nil))).run s f.toNat).1 = ((P.app (.cons 7 a' b' t i' body els' .nil)).run s f.toNat).1) := by
    rw [run_app, run_app]
    by_cases hc : (P.run s f.toNat).2.1 ≠ 0
    · rw [if_pos hc, if_pos hc]; exact ⟨rfl, fun _ => rfl⟩
    · rw [if_neg hc, if_neg hc]
      exact loop_run a b a' b' t i i' body .nil els' _ _ (Cms.run_ok P s f.toNat p1).1
  have ec : codeF s (P.app (.cons 6 a b t i (body.app (.cons 7 a' b' t i' body els' .nil)) .nil .nil)) f = codeF s (P.app (.cons 7 a' b' t i' body els' .nil)) f := by rw [code_run h, code_run h2, key.1]
  refine ⟨ec, ?_⟩
  by_cases hz : codeF s (P.app (.cons 7 a' b' t i' body els' .nil)) f = 0
  · rw [after_run hz, after_run (ec.trans hz), key.2 (by rw [← code_run h]; exact hz)]
  · rw [after_no hz, after_no (by rw [ec]; exact hz)]
/-- what a program may change -/
theorem chF_bit (S : Nat) (k a b : Int) (t : Fct) (i : Asn) (n : Nat) : (chF S k a b t i).testBit n = (S.testBit n || (chF 0 k a b t i).testBit n) := by
  unfold chF
  split
  · rw [tins_bit, tins_bit]; simp
  · simp
theorem fold_ch_bit : ∀ (L : Cms) (S n : Nat), (L.fold chF S).testBit n = (S.testBit n || (L.fold chF 0).testBit n)
  | .nil, S, n => by simp [Cms.fold]
  | .cons k a b t i body els r, S, n => by
    simp only [Cms.fold]
    rw [fold_ch_bit r, fold_ch_bit els, fold_ch_bit body, fold_ch_bit r (els.fold chF _), fold_ch_bit els (body.fold chF (chF 0 k a b t i)), fold_ch_bit body (chF 0 k a b t i), chF_bit S]
    simp [Bool.or_assoc]
def KeepsV (n : Nat) (R : Ste → Nat → Ste × Int × Nat) : Prop := ∀ s f, (R s f).1.values[n]? = s.values[n]?
theorem loopF_keeps {n : Nat} {R : Ste → Nat → Ste × Int × Nat} (hR : KeepsV n R) (t : Fct) : ∀ m, KeepsV n (loopF R t m)
  | 0 => fun s f => rfl
  | m + 1 => fun s f => by
    simp only [loopF]
    split
    · split
      · exact hR s f
      · split
        · exact hR s f
        · rw [loopF_keeps hR t m]; exact hR s f
    · rfl
theorem basicF_keeps {n : Nat} {s : Ste} {k a b : Int} (h : k = 1 ∨ k = 2 ∨ k = 4 → (a - 1).toNat ≠ n) : (basicF s k a b).1.values[n]? = s.values[n]? := by
  unfold basicF
  split
  · rename_i e; simp only; rw [List.getElem?_set_ne (h (Or.inl e))]
  split
  · rename_i e; split
    · simp only; rw [List.getElem?_set_ne (h (Or.inr (Or.inl e)))]
    · rfl
  split
  · split <;> rfl
  split
  · rename_i e; split
    · simp only; rw [List.getElem?_set_ne (h (Or.inr (Or.inr e)))]
    · rfl
  · split <;> rfl
theorem fieldsB_a {k a b : Int} (h : fieldsB k a b = true) : 1 ≤ a ∧ a ≤ 4 ∨ ¬ (k = 1 ∨ k = 2 ∨ k = 4) := by
  unfold fieldsB at h
  split at h
  · rw [Bool.and_eq_true] at h; exact Or.inl (by simpa [isProgB] using h.1)
  split at h
  · rename_i h1 h2; exact Or.inr (by rintro (e | e | e) <;> omega)
  split at h
  · rw [Bool.and_eq_true] at h; exact Or.inl (by simpa [isProgB] using h.1)
  · rename_i h1 h2 h3; exact Or.inr (by rintro (e | e | e) <;> omega)
theorem run_keeps {n : Nat} : ∀ (L : Cms) (d : Nat), L.shape d = true → (L.fold chF 0).testBit (n + 1) = false → KeepsV n L.run
  | .nil, _, _, _ => fun s f => rfl
  | .cons k a b t i body els r, d, h, hn => fun s f => by
    simp only [Cms.shape, Bool.and_eq_true] at h
    simp only [Cms.fold] at hn
    rw [fold_ch_bit r, fold_ch_bit els, fold_ch_bit body] at hn
    simp only [Bool.or_eq_false_iff] at hn
    have hB := run_keeps body (d - 1) h.2.2.1 hn.1.1.2
    have hE := run_keeps els (d - 1) h.2.2.2.1 hn.1.2
    have hr := run_keeps r d h.2.2.2.2 hn.2
    have hc : (cmdF k a b t body.run els.run s f).1.values[n]? = s.values[n]? := by
      unfold cmdF
      split
      · rfl
      · unfold cmdR
        split
        · split
          · exact hB _ _
          · exact hE _ _
        split
        · exact loopF_keeps hB t _ _ _
        · rename_i h6 h7
          refine basicF_keeps fun hk => ?_
          have hv := h.2.1
          rw [fvalB_basic h6 h7, Bool.and_eq_true] at hv
          rcases fieldsB_a hv.2 with ha | ha
          · intro e
            have hb := hn.1.1.1
            unfold chF at hb
            rw [if_pos hk, tins_bit] at hb
            simp only [Bool.or_eq_false_iff, decide_eq_false_iff_not] at hb
            exact hb.2 ⟨isTermB_iff.2 (by omega), by omega⟩
          · exact absurd hk ha
    simp only [Cms.run]
    split
    · exact hc
    · rw [hr]; exact hc
theorem changed_law {s : Ste} {L : Cms} {f : Int} (h0 : codeF s L f = 0) {n : Nat} (hn : n < 8) (hd : ((n + 1 : Nat) : Int) ∉ changedL L) : (afterF s L f).values[n]? = s.values[n]? := by
  have h := runs_of_code (s := s) (L := L) (f := f) (by rw [h0]; decide)
  have hp := (runsP_iff.1 h).2.1
  rw [after_run h0]
  unfold changedL at hd
  rw [if_pos hp, tlistL_mem] at hd
  have hb : (L.fold chF 0).testBit (n + 1) = false := by
    cases e : (L.fold chF 0).testBit (n + 1)
    · rfl
    · exact absurd ⟨by omega, e⟩ hd
  unfold Cms.prog at hp
  rw [Bool.and_eq_true] at hp
  exact run_keeps L 4 hp.1 hb s _
theorem run_after_valid {s : Ste} {L : Cms} {f : Int} (h0 : codeF s L f = 0) : (afterF s L f).valid = true := by
  have h := runs_of_code (s := s) (L := L) (f := f) (by rw [h0]; decide)
  rw [after_run h0]
  exact (Cms.run_ok L s f.toNat (runsP_iff.1 h).1).1
end Go.Proofs.YteogcababfenfaaGreat

/- Contracts: framed contracts: copies, disjoint sets. -/
namespace Go.Proofs.YteogcababfenfaaGreat
open Go Go.RowKit Go.Proofs
attribute [local go_sem ↓] Go.wp_at_zero Go.wp_at_succ

--@ impl.copyInts
set_option maxRecDepth 100000 in
set_option maxHeartbeats 800000 in
theorem c_impl_copyInts {lo hi : Nat} (A : Option Addr) (c : Nat) (xs : List Int) (w : World) (h : IntsV w lo hi A xs) : Calls Tryz.prog 74 #[.slice A xs.length c] w fun e w' => ∃ r, e = .returned r ∧ IntsO w' w.heap.size r xs ∧ Below w.heap.size w w' := by
  have hl := h.le
  have hmk := mkI xs.length h.lim
  have hb0 : Below w.heap.size w (w.alloc (.cells (madeCells #[.int .i64 0] (xs.length)) tI)) := bel
  have hV := Lib.hid (h.below hb0)
  go_enter Tryz.func74, Tryz.ntmps74
  go_wp2_with (with_reducible refine wpList_copy_splice rfl _ _ 23 23 rfl tI Tryz.underlying23 (by kernel_rfl) (some ⟨w.heap.size, 0, none⟩) A xs.length xs.length xs.length c rfl rfl w.heap.size 0 (madeCells #[.int .i64 0] (xs.length)).toList tI ?c1 (encI xs) ?c2 ?c3 ?c4 (encI_one _) w.heap.size w hb0 (Nat.le_refl _) ?_)
  case c1 => simpa using heap_alloc_new w (.cells (madeCells #[.int .i64 0] xs.length) tI)
  case c2 => simp
  case c3 =>
    intro h0
    obtain ⟨b, o, rfl, _, _, hc⟩ := hV.out.raw.2 (by simpa using h0)
    exact ⟨_, rfl, fun j u hu => by
      rw [show (⟨b, o, none⟩ : Addr).add j = ⟨b, o + j, none⟩ from by unfold Addr.add; split <;> simp_all]
      exact hc j _ (by rw [List.getElem?_map, hu]; rfl)⟩
  case c4 => simp [size_madeCells]
  intro w' hH hB
  clear hmk
  go_wp2
  go_ret
  have hs := hH.out
  rw [show splice (madeCells #[Value.int .i64 0] (xs.length)).toList 0 (encI xs) = encI xs from by simp [splice, size_madeCells]] at hs
  exact ⟨_, rfl, ⟨own_of_blk (cap := xs.length) hs (Nat.le_refl _) (by simp) (by intro j hj; simp) (Nat.le_refl _) (by unfold maxLen; omega) (by simp), h.lim⟩, hB⟩

--@ spec.l11Free
def disjB (T C : Nat) : Bool := (List.range 9).all fun n => !(T.testBit n && C.testBit n)
theorem disjB_iff {T C : Nat} (hT : T < 512) : (C &&& T = 0) ↔ disjB T C = true := by
  unfold disjB
  rw [List.all_eq_true]
  constructor
  · intro h n _
    have := congrArg (fun s => Nat.testBit s n) h
    simp only [Nat.testBit_and, Nat.zero_testBit] at this
    rw [Bool.and_comm, this]; rfl
  · intro h
    apply Nat.eq_of_testBit_eq
    intro n
    rw [Nat.testBit_and, Nat.zero_testBit]
    by_cases hn : n < 9
    · have hq := h n (List.mem_range.mpr hn)
      cases h1 : T.testBit n <;> cases h2 : C.testBit n <;> simp_all
    · have : T.testBit n = false := Nat.testBit_lt_two_pow (Nat.lt_of_lt_of_le hT (Nat.pow_le_pow_right (n := 2) (by decide) (show 9 ≤ n by omega)))
      rw [this, Bool.and_false]

end Go.Proofs.YteogcababfenfaaGreat

/- Contracts: impl's copies of states. -/
namespace Go.Proofs.YteogcababfenfaaGreat
open Go Go.RowKit Go.Proofs

--@ impl.copyState
set_option maxRecDepth 100000 in
set_option maxHeartbeats 1600000 in
theorem c_impl_copyState {lo hi : Nat} (v : Value) (s : Ste) (w : World) (h : StateV w lo hi v s) : Calls Tryz.prog 34 #[v] w fun e w' => ∃ r, e = .returned r ∧ StateO w' w.heap.size r s ∧ Below w.heap.size w w' := by
  obtain ⟨A1, c1, A2, c2, rfl, h1, h2⟩ := h
  have H1 := Lib.hid h1
  have H2 := Lib.hid h2
  clear h1 h2
  go_enter Tryz.func34, Tryz.ntmps34
  have k0 : Blk ((w.alloc (.cells #[.slice A1 s.values.length c1, .slice A2 s.heap.length c2] tSt)).alloc (.cells #[.slice none 0 0, .slice none 0 0] tSt)) w.heap.size tSt #[.slice A1 s.values.length c1, .slice A2 s.heap.length c2] := blks
  have kr : Blk ((w.alloc (.cells #[.slice A1 s.values.length c1, .slice A2 s.heap.length c2] tSt)).alloc (.cells #[.slice none 0 0, .slice none 0 0] tSt)) (w.heap.size + 1) tSt #[.slice none 0 0, .slice none 0 0] := blks
  go_wp2_with fail
  refine wp_region_noPanic ?_
  refine wp_region_held_drew (S := (fun w' => ∀ i, w'.cell? ⟨w.heap.size, i, none⟩ = #[.slice A1 s.values.length c1, .slice A2 s.heap.length c2][i]?)) (by kernel_rfl) (Blk.cell blks) (fun hHeld => ?_)
  refine wpAnyH_take (i := 0) (v := ?_) rfl (by kernel_rfl) (by kernel_rfl) (by kernel_rfl) (fun _ _ _ h => h) (Or.inl ⟨by rfl, fun w hSw => ?_⟩) hHeld ?_
  rotate_left
  · ((try dsimp only at hSw); go_split_ands; go_simp; (try with_reducible rfl))
  try simp only [Act.put, List.getElem_toArray, List.getElem_cons_zero, List.getElem_cons_succ, List.setIfInBounds_toArray, List.set_cons_zero, List.set_cons_succ]
  refine wpAnyH_take (i := 1) (v := ?_) rfl (by kernel_rfl) (by kernel_rfl) (by kernel_rfl) (fun _ _ _ h => h) (Or.inl ⟨by rfl, fun w hSw => ?_⟩) hHeld ?_
  rotate_left
  · ((try dsimp only at hSw); go_split_ands; go_simp; (try with_reducible rfl))
  try simp only [Act.put, List.getElem_toArray, List.getElem_cons_zero, List.getElem_cons_succ, List.setIfInBounds_toArray, List.set_cons_zero, List.set_cons_succ]
  refine wpAnyH_take (i := 3) (v := ?_) rfl (by kernel_rfl) (by kernel_rfl) (by kernel_rfl) (fun _ _ _ h => h) (Or.inl ⟨by rfl, fun w hSw => ?_⟩) hHeld ?_
  rotate_left
  · ((try dsimp only at hSw); go_split_ands; go_simp; (try with_reducible rfl))
  try simp only [Act.put, List.getElem_toArray, List.getElem_cons_zero, List.getElem_cons_succ, List.setIfInBounds_toArray, List.set_cons_zero, List.set_cons_succ]
  refine wpAnyH_take (i := 4) (v := ?_) rfl (by kernel_rfl) (by kernel_rfl) (by kernel_rfl) (fun _ _ _ h => h) (Or.inl ⟨by rfl, fun w hSw => ?_⟩) hHeld ?_
  rotate_left
  · ((try dsimp only at hSw); go_split_ands; go_simp; (try with_reducible rfl))
  try simp only [Act.put, List.getElem_toArray, List.getElem_cons_zero, List.getElem_cons_succ, List.setIfInBounds_toArray, List.set_cons_zero, List.set_cons_succ]
  refine wpAnyH_ready (rs := [2]) (by kernel_rfl) (by simp) ?_
  refine AllReadyH.cons rfl (fun K hK => ?_) AllReadyH.nil
  try simp only [List.getElem_toArray, List.getElem_cons_zero, List.getElem_cons_succ]
  (go_simp; refine (c_impl_copyInts A1 c1 s.values _ (H1.out.below bel)).mono ?_; rintro e w1 ⟨r1, rfl, o1, hB1⟩; have hB := bgo (w := w) bel hB1; replace k0 := Blk.next (g := w.heap.size) blks hB1; replace kr := Blk.next (g := w.heap.size + 1) blks hB1)
  refine hK.out _ _ (k0.cell) (fun hHeldN => ?_)
  clear hHeld hK K
  have hHeld := hHeldN
  clear hHeldN
  try simp only [Act.put, List.getElem_toArray, List.getElem_cons_zero, List.getElem_cons_succ, List.setIfInBounds_toArray, List.set_cons_zero, List.set_cons_succ]
  refine wpAnyH_ready (rs := [5]) (by kernel_rfl) (by simp) ?_
  refine AllReadyH.cons rfl (fun K hK => ?_) AllReadyH.nil
  try simp only [List.getElem_toArray, List.getElem_cons_zero, List.getElem_cons_succ]
  (go_simp; refine (c_impl_copyInts A2 c2 s.heap _ (H2.out.below hB)).mono ?_; rintro e w2 ⟨r2, rfl, o2, hB2⟩; have hBB := bgo hB hB2; have hz1 := hB.size; replace k0 := k0.next hB2; replace kr := kr.next hB2)
  refine hK.out _ _ (k0.cell) (fun hHeldN => ?_)
  clear hHeld hK K
  have hHeld := hHeldN
  clear hHeldN
  try simp only [Act.put, List.getElem_toArray, List.getElem_cons_zero, List.getElem_cons_succ, List.setIfInBounds_toArray, List.set_cons_zero, List.set_cons_succ]
  have HD := Lib.hid (show ∀ g, r1.ownBlock = some g → r2.ownBlock ≠ some g from fun g hg e => by
    have := (o1.1.lt g hg).2
    have := (o2.1.lt g e).1
    omega)
  have HO1 := Lib.hid ((o1.below hB2).lower (base' := w.heap.size) (by (try simp) <;> omega))
  have HO2 := Lib.hid (o2.lower (base' := w.heap.size) hz1)
  obtain ⟨F, e1, rfl, -⟩ := o1.reads
  obtain ⟨G, e2, rfl, -⟩ := o2.reads
  clear o1 o2 hB1 hB2
  (replace qkr := kr.cell; replace rkr := kr.frozen; replace lkr := kr.lt)
  refine wpAnyH_take (i := 6) (v := ?_) rfl (by kernel_rfl) (by kernel_rfl) (by kernel_rfl) (fun _ _ _ h => h) (Or.inl ⟨by rfl, fun w hSw => ?_⟩) hHeld ?_
  rotate_left
  · ((try dsimp only at hSw); go_split_ands; go_simp; (try with_reducible rfl))
  try simp only [Act.put, List.getElem_toArray, List.getElem_cons_zero, List.getElem_cons_succ, List.setIfInBounds_toArray, List.set_cons_zero, List.set_cons_succ]
  refine wpAnyH_ready (rs := [7]) (by kernel_rfl) (by simp) ?_
  refine AllReadyH.cons rfl (fun K hK => ?_) AllReadyH.nil
  try simp only [List.getElem_toArray, List.getElem_cons_zero, List.getElem_cons_succ]
  go_simp
  refine hK.out _ _ (Blk.cell blks) (fun hHeldN => ?_)
  clear hHeld hK K
  have hHeld := hHeldN
  clear hHeldN
  try simp only [Act.put, List.getElem_toArray, List.getElem_cons_zero, List.getElem_cons_succ, List.setIfInBounds_toArray, List.set_cons_zero, List.set_cons_succ]
  refine wpAnyH_done (by kernel_rfl) ?_ _
  refine NoPanic.normal ?_
  go_wp2_with fail
  refine bodyPost_ret (v := .agg #[.slice F s.values.length e1, .slice G s.heap.length e2]) (by simp [results, Tryz.results34, go_sem, qkr]) rfl ⟨_, rfl, ⟨_, _, rfl, ?_, ?_, HD.out⟩, bel⟩
  · exact (HO1.out.setT kr (by decide) 0 _).setT (kr.set_ 0 _) (by decide) 1 _
  · exact (HO2.out.setT kr (by decide) 0 _).setT (kr.set_ 0 _) (by decide) 1 _

--@ impl.Holds
/-- a holds in the whole of s -/
def holdsF (s : Ste) (a : Asn) : Bool := (partOf s a).isSome && (((bitsOf ((partOf s a).getD []) : Nat) : Int) == (bitsOf (usedL s.heap 8) : Nat))
theorem partOf_len {s : Ste} {a : Asn} (h : (partOf s a).isSome = true) : s.heap.length = 8 := by
  unfold partOf at h
  split at h
  · rename_i hv
    simp only [Bool.and_eq_true] at hv
    exact (Ste.valid_len hv.1.1).2
  · cases h
set_option maxRecDepth 100000 in
set_option maxHeartbeats 1600000 in
theorem c_impl_Holds {lo hi lo' hi' : Nat} (v v' : Value) (s : Ste) (a : Asn) (w : World) (h : StateV w lo hi v s) (h' : AsnV w lo' hi' v' a) :
    Calls Tryz.prog 113 #[v, v'] w fun e w' => e = .returned (.bool (holdsF s a)) ∧ Below w.heap.size w w' := by
  have hV := Lib.hid h
  have hV' := Lib.hid h'
  obtain ⟨A1, c1, A2, c2, rfl, -, -⟩ := h
  obtain ⟨A3, c3, A4, c4, rfl, -, -⟩ := h'
  have HE : Hid (holdsF s a = ((partOf s a).isSome && (((bitsOf ((partOf s a).getD []) : Nat) : Int) == (bitsOf (usedL s.heap 8) : Nat)))) := rfl
  go_enter Tryz.func113, Tryz.ntmps113
  have k0 : Blk ((w.alloc (.cells #[.slice A1 s.values.length c1, .slice A2 s.heap.length c2] tSt)).alloc (.cells #[.slice A3 a.facts.length c3, .slice A4 a.atoms.length c4] 51)) w.heap.size tSt #[.slice A1 s.values.length c1, .slice A2 s.heap.length c2] := blks
  go_wp2_with fail
  refine (c_impl_partOf _ _ s a _ (hV.out.below bel) (hV'.out.below bel)).mono ?_
  rintro e w1 ⟨rfl, hB1⟩
  have hB := bgo (w := w) bel hB1
  replace k0 := k0.next hB1
  (replace qk0 := k0.cell; replace rk0 := k0.frozen; replace lk0 := k0.lt)
  clear hB1
  cases hp : (partOf s a).isSome
  · have E : Hid (holdsF s a = false) := by show _ = _; rw [HE.out, hp]; rfl
    clear hp
    go_wp2_with fail
    go_ret
    exact ⟨ret_bool E.out.symm, hB⟩
  · have h8 := Lib.hid (partOf_len hp)
    have E : Hid (holdsF s a = (((bitsOf ((partOf s a).getD []) : Nat) : Int) == (bitsOf (usedL s.heap 8) : Nat))) := by show _ = _; rw [HE.out, hp]; rfl
    clear hp HE
    go_wp2_with fail
    refine (c_impl_usedIn _ s _ (hV.out.below hB) h8.out).mono ?_
    rintro e w2 ⟨rfl, hB2⟩
    go_wp2_with fail
    go_ret
    exact ⟨ret_bool E.out.symm, bgo hB hB2⟩

--@ impl.UsedCells
theorem usedL_step (h : List Int) (k : Nat) : usedL h (k + 1) = usedL h k ++ if allocB h ((k + 1 : Nat) : Int) then [((k + 1 : Nat) : Int)] else [] := by
  unfold usedL
  rw [List.range'_1_concat, List.filter_append, List.map_append, Nat.add_comm 1 k]
  congr 1
  rw [List.filter_cons, List.filter_nil]
  cases allocB h ((k + 1 : Nat) : Int) <;> rfl
theorem usedL_le (h : List Int) (k : Nat) : (usedL h k).length ≤ k := by
  unfold usedL
  rw [List.length_map]
  exact Nat.le_trans (List.length_filter_le _ _) (by simp)
def usedF (s : Ste) : List Int := if s.valid then usedL s.heap 8 else []
set_option maxRecDepth 100000 in
set_option maxHeartbeats 1600000 in
theorem c_impl_UsedCells {lo hi : Nat} (v : Value) (s : Ste) (w : World) (h : StateV w lo hi v s) : Calls Tryz.prog 10 #[v] w fun e w' => ∃ r, e = .returned r ∧ IntsO w' w.heap.size r (usedF s) ∧ Below w.heap.size w w' := by
  have hV := Lib.hid h
  obtain ⟨A1, c1, A2, c2, rfl, -, -⟩ := h
  have HE : Hid (usedF s = if s.valid then usedL s.heap 8 else []) := rfl
  go_enter Tryz.func10, Tryz.ntmps10
  have k0 : Blk (w.alloc (.cells #[.slice A1 s.values.length c1, .slice A2 s.heap.length c2] tSt)) w.heap.size tSt #[.slice A1 s.values.length c1, .slice A2 s.heap.length c2] := blks
  go_wp2_with fail
  refine (c_impl_StateValid _ s _ (hV.out.below bel)).mono ?_
  rintro e w1 ⟨rfl, hB1⟩
  have hB := bgo (w := w) bel hB1
  replace k0 := k0.next hB1
  clear hB1
  cases hv : s.valid
  · have E : Hid (usedF s = []) := by show _ = _; rw [HE.out, hv]; rfl
    clear hv
    go_wp2_with fail
    go_ret
    exact ⟨_, rfl, by rw [E.out]; exact IntsO.nil _ _, hB⟩
  · have h8 := Lib.hid (Ste.valid_len hv).2
    have E : Hid (usedF s = usedL s.heap 8) := by show _ = _; rw [HE.out, hv]; rfl
    clear hv HE
    go_wp2_with fail
    go_loopw [3, 4] (fun u i wr => ∃ (k : Nat) (A : Option Addr) (c : Nat), k ≤ 8 ∧ i = .int .i64 ((k : Int) + 1) ∧ u = .slice A (usedL s.heap k).length c ∧ IntsO wr w.heap.size (.slice A (usedL s.heap k).length c) (usedL s.heap k) ∧ Blk wr w.heap.size tSt #[.slice A1 s.values.length c1, .slice A2 s.heap.length c2] ∧ Hid (Below w.heap.size w wr)) (fun _ i _ => 10 - (intOf i).toNat)
    case atStart => exact ⟨0, none, 0, by omega, rfl, rfl, IntsO.nil _ _, k0, hB⟩
    case round =>
      clear k0 hB
      obtain ⟨k, A, c, hk, rfl, rfl, hO, k0, HB⟩ := hrel
      have HO := Lib.hid hO
      have hsz := HB.out.size
      have HL := Lib.hid (usedL_le s.heap k)
      clear hO
      (replace qk0 := k0.cell; replace rk0 := k0.frozen; replace lk0 := k0.lt)
      by_cases hlt : k < 8
      · have hki : (k : Int) + 1 ≤ 8 := by omega
        go_wp2_with fail
        refine (c_impl_allocated _ s ((k : Int) + 1) _ (hV.out.below HB.out) h8.out).mono ?_
        rintro e w2 ⟨rfl, hB2⟩
        have hB3 : Hid (Below w.heap.size w w2) := bgo HB.out hB2
        have HO2 := Lib.hid (HO.out.below hB2)
        have hsz2 := hB3.out.size
        replace k0 := k0.next hB2
        have HS := Lib.hid (usedL_step s.heap k)
        clear hB2 qk0 rk0 lk0
        cases ha : allocB s.heap ((k : Int) + 1)
        · have E2 : Hid (usedL s.heap (k + 1) = usedL s.heap k) := by show _ = _; rw [HS.out, show ((k + 1 : Nat) : Int) = (k : Int) + 1 from by omega, ha]; simp
          clear ha
          go_wp2_with fail
          go_round
          case rel => exact ⟨k + 1, A, c, by omega, by go_num, by rw [E2.out], by rw [E2.out]; exact HO2.out, k0, hB3.out⟩
          case measure => simp [intOf]; omega
        · have E2 : Hid (usedL s.heap (k + 1) = usedL s.heap k ++ [(k : Int) + 1]) := by show _ = _; rw [HS.out, show ((k + 1 : Nat) : Int) = (k : Int) + 1 from by omega, ha]; simp
          clear ha
          go_wp2_with (at_builtin; refine appIL (ys := [(k : Int) + 1]) (base := w.heap.size) rfl _ _ rfl rfl (HO2.out.below bel) rfl (IntsV.lit (Blk.newE rfl) rfl (by simp)) (by have := HL.out; simp; omega) (by simp; omega) ?_; intro A4 d4 w4 o4 hg4 hB4; have ks4 := Blk.grownO (hg := hg4) (k0.alloc _) (HO2.out.below (bbox (Below.refl _ _) _)).1 (by decide); clear hg4)
          have hBB : Below w.heap.size w w4 := ((hB3.out.alloc hsz2 _).trans hB4)
          go_round
          case rel => exact ⟨k + 1, A4, d4, by omega, by go_num, by rw [E2.out]; simp, by rw [E2.out]; exact o4, ks4, hBB⟩
          case measure => simp [intOf]; omega
      · obtain rfl : k = 8 := by omega
        go_wp2_with fail
        go_ret
        exact ⟨_, rfl, by rw [E.out]; exact HO.out, HB.out⟩
end Go.Proofs.YteogcababfenfaaGreat
