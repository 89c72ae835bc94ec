/- Programs: validity, plain. -/
import Derived.Test.YtcgifoghggajgaaCmdH
import Derived.Test.YtcgifoghggajgaaMPar
import Derived.Test.YtcgifoghggajgaaMCmdF
set_option linter.unusedSimpArgs false
set_option linter.unusedVariables false
namespace Go.Proofs.Ytcgifoghggajgaa
open Go Go.RowKit Go.Proofs

/-- a command's own fields -/
def fvalB (k a b : Int) (t : Fct) (i : Asn) (body els : Cms) : Bool :=
  if k = 6 then decide (a = 0) && (decide (b = 0) && (t.valid && noAsn i))
  else if k = 7 then decide (a = 0) && (decide (b = 0) && (t.valid && (i.valid && decide (els.len = 0))))
  else plainB t i body els && fieldsB k a b
/-- well-formed down to a depth -/
def Cms.shape : Cms → Nat → Bool
  | .nil, _ => true
  | .cons k a b t i body els r, d => decide (0 < d) && (fvalB k a b t i body els && (body.shape (d - 1) && (els.shape (d - 1) && r.shape d)))
/-- the number of commands down to a depth -/
def Cms.count : Cms → Nat → Nat
  | .nil, _ => 0
  | .cons _ _ _ _ _ body els r, d => if 0 < d then body.count (d - 1) + els.count (d - 1) + 1 + r.count d else 0
theorem Cms.count_shape : ∀ {L : Cms} {d : Nat}, L.shape d = true → L.count d = L.sz
  | .nil, _, _ => rfl
  | .cons k a b t i body els r, d, h => by
    simp only [Cms.shape, Bool.and_eq_true, decide_eq_true_eq] at h
    obtain ⟨h0, -, h1, h2, h3⟩ := h
    simp only [Cms.count, Cms.sz, if_pos h0, Cms.count_shape h1, Cms.count_shape h2, Cms.count_shape h3]
    omega
theorem Cms.count_le : ∀ (L : Cms) (d : Nat), L.count d ≤ L.sz
  | .nil, _ => Nat.le_refl _
  | .cons k a b t i body els r, d => by
    simp only [Cms.count, Cms.sz]
    have h1 := Cms.count_le body (d - 1)
    have h2 := Cms.count_le els (d - 1)
    have h3 := Cms.count_le r d
    split <;> omega
theorem Cms.len_sz : ∀ (L : Cms), L.len ≤ L.sz
  | .nil => Nat.le_refl _
  | .cons k a b t i body els r => by simp only [Cms.len, Cms.sz]; have := Cms.len_sz r; omega
/-- size counts at most what the laws' size counts -/
theorem Cms.sz_cost : ∀ (L : Cms), L.sz ≤ L.len + L.cost
  | .nil => Nat.le_refl _
  | .cons k a b t i body els r => by
    simp only [Cms.sz, Cms.len, Cms.cost]
    have h1 := Cms.sz_cost body
    have h2 := Cms.sz_cost els
    have h3 := Cms.sz_cost r
    omega
/-- a valid program -/
def Cms.prog (L : Cms) : Bool := L.shape 4 && decide (L.sz ≤ 16)
theorem fvalB_basic {k a b : Int} {t : Fct} {i : Asn} {body els : Cms} (h6 : k ≠ 6) (h7 : k ≠ 7) : fvalB k a b t i body els = (plainB t i body els && fieldsB k a b) := by
  unfold fvalB; rw [if_neg h6, if_neg h7]
theorem fieldsB_basic {k a b : Int} (h : fieldsB k a b = true) : 1 ≤ k ∧ k ≤ 5 := by
  unfold fieldsB at h
  split at h
  · rename_i h1; rcases h1 with rfl | rfl <;> omega
  split at h
  · omega
  split at h
  · omega
  split at h
  · omega
  · cases h
/-- the list behind the j-th command -/
theorem Cms.shape_drop : ∀ (n : Nat) {L : Cms} {d : Nat}, L.shape d = true → (L.drop n).shape d = true
  | 0, L, d, h => h
  | n + 1, .nil, d, h => rfl
  | n + 1, .cons k a b t i body els r, d, h => by
    simp only [Cms.shape, Bool.and_eq_true] at h
    exact Cms.shape_drop n h.2.2.2.2
theorem Cms.drop_nil {n : Nat} {L : Cms} (h : n = L.len) : L.drop n = .nil := by subst h; exact Cms.drop_all L
end Go.Proofs.Ytcgifoghggajgaa

/- Running programs: plain. -/
namespace Go.Proofs.Ytcgifoghggajgaa
open Go Go.RowKit Go.Proofs

/-- the first cell that is not allocated -/
def freeK (h : List Int) : Option Nat := (List.range 8).find? fun k : Nat => !allocB h ((k : Int) + 1)
theorem freeK_none {h : List Int} (H : ∀ k : Nat, k < 8 → allocB h ((k : Int) + 1) = true) : freeK h = none := by
  unfold freeK
  rw [List.find?_eq_none]
  intro k hk
  simp [H k (by simpa using hk)]
theorem find_range {p : Nat → Bool} {n k : Nat} (hk : k < n) (hp : p k = true) (hl : ∀ j, j < k → p j = false) : (List.range n).find? p = some k := by
  induction n with
  | zero => omega
  | succ n ih =>
    rw [List.range_succ, List.find?_append]
    rcases Nat.lt_or_ge k n with h | h
    · rw [ih h]; rfl
    · obtain rfl : k = n := by omega
      have e : (List.range k).find? p = none := by
        rw [List.find?_eq_none]; intro j hj
        simp [hl j (by simpa using hj)]
      rw [e]; simp [hp]
theorem freeK_some {h : List Int} {k : Nat} (hk : k < 8) (ha : allocB h ((k : Int) + 1) = false) (H : ∀ j : Nat, j < k → allocB h ((j : Int) + 1) = true) : freeK h = some k :=
  find_range hk (by simp [ha]) fun j hj => by simp [H j hj]
theorem freeK_lt {h : List Int} {k : Nat} (e : freeK h = some k) : k < 8 := by
  have := List.mem_of_find?_eq_some e
  simpa using this
/-- a command without blocks: the state after it and the code -/
def basicF (s : Ste) (k a b : Int) : Ste × Int :=
  if k = 1 then (⟨s.values.set (a - 1).toNat (tval s.values b), s.heap⟩, 0)
  else if k = 2 then if allocB s.heap (tval s.values b) then (⟨s.values.set (a - 1).toNat (cont s.heap (tval s.values b)), s.heap⟩, 0) else (s, 1)
  else if k = 3 then if allocB s.heap (tval s.values a) then (⟨s.values, s.heap.set (tval s.values a - 1).toNat (tval s.values b)⟩, 0) else (s, 1)
  else if k = 4 then match freeK s.heap with
    | some n => (⟨s.values.set (a - 1).toNat ((n : Int) + 1), s.heap.set n 0⟩, 0)
    | none => (s, 2)
  else if allocB s.heap (tval s.values a) then (⟨s.values, s.heap.set (tval s.values a - 1).toNat (-1)⟩, 0) else (s, 1)
/-- a loop: the rounds are bounded by n, which is more than the fuel -/
def loopF (R : Ste → Nat → Ste × Int × Nat) (t : Fct) : Nat → Ste → Nat → Ste × Int × Nat
  | 0, s, f => (s, 3, f)
  | n + 1, s, f => if t.holds s.values then
      (if (R s f).2.1 ≠ 0 then R s f else if (R s f).2.2 < 1 then ((R s f).1, 3, (R s f).2.2) else loopF R t n (R s f).1 ((R s f).2.2 - 1))
    else (s, 0, f)
/-- a command that is paid -/
def cmdR (k a b : Int) (t : Fct) (RB RE : Ste → Nat → Ste × Int × Nat) (s : Ste) (f : Nat) : Ste × Int × Nat :=
  if k = 6 then (if t.holds s.values then RB s f else RE s f) else if k = 7 then loopF RB t (f + 1) s f else ((basicF s k a b).1, (basicF s k a b).2, f)
/-- a command -/
def cmdF (k a b : Int) (t : Fct) (RB RE : Ste → Nat → Ste × Int × Nat) (s : Ste) (f : Nat) : Ste × Int × Nat :=
  if f < 1 then (s, 3, f) else cmdR k a b t RB RE s (f - 1)
/-- the state, the code and the fuel behind a program -/
def Cms.run : Cms → Ste → Nat → Ste × Int × Nat
  | .nil, s, f => (s, 0, f)
  | .cons k a b t _ body els r, s, f =>
    if (cmdF k a b t body.run els.run s f).2.1 ≠ 0 then cmdF k a b t body.run els.run s f else r.run (cmdF k a b t body.run els.run s f).1 (cmdF k a b t body.run els.run s f).2.2
/-- what a run keeps -/
def RunOk (R : Ste → Nat → Ste × Int × Nat) : Prop := ∀ s f, s.valid = true → (R s f).1.valid = true ∧ (R s f).2.2 ≤ f ∧ 0 ≤ (R s f).2.1 ∧ (R s f).2.1 ≤ 3
theorem Ste.valid_iff {s : Ste} : s.valid = true ↔ s.values.length = 8 ∧ s.heap.length = 8 ∧ (∀ v ∈ s.values, valB v = true) ∧ (∀ v ∈ s.heap, cellB v = true) := by
  simp only [Ste.valid, Bool.and_eq_true, decide_eq_true_eq, List.all_eq_true, and_assoc]
theorem Ste.set_values {s : Ste} (h : s.valid = true) (n : Nat) {u : Int} (hu : valB u = true) : (Ste.mk (s.values.set n u) s.heap).valid = true := by
  rw [Ste.valid_iff] at h ⊢
  refine ⟨by simpa using h.1, h.2.1, fun v hv => ?_, h.2.2.2⟩
  rcases List.mem_or_eq_of_mem_set hv with hv | rfl
  · exact h.2.2.1 v hv
  · exact hu
theorem Ste.set_heap {s : Ste} (h : s.valid = true) (n : Nat) {u : Int} (hu : cellB u = true) : (Ste.mk s.values (s.heap.set n u)).valid = true := by
  rw [Ste.valid_iff] at h ⊢
  refine ⟨h.1, by simpa using h.2.1, h.2.2.1, fun v hv => ?_⟩
  rcases List.mem_or_eq_of_mem_set hv with hv | rfl
  · exact h.2.2.2 v hv
  · exact hu
theorem Ste.all_vals {s : Ste} (h : s.valid = true) : s.values.all valB = true := by
  rw [List.all_eq_true]; exact (Ste.valid_iff.1 h).2.2.1
theorem Ste.all_heap {s : Ste} (h : s.valid = true) : s.heap.all cellB = true := by
  rw [List.all_eq_true]; exact (Ste.valid_iff.1 h).2.2.2
theorem tval_valB {s : Ste} (h : s.valid = true) (t : Int) : valB (tval s.values t) = true := by
  have := tval_le (Ste.all_vals h) t
  simp [valB, this]
theorem allocB_iff {h : List Int} {a : Int} : allocB h a = true ↔ 0 ≤ cont h a := by simp [allocB]
theorem allocB_addr {h : List Int} {a : Int} (ha : allocB h a = true) : 1 ≤ a ∧ a ≤ 8 := by
  rw [allocB_iff] at ha
  unfold cont at ha
  split at ha
  · rename_i h1; simpa [addrB] using h1
  · omega
theorem basicF_ok {s : Ste} (h : s.valid = true) (k a b : Int) : (basicF s k a b).1.valid = true ∧ 0 ≤ (basicF s k a b).2 ∧ (basicF s k a b).2 ≤ 3 := by
  unfold basicF
  split
  · exact ⟨Ste.set_values h _ (tval_valB h b), by simp, by simp⟩
  split
  · split
    · rename_i ha
      have h1 := cont_le (Ste.all_heap h) (tval s.values b)
      have h2 := allocB_iff.1 ha
      exact ⟨Ste.set_values h _ (by simp [valB]; omega), by simp, by simp⟩
    · exact ⟨h, by simp, by simp⟩
  split
  · split
    · exact ⟨Ste.set_heap h _ (by simp [cellB, tval_valB h]), by simp, by simp⟩
    · exact ⟨h, by simp, by simp⟩
  split
  · split
    · rename_i n e
      have hn := freeK_lt e
      exact ⟨Ste.set_heap (s := ⟨_, _⟩) (Ste.set_values h _ (by simp [valB]; omega)) n (by decide), by simp, by simp⟩
    · exact ⟨h, by simp, by simp⟩
  split
  · exact ⟨Ste.set_heap h _ (by decide), by simp, by simp⟩
  · exact ⟨h, by simp, by simp⟩
theorem loopF_ok {R : Ste → Nat → Ste × Int × Nat} (hR : RunOk R) (t : Fct) : ∀ n, RunOk (loopF R t n)
  | 0 => fun s f h => ⟨h, Nat.le_refl _, by simp [loopF], by simp [loopF]⟩
  | n + 1 => fun s f h => by
    have h1 := hR s f h
    simp only [loopF]
    split
    · split
      · exact h1
      · split
        · exact ⟨h1.1, h1.2.1, by simp, by simp⟩
        · have h2 := loopF_ok hR t n (R s f).1 ((R s f).2.2 - 1) h1.1
          exact ⟨h2.1, by omega, h2.2.2⟩
    · exact ⟨h, Nat.le_refl _, by simp, by simp⟩
theorem cmdR_ok {RB RE : Ste → Nat → Ste × Int × Nat} (hB : RunOk RB) (hE : RunOk RE) (k a b : Int) (t : Fct) : RunOk (cmdR k a b t RB RE) := fun s f h => by
  unfold cmdR
  split
  · split
    · exact hB s f h
    · exact hE s f h
  split
  · exact loopF_ok hB t _ s f h
  · have := basicF_ok h k a b
    exact ⟨this.1, Nat.le_refl _, this.2⟩
theorem cmdF_ok {RB RE : Ste → Nat → Ste × Int × Nat} (hB : RunOk RB) (hE : RunOk RE) (k a b : Int) (t : Fct) : RunOk (cmdF k a b t RB RE) := fun s f h => by
  unfold cmdF
  split
  · exact ⟨h, Nat.le_refl _, by simp, by simp⟩
  · have := cmdR_ok hB hE k a b t s (f - 1) h
    exact ⟨this.1, by omega, this.2.2⟩
theorem Cms.run_ok : ∀ (L : Cms), RunOk L.run
  | .nil => fun s f h => ⟨h, Nat.le_refl _, by simp [Cms.run], by simp [Cms.run]⟩
  | .cons k a b t i body els r => fun s f h => by
    have h1 := cmdF_ok (Cms.run_ok body) (Cms.run_ok els) k a b t s f h
    simp only [Cms.run]
    split
    · exact h1
    · have h2 := Cms.run_ok r (cmdF k a b t body.run els.run s f).1 (cmdF k a b t body.run els.run s f).2.2 h1.1
      exact ⟨h2.1, by omega, h2.2.2⟩
/-- the loop's bound does not matter -/
theorem loopF_more {R : Ste → Nat → Ste × Int × Nat} (hR : RunOk R) (t : Fct) : ∀ (n m : Nat) (s : Ste) (f : Nat), s.valid = true → f < n → f < m → loopF R t n s f = loopF R t m s f
  | 0, _, _, _, _, h, _ => by omega
  | _ + 1, 0, _, _, _, _, h => by omega
  | n + 1, m + 1, s, f, hs, h1, h2 => by
    simp only [loopF]
    have h3 := hR s f hs
    split
    · split
      · rfl
      · split
        · rfl
        · rename_i hq
          exact loopF_more hR t n m _ _ h3.1 (by omega) (by omega)
    · rfl
/-- what RunProgram hands back -/
def runsP (s : Ste) (L : Cms) (f : Int) : Bool := s.valid && (L.prog && decide (0 ≤ f ∧ f ≤ 200))
def codeF (s : Ste) (L : Cms) (f : Int) : Int := if runsP s L f then (L.run s f.toNat).2.1 else 4
def afterF (s : Ste) (L : Cms) (f : Int) : Ste := if codeF s L f = 0 then (L.run s f.toNat).1 else ⟨[], []⟩
def stepsF (s : Ste) (L : Cms) (f : Int) : Int := if runsP s L f then f - (L.run s f.toNat).2.2 else 0
end Go.Proofs.Ytcgifoghggajgaa

/- Words for the exact laws over programs. -/
namespace Go.Proofs.Ytcgifoghggajgaa
open Go Go.RowKit Go.Proofs

/-- a program that can be read, with the bounds of the laws -/
def CmsW (w : World) (lo hi : Nat) (A : Option Addr) (L : Cms) : Prop := CmsV w lo hi A L ∧ L.len + L.cost ≤ 1048576
/-- as it comes in -/
def CmsR (w : World) (A : Option Addr) (L : Cms) : Prop := L.len ≤ 9223372036854775807 ∧ L.small 9223372036854775807 ∧ CmsV w 0 w.heap.size A L
section
variable {w w' : World} {lo hi lo' hi' a b : Nat} {v : Value} {A : Option Addr} {L : Cms}
theorem CmsW.below (h : CmsW w lo hi A L) (hb : Below w.heap.size w w') : CmsW w' lo hi A L := ⟨h.1.below hb, h.2⟩
theorem CmsW.mono (h : CmsW w lo hi A L) (e1 : lo' ≤ lo) (e2 : hi ≤ hi') : CmsW w lo' hi' A L := ⟨h.1.mono e1 e2, h.2⟩
theorem CmsW.len (h : CmsW w lo hi A L) : L.len ≤ 1049600 := by have := h.2; omega
theorem CmsW.small (h : CmsW w lo hi A L) : L.small 1049600 := Cms.cost_small (by have := h.2; omega)
theorem CmsW.sz (h : CmsW w lo hi A L) : L.sz ≤ 1049600 := by have := h.2; have := Cms.sz_cost L; omega
theorem CmsR.toW (h : CmsR w A L) (hl : L.len + L.cost ≤ 1048576) : CmsW w 0 w.heap.size A L := ⟨h.2.2, hl⟩
end
--@ laws.szCmdS
def szP (L : Cms) (left : Int) : Int := szL (L.len + L.cost) left
theorem szP_le {L : Cms} {left : Int} (h : ¬ szP L left < 0) : 0 ≤ szP L left ∧ szP L left = left - (L.len : Int) - (L.cost : Int) ∧ 0 ≤ left := by
  unfold szP at h ⊢
  have := szL_le h
  omega
theorem c_szP (A : Option Addr) (c : Nat) (L : Cms) (left : Int) (w : World) (h : CmsR w A L) {w' : World} (hb : Below w.heap.size w w') (h0 : 0 ≤ left) (h1 : left ≤ 1048576) :
    Calls Try.prog 15 #[.slice A L.len c, .int .i64 left] w' fun e w2 => e = .returned (.int .i64 (szP L left)) ∧ Below w'.heap.size w' w2 :=
  c_szCmdS L A c left w' ((h.2.2.below hb).mono (Nat.le_refl _) hb.size) h.1 h.2.1 h0 h1
--@ []impl.Cmd
def CmsI (w : World) (lo hi : Nat) (v : Value) (L : Cms) : Prop := CmsO w lo hi v L ∧ L.len + L.cost ≤ 1048576
section
variable {w w' : World} {lo hi lo' hi' a b : Nat} {v : Value} {A : Option Addr} {L : Cms}
theorem CmsI.below (h : CmsI w lo hi v L) (hb : Below w.heap.size w w') : CmsI w' lo hi v L := ⟨h.1.below hb, h.2⟩
theorem CmsI.mk (h : CmsI w lo hi v L) (hb : Mk (fun g => a ≤ g ∧ g < b) w w') (hd : hi ≤ a ∨ b ≤ lo) : CmsI w' lo hi v L := ⟨h.1.mk hb hd, h.2⟩
theorem CmsI.form (h : CmsI w lo hi v L) : ∃ A c, v = .slice A L.len c := by obtain ⟨A, c, e, -⟩ := h.1.form; exact ⟨A, c, e⟩
theorem CmsI.reads {n c : Nat} (h : CmsI w lo hi (.slice A n c) L) : CmsW w lo w.heap.size A L := by
  obtain ⟨A', c', e, h2⟩ := h.1.form
  injection e with e1 e2 e3
  subst e1
  exact ⟨h2, h.2⟩
theorem CmsI.len (h : CmsI w lo hi v L) : L.len ≤ 1049600 := h.1.len
end
--@ laws.toCmdS
theorem to_cmds {lo hi : Nat} (A : Option Addr) (c : Nat) (x : Cms) (w : World) (h : CmsW w lo hi A x) : Calls Try.prog 17 #[.slice A x.len c] w fun e w' => ∃ r, e = .returned r ∧ CmsI w' w.heap.size w'.heap.size r x ∧ Below w.heap.size w w' := by
  refine (toCmdS_go _ x (Nat.lt_succ_self _) A c w lo hi h.1 h.len h.small).mono ?_
  rintro e w' ⟨r, rfl, o, hB⟩
  exact ⟨r, rfl, ⟨o, h.2⟩, hB⟩
--@ laws.eqCmdS
theorem t_cmds {lo hi lo' hi' : Nat} (A A' : Option Addr) (c c' : Nat) (x : Cms) (w : World) (h : CmsW w lo hi A x) (h' : CmsW w lo' hi' A' x) : Calls Try.prog 20 #[.slice A x.len c, .slice A' x.len c'] w fun e w' => e = .returned (.bool true) ∧ Below w.heap.size w w' := by
  refine (eqCmdS_go _ x x (Nat.lt_succ_self _) A A' c c' w lo hi lo' hi' h.1 h'.1 h.len h'.len h.small h'.small).mono ?_
  rintro e w' ⟨rfl, hB⟩
  exact ⟨by simp, hB⟩
--@ laws.markCmdS
theorem m_cmds (v : Value) (x : Cms) (k : Int) (lo hi : Nat) (w : World) (h : CmsI w lo hi v x) (h0 : 0 ≤ k) (h1 : k ≤ 549747425280) : Calls Try.prog 21 #[v, .int .i64 k] w fun e w' => e = .returned (.int .i64 (k + x.marks)) ∧ True ∧ Mk (fun g => lo ≤ g ∧ g < hi) w w' := by
  have hm := Cms.marks_le x
  have h2 := h.2
  refine (markCmdS_go _ x (Nat.lt_succ_self _) lo hi v k w h.1 h0 (by omega)).mono ?_
  rintro e w' ⟨rfl, h3⟩
  exact ⟨rfl, trivial, h3⟩
--@
end Go.Proofs.Ytcgifoghggajgaa
