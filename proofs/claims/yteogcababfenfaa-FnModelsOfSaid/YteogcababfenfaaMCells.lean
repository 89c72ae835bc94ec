/- Running programs: plain. -/
import Derived.Test.YteogcababfenfaaMCmd
import Derived.Test.YteogcababfenfaaCmdP
import Derived.Test.YteogcababfenfaaMCmdG
import Derived.Test.YteogcababfenfaaTerm
import Derived.Laws.CopyOwn
import Derived.Test.YteogcababfenfaaMDrawT
set_option linter.unusedSimpArgs false
set_option linter.unusedVariables false
namespace Go.Proofs.Yteogcababfenfaa
open Go Go.RowKit Go.Proofs

/-- the first cell that is not allocated -/
def freeK (h : List Int) : Option Nat := (List.range 8).find? fun k : Nat => !allocB h ((k : Int) + 1)
theorem freeK_none {h : List Int} (H : ∀ k : Nat, k < 8 → allocB h ((k : Int) + 1) = true) : freeK h = none := by
  unfold freeK
  rw [List.find?_eq_none]
  intro k hk
  simp [H k (by simpa using hk)]
theorem find_range {p : Nat → Bool} {n k : Nat} (hk : k < n) (hp : p k = true) (hl : ∀ j, j < k → p j = false) : (List.range n).find? p = some k := by
  induction n with
  | zero => omega
  | succ n ih =>
    rw [List.range_succ, List.find?_append]
    rcases Nat.lt_or_ge k n with h | h
    · rw [ih h]; rfl
    · obtain rfl : k = n := by omega
      have e : (List.range k).find? p = none := by
        rw [List.find?_eq_none]; intro j hj
        simp [hl j (by simpa using hj)]
      rw [e]; simp [hp]
theorem freeK_some {h : List Int} {k : Nat} (hk : k < 8) (ha : allocB h ((k : Int) + 1) = false) (H : ∀ j : Nat, j < k → allocB h ((j : Int) + 1) = true) : freeK h = some k :=
  find_range hk (by simp [ha]) fun j hj => by simp [H j hj]
theorem freeK_lt {h : List Int} {k : Nat} (e : freeK h = some k) : k < 8 := by
  have := List.mem_of_find?_eq_some e
  simpa using this
/-- a command without blocks: the state after it and the code -/
def basicF (s : Ste) (k a b : Int) : Ste × Int :=
  if k = 1 then (⟨s.values.set (a - 1).toNat (tval s.values b), s.heap⟩, 0)
  else if k = 2 then if allocB s.heap (tval s.values b) then (⟨s.values.set (a - 1).toNat (cont s.heap (tval s.values b)), s.heap⟩, 0) else (s, 1)
  else if k = 3 then if allocB s.heap (tval s.values a) then (⟨s.values, s.heap.set (tval s.values a - 1).toNat (tval s.values b)⟩, 0) else (s, 1)
  else if k = 4 then match freeK s.heap with
    | some n => (⟨s.values.set (a - 1).toNat ((n : Int) + 1), s.heap.set n 0⟩, 0)
    | none => (s, 2)
  else if allocB s.heap (tval s.values a) then (⟨s.values, s.heap.set (tval s.values a - 1).toNat (-1)⟩, 0) else (s, 1)
/-- a loop: the rounds are bounded by n, which is more than the fuel -/
def loopF (R : Ste → Nat → Ste × Int × Nat) (t : Fct) : Nat → Ste → Nat → Ste × Int × Nat
  | 0, s, f => (s, 3, f)
  | n + 1, s, f => if t.holds s.values then
      (if (R s f).2.1 ≠ 0 then R s f else if (R s f).2.2 < 1 then ((R s f).1, 3, (R s f).2.2) else loopF R t n (R s f).1 ((R s f).2.2 - 1))
    else (s, 0, f)
/-- a command that is paid -/
def cmdR (k a b : Int) (t : Fct) (RB RE : Ste → Nat → Ste × Int × Nat) (s : Ste) (f : Nat) : Ste × Int × Nat :=
  if k = 6 then (if t.holds s.values then RB s f else RE s f) else if k = 7 then loopF RB t (f + 1) s f else ((basicF s k a b).1, (basicF s k a b).2, f)
/-- a command -/
def cmdF (k a b : Int) (t : Fct) (RB RE : Ste → Nat → Ste × Int × Nat) (s : Ste) (f : Nat) : Ste × Int × Nat :=
  if f < 1 then (s, 3, f) else cmdR k a b t RB RE s (f - 1)
/-- the state, the code and the fuel behind a program -/
def Cms.run : Cms → Ste → Nat → Ste × Int × Nat
  | .nil, s, f => (s, 0, f)
  | .cons k a b t _ body els r, s, f =>
    if (cmdF k a b t body.run els.run s f).2.1 ≠ 0 then cmdF k a b t body.run els.run s f else r.run (cmdF k a b t body.run els.run s f).1 (cmdF k a b t body.run els.run s f).2.2
/-- what a run keeps -/
def RunOk (R : Ste → Nat → Ste × Int × Nat) : Prop := ∀ s f, s.valid = true → (R s f).1.valid = true ∧ (R s f).2.2 ≤ f ∧ 0 ≤ (R s f).2.1 ∧ (R s f).2.1 ≤ 3
theorem Ste.valid_iff {s : Ste} : s.valid = true ↔ s.values.length = 8 ∧ s.heap.length = 8 ∧ (∀ v ∈ s.values, valB v = true) ∧ (∀ v ∈ s.heap, cellB v = true) := by
  simp only [Ste.valid, Bool.and_eq_true, decide_eq_true_eq, List.all_eq_true, and_assoc]
theorem Ste.set_values {s : Ste} (h : s.valid = true) (n : Nat) {u : Int} (hu : valB u = true) : (Ste.mk (s.values.set n u) s.heap).valid = true := by
  rw [Ste.valid_iff] at h ⊢
  refine ⟨by simpa using h.1, h.2.1, fun v hv => ?_, h.2.2.2⟩
  rcases List.mem_or_eq_of_mem_set hv with hv | rfl
  · exact h.2.2.1 v hv
  · exact hu
theorem Ste.set_heap {s : Ste} (h : s.valid = true) (n : Nat) {u : Int} (hu : cellB u = true) : (Ste.mk s.values (s.heap.set n u)).valid = true := by
  rw [Ste.valid_iff] at h ⊢
  refine ⟨h.1, by simpa using h.2.1, h.2.2.1, fun v hv => ?_⟩
  rcases List.mem_or_eq_of_mem_set hv with hv | rfl
  · exact h.2.2.2 v hv
  · exact hu
theorem Ste.all_vals {s : Ste} (h : s.valid = true) : s.values.all valB = true := by
  rw [List.all_eq_true]; exact (Ste.valid_iff.1 h).2.2.1
theorem Ste.all_heap {s : Ste} (h : s.valid = true) : s.heap.all cellB = true := by
  rw [List.all_eq_true]; exact (Ste.valid_iff.1 h).2.2.2
theorem tval_valB {s : Ste} (h : s.valid = true) (t : Int) : valB (tval s.values t) = true := by
  have := tval_le (Ste.all_vals h) t
  simp [valB, this]
theorem allocB_iff {h : List Int} {a : Int} : allocB h a = true ↔ 0 ≤ cont h a := by simp [allocB]
theorem allocB_addr {h : List Int} {a : Int} (ha : allocB h a = true) : 1 ≤ a ∧ a ≤ 8 := by
  rw [allocB_iff] at ha
  unfold cont at ha
  split at ha
  · rename_i h1; simpa [addrB] using h1
  · omega
theorem basicF_ok {s : Ste} (h : s.valid = true) (k a b : Int) : (basicF s k a b).1.valid = true ∧ 0 ≤ (basicF s k a b).2 ∧ (basicF s k a b).2 ≤ 3 := by
  unfold basicF
  split
  · exact ⟨Ste.set_values h _ (tval_valB h b), by simp, by simp⟩
  split
  · split
    · rename_i ha
      have h1 := cont_le (Ste.all_heap h) (tval s.values b)
      have h2 := allocB_iff.1 ha
      exact ⟨Ste.set_values h _ (by simp [valB]; omega), by simp, by simp⟩
    · exact ⟨h, by simp, by simp⟩
  split
  · split
    · exact ⟨Ste.set_heap h _ (by simp [cellB, tval_valB h]), by simp, by simp⟩
    · exact ⟨h, by simp, by simp⟩
  split
  · split
    · rename_i n e
      have hn := freeK_lt e
      exact ⟨Ste.set_heap (s := ⟨_, _⟩) (Ste.set_values h _ (by simp [valB]; omega)) n (by decide), by simp, by simp⟩
    · exact ⟨h, by simp, by simp⟩
  split
  · exact ⟨Ste.set_heap h _ (by decide), by simp, by simp⟩
  · exact ⟨h, by simp, by simp⟩
theorem loopF_ok {R : Ste → Nat → Ste × Int × Nat} (hR : RunOk R) (t : Fct) : ∀ n, RunOk (loopF R t n)
  | 0 => fun s f h => ⟨h, Nat.le_refl _, by simp [loopF], by simp [loopF]⟩
  | n + 1 => fun s f h => by
    have h1 := hR s f h
    simp only [loopF]
    split
    · split
      · exact h1
      · split
        · exact ⟨h1.1, h1.2.1, by simp, by simp⟩
        · have h2 := loopF_ok hR t n (R s f).1 ((R s f).2.2 - 1) h1.1
          exact ⟨h2.1, by omega, h2.2.2⟩
    · exact ⟨h, Nat.le_refl _, by simp, by simp⟩
theorem cmdR_ok {RB RE : Ste → Nat → Ste × Int × Nat} (hB : RunOk RB) (hE : RunOk RE) (k a b : Int) (t : Fct) : RunOk (cmdR k a b t RB RE) := fun s f h => by
  unfold cmdR
  split
  · split
    · exact hB s f h
    · exact hE s f h
  split
  · exact loopF_ok hB t _ s f h
  · have := basicF_ok h k a b
    exact ⟨this.1, Nat.le_refl _, this.2⟩
theorem cmdF_ok {RB RE : Ste → Nat → Ste × Int × Nat} (hB : RunOk RB) (hE : RunOk RE) (k a b : Int) (t : Fct) : RunOk (cmdF k a b t RB RE) := fun s f h => by
  unfold cmdF
  split
  · exact ⟨h, Nat.le_refl _, by simp, by simp⟩
  · have := cmdR_ok hB hE k a b t s (f - 1) h
    exact ⟨this.1, by omega, this.2.2⟩
theorem Cms.run_ok : ∀ (L : Cms), RunOk L.run
  | .nil => fun s f h => ⟨h, Nat.le_refl _, by simp [Cms.run], by simp [Cms.run]⟩
  | .cons k a b t i body els r => fun s f h => by
    have h1 := cmdF_ok (Cms.run_ok body) (Cms.run_ok els) k a b t s f h
    simp only [Cms.run]
    split
    · exact h1
    · have h2 := Cms.run_ok r (cmdF k a b t body.run els.run s f).1 (cmdF k a b t body.run els.run s f).2.2 h1.1
      exact ⟨h2.1, by omega, h2.2.2⟩
/-- the loop's bound does not matter -/
theorem loopF_more {R : Ste → Nat → Ste × Int × Nat} (hR : RunOk R) (t : Fct) : ∀ (n m : Nat) (s : Ste) (f : Nat), s.valid = true → f < n → f < m → loopF R t n s f = loopF R t m s f
  | 0, _, _, _, _, h, _ => by omega
  | _ + 1, 0, _, _, _, _, h => by omega
  | n + 1, m + 1, s, f, hs, h1, h2 => by
    simp only [loopF]
    have h3 := hR s f hs
    split
    · split
      · rfl
      · split
        · rfl
        · rename_i hq
          exact loopF_more hR t n m _ _ h3.1 (by omega) (by omega)
    · rfl
/-- what RunProgram hands back -/
def runsP (s : Ste) (L : Cms) (f : Int) : Bool := s.valid && (L.prog && decide (0 ≤ f ∧ f ≤ 200))
def codeF (s : Ste) (L : Cms) (f : Int) : Int := if runsP s L f then (L.run s f.toNat).2.1 else 4
def afterF (s : Ste) (L : Cms) (f : Int) : Ste := if codeF s L f = 0 then (L.run s f.toNat).1 else ⟨[], []⟩
def stepsF (s : Ste) (L : Cms) (f : Int) : Int := if runsP s L f then f - (L.run s f.toNat).2.2 else 0
end Go.Proofs.Yteogcababfenfaa

/- Contracts: framed contracts: copies, disjoint sets. -/
namespace Go.Proofs.Yteogcababfenfaa
open Go Go.RowKit Go.Proofs
attribute [local go_sem ↓] Go.wp_at_zero Go.wp_at_succ

--@ impl.copyInts
set_option maxRecDepth 100000 in
set_option maxHeartbeats 800000 in
theorem c_impl_copyInts {lo hi : Nat} (A : Option Addr) (c : Nat) (xs : List Int) (w : World) (h : IntsV w lo hi A xs) : Calls Try.prog 167 #[.slice A xs.length c] w fun e w' => ∃ r, e = .returned r ∧ IntsO w' w.heap.size r xs ∧ Below w.heap.size w w' := by
  have hl := h.le
  have hmk := mkI xs.length h.lim
  have hb0 : Below w.heap.size w (w.alloc (.cells (madeCells #[.int .i64 0] (xs.length)) tI)) := bel
  have hV := Lib.hid (h.below hb0)
  go_enter Try.func167, Try.ntmps167
  go_wp2_with (with_reducible refine wpList_copy_splice rfl _ _ 42 42 rfl tI Try.underlying42 (by kernel_rfl) (some ⟨w.heap.size, 0, none⟩) A xs.length xs.length xs.length c rfl rfl w.heap.size 0 (madeCells #[.int .i64 0] (xs.length)).toList tI ?c1 (encI xs) ?c2 ?c3 ?c4 (encI_one _) w.heap.size w hb0 (Nat.le_refl _) ?_)
  case c1 => simpa using heap_alloc_new w (.cells (madeCells #[.int .i64 0] xs.length) tI)
  case c2 => simp
  case c3 =>
    intro h0
    obtain ⟨b, o, rfl, _, _, hc⟩ := hV.out.raw.2 (by simpa using h0)
    exact ⟨_, rfl, fun j u hu => by
      rw [show (⟨b, o, none⟩ : Addr).add j = ⟨b, o + j, none⟩ from by unfold Addr.add; split <;> simp_all]
      exact hc j _ (by rw [List.getElem?_map, hu]; rfl)⟩
  case c4 => simp [size_madeCells]
  intro w' hH hB
  clear hmk
  go_wp2
  go_ret
  have hs := hH.out
  rw [show splice (madeCells #[Value.int .i64 0] (xs.length)).toList 0 (encI xs) = encI xs from by simp [splice, size_madeCells]] at hs
  exact ⟨_, rfl, ⟨own_of_blk (cap := xs.length) hs (Nat.le_refl _) (by simp) (by intro j hj; simp) (Nat.le_refl _) (by unfold maxLen; omega) (by simp), h.lim⟩, hB⟩

--@ spec.l11Free
def disjB (T C : Nat) : Bool := (List.range 9).all fun n => !(T.testBit n && C.testBit n)
theorem disjB_iff {T C : Nat} (hT : T < 512) : (C &&& T = 0) ↔ disjB T C = true := by
  unfold disjB
  rw [List.all_eq_true]
  constructor
  · intro h n _
    have := congrArg (fun s => Nat.testBit s n) h
    simp only [Nat.testBit_and, Nat.zero_testBit] at this
    rw [Bool.and_comm, this]; rfl
  · intro h
    apply Nat.eq_of_testBit_eq
    intro n
    rw [Nat.testBit_and, Nat.zero_testBit]
    by_cases hn : n < 9
    · have hq := h n (List.mem_range.mpr hn)
      cases h1 : T.testBit n <;> cases h2 : C.testBit n <;> simp_all
    · have : T.testBit n = false := Nat.testBit_lt_two_pow (Nat.lt_of_lt_of_le hT (Nat.pow_le_pow_right (n := 2) (by decide) (show 9 ≤ n by omega)))
      rw [this, Bool.and_false]

end Go.Proofs.Yteogcababfenfaa

/- Contracts: impl's copies of states. -/
namespace Go.Proofs.Yteogcababfenfaa
open Go Go.RowKit Go.Proofs

--@ impl.copyState
set_option maxRecDepth 100000 in
set_option maxHeartbeats 1600000 in
theorem c_impl_copyState {lo hi : Nat} (v : Value) (s : Ste) (w : World) (h : StateV w lo hi v s) : Calls Try.prog 136 #[v] w fun e w' => ∃ r, e = .returned r ∧ StateO w' w.heap.size r s ∧ Below w.heap.size w w' := by
  obtain ⟨A1, c1, A2, c2, rfl, h1, h2⟩ := h
  have H1 := Lib.hid h1
  have H2 := Lib.hid h2
  clear h1 h2
  go_enter Try.func136, Try.ntmps136
  have k0 : Blk ((w.alloc (.cells #[.slice A1 s.values.length c1, .slice A2 s.heap.length c2] tSt)).alloc (.cells #[.slice none 0 0, .slice none 0 0] tSt)) w.heap.size tSt #[.slice A1 s.values.length c1, .slice A2 s.heap.length c2] := blks
  have kr : Blk ((w.alloc (.cells #[.slice A1 s.values.length c1, .slice A2 s.heap.length c2] tSt)).alloc (.cells #[.slice none 0 0, .slice none 0 0] tSt)) (w.heap.size + 1) tSt #[.slice none 0 0, .slice none 0 0] := blks
  go_wp2_with fail
  refine wp_region_noPanic ?_
  refine wp_region_held_drew (S := (fun w' => ∀ i, w'.cell? ⟨w.heap.size, i, none⟩ = #[.slice A1 s.values.length c1, .slice A2 s.heap.length c2][i]?)) (by kernel_rfl) (Blk.cell blks) (fun hHeld => ?_)
  refine wpAnyH_take (i := 0) (v := ?_) rfl (by kernel_rfl) (by kernel_rfl) (by kernel_rfl) (fun _ _ _ h => h) (Or.inl ⟨by rfl, fun w hSw => ?_⟩) hHeld ?_
  rotate_left
  · ((try dsimp only at hSw); go_split_ands; go_simp; (try with_reducible rfl))
  try simp only [Act.put, List.getElem_toArray, List.getElem_cons_zero, List.getElem_cons_succ, List.setIfInBounds_toArray, List.set_cons_zero, List.set_cons_succ]
  refine wpAnyH_take (i := 1) (v := ?_) rfl (by kernel_rfl) (by kernel_rfl) (by kernel_rfl) (fun _ _ _ h => h) (Or.inl ⟨by rfl, fun w hSw => ?_⟩) hHeld ?_
  rotate_left
  · ((try dsimp only at hSw); go_split_ands; go_simp; (try with_reducible rfl))
  try simp only [Act.put, List.getElem_toArray, List.getElem_cons_zero, List.getElem_cons_succ, List.setIfInBounds_toArray, List.set_cons_zero, List.set_cons_succ]
  refine wpAnyH_take (i := 3) (v := ?_) rfl (by kernel_rfl) (by kernel_rfl) (by kernel_rfl) (fun _ _ _ h => h) (Or.inl ⟨by rfl, fun w hSw => ?_⟩) hHeld ?_
  rotate_left
  · ((try dsimp only at hSw); go_split_ands; go_simp; (try with_reducible rfl))
  try simp only [Act.put, List.getElem_toArray, List.getElem_cons_zero, List.getElem_cons_succ, List.setIfInBounds_toArray, List.set_cons_zero, List.set_cons_succ]
  refine wpAnyH_take (i := 4) (v := ?_) rfl (by kernel_rfl) (by kernel_rfl) (by kernel_rfl) (fun _ _ _ h => h) (Or.inl ⟨by rfl, fun w hSw => ?_⟩) hHeld ?_
  rotate_left
  · ((try dsimp only at hSw); go_split_ands; go_simp; (try with_reducible rfl))
  try simp only [Act.put, List.getElem_toArray, List.getElem_cons_zero, List.getElem_cons_succ, List.setIfInBounds_toArray, List.set_cons_zero, List.set_cons_succ]
  refine wpAnyH_ready (rs := [2]) (by kernel_rfl) (by simp) ?_
  refine AllReadyH.cons rfl (fun K hK => ?_) AllReadyH.nil
  try simp only [List.getElem_toArray, List.getElem_cons_zero, List.getElem_cons_succ]
  (go_simp; refine (c_impl_copyInts A1 c1 s.values _ (H1.out.below bel)).mono ?_; rintro e w1 ⟨r1, rfl, o1, hB1⟩; have hB := bgo (w := w) bel hB1; replace k0 := Blk.next (g := w.heap.size) blks hB1; replace kr := Blk.next (g := w.heap.size + 1) blks hB1)
  refine hK.out _ _ (k0.cell) (fun hHeldN => ?_)
  clear hHeld hK K
  have hHeld := hHeldN
  clear hHeldN
  try simp only [Act.put, List.getElem_toArray, List.getElem_cons_zero, List.getElem_cons_succ, List.setIfInBounds_toArray, List.set_cons_zero, List.set_cons_succ]
  refine wpAnyH_ready (rs := [5]) (by kernel_rfl) (by simp) ?_
  refine AllReadyH.cons rfl (fun K hK => ?_) AllReadyH.nil
  try simp only [List.getElem_toArray, List.getElem_cons_zero, List.getElem_cons_succ]
  (go_simp; refine (c_impl_copyInts A2 c2 s.heap _ (H2.out.below hB)).mono ?_; rintro e w2 ⟨r2, rfl, o2, hB2⟩; have hBB := bgo hB hB2; have hz1 := hB.size; replace k0 := k0.next hB2; replace kr := kr.next hB2)
  refine hK.out _ _ (k0.cell) (fun hHeldN => ?_)
  clear hHeld hK K
  have hHeld := hHeldN
  clear hHeldN
  try simp only [Act.put, List.getElem_toArray, List.getElem_cons_zero, List.getElem_cons_succ, List.setIfInBounds_toArray, List.set_cons_zero, List.set_cons_succ]
  have HD := Lib.hid (show ∀ g, r1.ownBlock = some g → r2.ownBlock ≠ some g from fun g hg e => by
    have := (o1.1.lt g hg).2
    have := (o2.1.lt g e).1
    omega)
  have HO1 := Lib.hid ((o1.below hB2).lower (base' := w.heap.size) (by (try simp) <;> omega))
  have HO2 := Lib.hid (o2.lower (base' := w.heap.size) hz1)
  obtain ⟨F, e1, rfl, -⟩ := o1.reads
  obtain ⟨G, e2, rfl, -⟩ := o2.reads
  clear o1 o2 hB1 hB2
  (replace qkr := kr.cell; replace rkr := kr.frozen; replace lkr := kr.lt)
  refine wpAnyH_take (i := 6) (v := ?_) rfl (by kernel_rfl) (by kernel_rfl) (by kernel_rfl) (fun _ _ _ h => h) (Or.inl ⟨by rfl, fun w hSw => ?_⟩) hHeld ?_
  rotate_left
  · ((try dsimp only at hSw); go_split_ands; go_simp; (try with_reducible rfl))
  try simp only [Act.put, List.getElem_toArray, List.getElem_cons_zero, List.getElem_cons_succ, List.setIfInBounds_toArray, List.set_cons_zero, List.set_cons_succ]
  refine wpAnyH_ready (rs := [7]) (by kernel_rfl) (by simp) ?_
  refine AllReadyH.cons rfl (fun K hK => ?_) AllReadyH.nil
  try simp only [List.getElem_toArray, List.getElem_cons_zero, List.getElem_cons_succ]
  go_simp
  refine hK.out _ _ (Blk.cell blks) (fun hHeldN => ?_)
  clear hHeld hK K
  have hHeld := hHeldN
  clear hHeldN
  try simp only [Act.put, List.getElem_toArray, List.getElem_cons_zero, List.getElem_cons_succ, List.setIfInBounds_toArray, List.set_cons_zero, List.set_cons_succ]
  refine wpAnyH_done (by kernel_rfl) ?_ _
  refine NoPanic.normal ?_
  go_wp2_with fail
  refine bodyPost_ret (v := .agg #[.slice F s.values.length e1, .slice G s.heap.length e2]) (by simp [results, Try.results136, go_sem, qkr]) rfl ⟨_, rfl, ⟨_, _, rfl, ?_, ?_, HD.out⟩, bel⟩
  · exact (HO1.out.setT kr (by decide) 0 _).setT (kr.set_ 0 _) (by decide) 1 _
  · exact (HO2.out.setT kr (by decide) 0 _).setT (kr.set_ 0 _) (by decide) 1 _

--@ impl.Holds
/-- a holds in the whole of s -/
def holdsF (s : Ste) (a : Asn) : Bool := (partOf s a).isSome && (((bitsOf ((partOf s a).getD []) : Nat) : Int) == (bitsOf (usedL s.heap 8) : Nat))
theorem partOf_len {s : Ste} {a : Asn} (h : (partOf s a).isSome = true) : s.heap.length = 8 := by
  unfold partOf at h
  split at h
  · rename_i hv
    simp only [Bool.and_eq_true] at hv
    exact (Ste.valid_len hv.1.1).2
  · cases h
set_option maxRecDepth 100000 in
set_option maxHeartbeats 1600000 in
theorem c_impl_Holds {lo hi lo' hi' : Nat} (v v' : Value) (s : Ste) (a : Asn) (w : World) (h : StateV w lo hi v s) (h' : AsnV w lo' hi' v' a) :
    Calls Try.prog 19 #[v, v'] w fun e w' => e = .returned (.bool (holdsF s a)) ∧ Below w.heap.size w w' := by
  have hV := Lib.hid h
  have hV' := Lib.hid h'
  obtain ⟨A1, c1, A2, c2, rfl, -, -⟩ := h
  obtain ⟨A3, c3, A4, c4, rfl, -, -⟩ := h'
  have HE : Hid (holdsF s a = ((partOf s a).isSome && (((bitsOf ((partOf s a).getD []) : Nat) : Int) == (bitsOf (usedL s.heap 8) : Nat)))) := rfl
  go_enter Try.func19, Try.ntmps19
  have k0 : Blk ((w.alloc (.cells #[.slice A1 s.values.length c1, .slice A2 s.heap.length c2] tSt)).alloc (.cells #[.slice A3 a.facts.length c3, .slice A4 a.atoms.length c4] 32)) w.heap.size tSt #[.slice A1 s.values.length c1, .slice A2 s.heap.length c2] := blks
  go_wp2_with fail
  refine (c_impl_partOf _ _ s a _ (hV.out.below bel) (hV'.out.below bel)).mono ?_
  rintro e w1 ⟨rfl, hB1⟩
  have hB := bgo (w := w) bel hB1
  replace k0 := k0.next hB1
  (replace qk0 := k0.cell; replace rk0 := k0.frozen; replace lk0 := k0.lt)
  clear hB1
  cases hp : (partOf s a).isSome
  · have E : Hid (holdsF s a = false) := by show _ = _; rw [HE.out, hp]; rfl
    clear hp
    go_wp2_with fail
    go_ret
    exact ⟨ret_bool E.out.symm, hB⟩
  · have h8 := Lib.hid (partOf_len hp)
    have E : Hid (holdsF s a = (((bitsOf ((partOf s a).getD []) : Nat) : Int) == (bitsOf (usedL s.heap 8) : Nat))) := by show _ = _; rw [HE.out, hp]; rfl
    clear hp HE
    go_wp2_with fail
    refine (c_impl_usedIn _ s _ (hV.out.below hB) h8.out).mono ?_
    rintro e w2 ⟨rfl, hB2⟩
    go_wp2_with fail
    go_ret
    exact ⟨ret_bool E.out.symm, bgo hB hB2⟩

--@ impl.UsedCells
theorem usedL_step (h : List Int) (k : Nat) : usedL h (k + 1) = usedL h k ++ if allocB h ((k + 1 : Nat) : Int) then [((k + 1 : Nat) : Int)] else [] := by
  unfold usedL
  rw [List.range'_1_concat, List.filter_append, List.map_append, Nat.add_comm 1 k]
  congr 1
  rw [List.filter_cons, List.filter_nil]
  cases allocB h ((k + 1 : Nat) : Int) <;> rfl
theorem usedL_le (h : List Int) (k : Nat) : (usedL h k).length ≤ k := by
  unfold usedL
  rw [List.length_map]
  exact Nat.le_trans (List.length_filter_le _ _) (by simp)
def usedF (s : Ste) : List Int := if s.valid then usedL s.heap 8 else []
end Go.Proofs.Yteogcababfenfaa
