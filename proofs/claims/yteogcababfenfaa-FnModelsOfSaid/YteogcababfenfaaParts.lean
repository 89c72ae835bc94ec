/- The cells that an assertion describes: in a larger state and in a smaller one, and those of a conjunction. Plain; no program. -/
import Derived.Test.YteogcababfenfaaMCells
import Derived.Test.YteogcababfenfaaMSte
set_option linter.unusedSimpArgs false
set_option linter.unusedVariables false
namespace Go.Proofs.Yteogcababfenfaa
open Go Go.RowKit

theorem addAll_spec : ∀ (cs seen out : List Int), addAll seen cs = some out → seen.Nodup → out.Nodup := by
  intro cs
  induction cs with
  | nil => intro seen out h hn; simp only [addAll, Option.some.injEq] at h; rw [← h]; exact hn
  | cons c cs ih =>
    intro seen out h hn
    simp only [addAll] at h
    split at h
    · cases h
    · rename_i hc
      refine ih _ _ h ?_
      rw [List.nodup_append]
      exact ⟨hn, by simp, fun x hx y hy e => by rw [List.mem_singleton] at hy; exact hc (by rw [← hy, ← e]; exact hx)⟩
theorem addAll_some : ∀ (cs seen : List Int), (seen ++ cs).Nodup → addAll seen cs = some (seen ++ cs) := by
  intro cs
  induction cs with
  | nil => intro seen _; simp [addAll]
  | cons c cs ih =>
    intro seen h
    simp only [addAll]
    rw [if_neg]
    · rw [ih _ (by simpa using h)]; simp
    · intro hc
      rw [List.nodup_append] at h
      exact h.2.2 c hc c List.mem_cons_self rfl
/-- what a part adds: allocated addresses, each once -/
theorem partAtoms_spec {s : Ste} (hs : s.valid = true) : ∀ (xs : List Atm) (seen out : List Int), partAtoms s seen xs = some out → seen.Nodup → out.Nodup ∧ ∃ new, out = seen ++ new ∧ ∀ c ∈ new, addrB c = true ∧ allocB s.heap c = true := by
  intro xs
  induction xs with
  | nil => intro seen out h hn; simp only [partAtoms, Option.some.injEq] at h; subst h; exact ⟨hn, [], by simp, by simp⟩
  | cons x xs ih =>
    intro seen out h hn
    simp only [partAtoms, Option.bind_eq_some_iff] at h
    obtain ⟨cs, h1, seen', h2, h3⟩ := h
    have hn' := addAll_spec _ _ _ h2 hn
    obtain ⟨g1, new, g2, g3⟩ := ih _ _ h3 hn'
    have e := addAll_mem _ _ _ h2
    refine ⟨g1, cs ++ new, by rw [g2, e, List.append_assoc], fun c hc => ?_⟩
    rcases List.mem_append.1 hc with h | h
    · exact (atomCells_addr hs h1).2 c h
    · exact g3 c h

/-- the cells of h' lie in h as they are -/
def Sub (h' h : List Int) : Prop := ∀ x, allocB h' x = true → allocB h x = true ∧ cont h x = cont h' x
theorem walk_up {h' h : List Int} (H : Sub h' h) : ∀ (n : Nat) (x to : Int) (cs : List Int), walkF h' n x to = some cs → walkF h n x to = some cs := by
  intro n
  induction n with
  | zero => intro x to cs hw; exact hw
  | succ n ih =>
    intro x to cs hw
    simp only [walkF] at hw ⊢
    split at hw
    · rename_i e; rw [if_pos e]; exact hw
    · rename_i e
      rw [if_neg e]
      split at hw
      · rename_i ha
        obtain ⟨g1, g2⟩ := H x ha
        rw [if_pos g1, g2]
        obtain ⟨ds, hd, rfl⟩ := Option.map_eq_some_iff.1 hw
        rw [ih _ _ _ hd]; rfl
      · cases hw
theorem walk_down {h' h : List Int} (H : Sub h' h) : ∀ (n : Nat) (x to : Int) (cs : List Int), walkF h n x to = some cs → (∀ c ∈ cs, allocB h' c = true) → walkF h' n x to = some cs := by
  intro n
  induction n with
  | zero => intro x to cs hw _; exact hw
  | succ n ih =>
    intro x to cs hw hc
    simp only [walkF] at hw ⊢
    split at hw
    · rename_i e; rw [if_pos e]; exact hw
    · rename_i e
      rw [if_neg e]
      split at hw
      · obtain ⟨ds, hd, rfl⟩ := Option.map_eq_some_iff.1 hw
        have ha := hc x List.mem_cons_self
        rw [if_pos ha, ← (H x ha).2, ih _ _ _ hd fun c h => hc c (List.mem_cons_of_mem _ h)]; rfl
      · cases hw
theorem tval_val {s : Ste} (hs : s.valid = true) (t : Int) : 0 ≤ tval s.values t := by
  have hv : s.values.all valB = true := by simp only [Ste.valid, Bool.and_eq_true] at hs; exact hs.2.1
  exact (tval_le hv t).1
theorem atom_up {s' s : Ste} (hs : s'.valid = true) (hv : s'.values = s.values) (H : Sub s'.heap s.heap) {x : Atm} {cs : List Int} (h : atomCells s' x = some cs) : atomCells s x = some cs := by
  unfold atomCells at h ⊢
  rw [← hv]
  split at h
  · rename_i hk; rw [if_pos hk]; exact walk_up H _ _ _ _ h
  · rename_i hk
    rw [if_neg hk]
    split at h
    · rename_i hc
      have ha : allocB s'.heap (tval s'.values x.a) = true := by simp only [allocB, decide_eq_true_eq]; rw [hc]; exact tval_val hs _
      rw [if_pos (by rw [(H _ ha).2]; exact hc)]; exact h
    · cases h
theorem atom_down {s' s : Ste} (hv : s'.values = s.values) (H : Sub s'.heap s.heap) {x : Atm} {cs : List Int} (h : atomCells s x = some cs) (hc : ∀ c ∈ cs, allocB s'.heap c = true) : atomCells s' x = some cs := by
  unfold atomCells at h ⊢
  rw [hv]
  split at h
  · rename_i hk; rw [if_pos hk]; exact walk_down H _ _ _ _ h hc
  · rename_i hk
    rw [if_neg hk]
    split at h
    · rename_i hcc
      obtain rfl := Option.some.inj h
      have ha := hc _ List.mem_cons_self
      rw [if_pos (by rw [← (H _ ha).2]; exact hcc)]
    · cases h
theorem part_up {s' s : Ste} (hs : s'.valid = true) (hv : s'.values = s.values) (H : Sub s'.heap s.heap) {pre : List Int} (hp : pre.Nodup) (hd : ∀ c ∈ pre, allocB s'.heap c = false) :
    ∀ (xs : List Atm) (seen out : List Int), seen.Nodup → (∀ c ∈ seen, allocB s'.heap c = true) → partAtoms s' seen xs = some out → partAtoms s (pre ++ seen) xs = some (pre ++ out) := by
  intro xs
  induction xs with
  | nil => intro seen out _ _ h; simp only [partAtoms, Option.some.injEq] at h; subst h; rfl
  | cons x xs ih =>
    intro seen out hn ha h
    simp only [partAtoms, Option.bind_eq_some_iff] at h ⊢
    obtain ⟨cs, h1, seen', h2, h3⟩ := h
    have e := addAll_mem _ _ _ h2
    have hn' := addAll_spec _ _ _ h2 hn
    have ha' : ∀ c ∈ seen', allocB s'.heap c = true := fun c hc => by
      rw [e] at hc
      rcases List.mem_append.1 hc with h | h
      · exact ha c h
      · exact ((atomCells_addr hs h1).2 c h).2
    refine ⟨cs, atom_up hs hv H h1, pre ++ seen', ?_, ih _ _ hn' ha' h3⟩
    rw [e, ← List.append_assoc]
    apply addAll_some
    rw [List.append_assoc, ← e, List.nodup_append]
    refine ⟨hp, hn', fun x hx y hy exy => ?_⟩
    have h4 := hd x hx
    rw [exy, ha' y hy] at h4
    cases h4
theorem part_down {s' s : Ste} (hs : s.valid = true) (hv : s'.values = s.values) (H : Sub s'.heap s.heap) {pre : List Int} :
    ∀ (xs : List Atm) (seen out : List Int), (pre ++ seen).Nodup → partAtoms s (pre ++ seen) xs = some out → (∀ c ∈ out, c ∉ pre → c ∉ seen → allocB s'.heap c = true) → ∃ out', out = pre ++ out' ∧ partAtoms s' seen xs = some out' := by
  intro xs
  induction xs with
  | nil => intro seen out _ h _; simp only [partAtoms, Option.some.injEq] at h; exact ⟨seen, h.symm, rfl⟩
  | cons x xs ih =>
    intro seen out hn h ha
    simp only [partAtoms, Option.bind_eq_some_iff] at h ⊢
    obtain ⟨cs, h1, seen', h2, h3⟩ := h
    have e := addAll_mem _ _ _ h2
    have hn' := addAll_spec _ _ _ h2 hn
    rw [e, List.append_assoc] at h3 hn'
    obtain ⟨g1, new, g2, g3⟩ := partAtoms_spec hs _ _ _ h3 hn'
    have hsub : ∀ c ∈ cs, c ∈ out := fun c hc => by rw [g2]; simp [hc]
    have hcs : ∀ c ∈ cs, c ∉ pre ∧ c ∉ seen := fun c hc => by
      constructor
      · intro hp
        rw [List.nodup_append] at hn'
        exact hn'.2.2 c hp c (List.mem_append_right _ hc) rfl
      · intro hp
        rw [← List.append_assoc, List.nodup_append] at hn'
        exact hn'.2.2 c (List.mem_append_right _ hp) c hc rfl
    obtain ⟨out', g4, g5⟩ := ih _ _ hn' h3 fun c hc h1 h2 => ha c hc h1 fun h => h2 (List.mem_append_left _ h)
    refine ⟨out', g4, cs, atom_down hv H h1 fun c hc => ha c (hsub c hc) (hcs c hc).1 (hcs c hc).2, seen ++ cs, ?_, g5⟩
    apply addAll_some
    rw [List.nodup_append] at hn'
    exact hn'.2.1
theorem partAtoms_append (s : Ste) (ys : List Atm) : ∀ (xs : List Atm) (seen : List Int), partAtoms s seen (xs ++ ys) = (partAtoms s seen xs).bind fun out => partAtoms s out ys := by
  intro xs
  induction xs with
  | nil => intro seen; rfl
  | cons x xs ih =>
    intro seen
    simp only [List.cons_append, partAtoms]
    cases atomCells s x with
    | none => rfl
    | some cs =>
      simp only [Option.bind_some]
      cases addAll seen cs with
      | none => rfl
      | some seen' => exact ih seen'

/-! states -/
/-- part of a valid assertion whose facts hold -/
theorem partOf_some {s : Ste} {a : Asn} {out : List Int} : partOf s a = some out ↔ s.valid = true ∧ a.valid = true ∧ factsHold a.facts s.values = true ∧ partAtoms s [] a.atoms = some out := by
  unfold partOf
  split
  · rename_i h
    simp only [Bool.and_eq_true] at h
    exact ⟨fun e => ⟨h.1.1, h.1.2, h.2, e⟩, fun e => e.2.2.2⟩
  · rename_i h
    constructor
    · intro e; cases e
    · rintro ⟨h1, h2, h3, -⟩
      exact absurd (by rw [h1, h2, h3]; rfl) h
theorem partOf_spec {s : Ste} {a : Asn} {out : List Int} (h : partOf s a = some out) : out.Nodup ∧ ∀ c ∈ out, addrB c = true ∧ allocB s.heap c = true := by
  obtain ⟨h1, -, -, h4⟩ := partOf_some.1 h
  obtain ⟨g1, new, g2, g3⟩ := partAtoms_spec h1 _ _ _ h4 List.nodup_nil
  rw [List.nil_append] at g2
  subst g2
  exact ⟨g1, g3⟩
theorem holds_iff {s : Ste} {a : Asn} : holdsF s a = true ↔ ∃ out, partOf s a = some out ∧ ∀ c, allocB s.heap c = true → c ∈ out := by
  unfold holdsF
  cases h : partOf s a with
  | none => simp
  | some out =>
    have hsp := partOf_spec h
    have h1 : ∀ x ∈ out, 0 ≤ x := fun x hx => by have := (hsp.2 x hx).1; simp [addrB] at this; omega
    have h2 : ∀ x ∈ usedL s.heap 8, 0 ≤ x := fun x hx => by have := (usedL_mem _ _ _).1 hx; omega
    simp only [Option.isSome_some, Option.getD_some, Bool.true_and, beq_iff_eq, Int.natCast_inj, Option.some.injEq, exists_eq_left']
    rw [bitsOf_eq h1 h2]
    constructor
    · intro h3 c hc
      have := (cont_alloc hc).1
      simp [addrB] at this
      exact (h3 c).2 ((usedL_mem _ _ _).2 ⟨by omega, by omega, hc⟩)
    · intro h3 x
      rw [usedL_mem]
      constructor
      · intro hx
        have := hsp.2 x hx
        have h4 := this.1
        simp [addrB] at h4
        exact ⟨by omega, by omega, this.2⟩
      · intro hx
        exact h3 x hx.2.2
theorem cellsL_mem {S : Nat} {x : Int} : x ∈ cellsL S 8 ↔ 1 ≤ x ∧ x ≤ 8 ∧ S.testBit x.toNat = true := by
  unfold cellsL
  simp only [List.mem_map, List.mem_filter, List.mem_range'_1]
  constructor
  · rintro ⟨n, ⟨h1, h2⟩, rfl⟩; exact ⟨by omega, by omega, h2⟩
  · rintro ⟨h1, h2, h3⟩
    obtain ⟨n, rfl⟩ := Int.eq_ofNat_of_zero_le (show 0 ≤ x by omega)
    exact ⟨n, ⟨by omega, h3⟩, rfl⟩
theorem cells_mem {out : List Int} (h : ∀ c ∈ out, addrB c = true) {x : Int} : x ∈ cellsL (bitsOf out) 8 ↔ x ∈ out := by
  have h1 : ∀ c ∈ out, 1 ≤ c ∧ c ≤ 8 := fun c hc => by have := h c hc; simpa [addrB] using this
  rw [cellsL_mem, testBit_bitsOf fun c hc => by have := h1 c hc; omega]
  constructor
  · rintro ⟨g1, g2, g3⟩
    rw [decide_eq_true_eq, Int.toNat_of_nonneg (by omega)] at g3
    exact g3
  · intro hx
    have := h1 x hx
    exact ⟨this.1, this.2, by rw [decide_eq_true_eq, Int.toNat_of_nonneg (by omega)]; exact hx⟩
theorem cellsL_nodup (S : Nat) : (cellsL S 8).Nodup := by
  unfold cellsL
  unfold List.Nodup
  rw [List.pairwise_map]
  refine List.Pairwise.imp (R := fun a b => a < b) (fun h e => by omega) ?_
  exact (List.pairwise_lt_range' (s := 1) (n := 8)).filter _

/-- a state with some cells alone -/
def keepH (h : List Int) (p : Int → Bool) : List Int := (List.range' 1 8).map fun n : Nat => if p (n : Int) then cont h n else -1
def keepS (s : Ste) (p : Int → Bool) : Ste := ⟨s.values, keepH s.heap p⟩
theorem cont_keep {h : List Int} {p : Int → Bool} {x : Int} : cont (keepH h p) x = if p x then cont h x else -1 := by
  unfold cont
  by_cases ha : addrB x = true
  · rw [if_pos ha, if_pos ha]
    have ha' := ha
    simp only [addrB, decide_eq_true_eq] at ha'
    unfold keepH
    rw [List.getElem?_map, List.getElem?_range' (by omega)]
    have e : ((1 + 1 * (x - 1).toNat : Nat) : Int) = x := by omega
    simp only [Option.map_some, Option.getD_some, e]
    unfold cont
    rw [if_pos ha]
  · rw [if_neg ha, if_neg ha]
    split <;> rfl
theorem alloc_keep {h : List Int} {p : Int → Bool} {x : Int} : allocB (keepH h p) x = (p x && allocB h x) := by
  unfold allocB
  rw [cont_keep]
  cases p x <;> simp
theorem keep_sub (h : List Int) (p : Int → Bool) : Sub (keepH h p) h := by
  intro x hx
  rw [alloc_keep, Bool.and_eq_true] at hx
  exact ⟨hx.2, by rw [cont_keep, if_pos hx.1]⟩
theorem keep_valid {s : Ste} (hs : s.valid = true) (p : Int → Bool) : (keepS s p).valid = true := by
  have hs' := hs
  simp only [Ste.valid, Bool.and_eq_true, decide_eq_true_eq] at hs ⊢
  refine ⟨⟨hs.1.1, by simp [keepS, keepH]⟩, hs.2.1, ?_⟩
  rw [List.all_eq_true]
  intro x hx
  obtain ⟨n, hn, rfl⟩ := List.mem_map.1 hx
  split
  · have := cont_le hs.2.2 (n : Int)
    simp [cellB, valB]; omega
  · simp [cellB]

/-! the laws -/
theorem more_law {s : Ste} {a : Asn} {out : List Int} (h : partOf s a = some out) {n v : Int} (hn : addrB n = true) (hfree : allocB s.heap n = false) (hv : 0 ≤ v ∧ v ≤ 8) :
    partOf ⟨s.values, s.heap.set (n - 1).toNat v⟩ a = some out ∧ holdsF ⟨s.values, s.heap.set (n - 1).toNat v⟩ a = false := by
  obtain ⟨h1, h2, h3, h4⟩ := partOf_some.1 h
  have hlen := (Ste.valid_len h1).2
  have hn' := hn
  simp only [addrB, decide_eq_true_eq] at hn'
  have hcont : ∀ x, cont (s.heap.set (n - 1).toNat v) x = if x = n then v else cont s.heap x := by
    intro x
    unfold cont
    by_cases hx : addrB x = true
    · rw [if_pos hx]
      simp only [addrB, decide_eq_true_eq] at hx
      by_cases e : x = n
      · subst e
        rw [if_pos rfl, List.getElem?_set_self (by omega)]; rfl
      · rw [if_neg e, List.getElem?_set_ne (by omega), if_pos (by simp only [addrB, decide_eq_true_eq]; exact hx)]
    · rw [if_neg hx, if_neg hx, if_neg (fun e => hx (by rw [e]; exact hn))]
  have hsub : Sub s.heap (s.heap.set (n - 1).toNat v) := by
    intro x hx
    have hne : x ≠ n := fun e => by rw [e, hfree] at hx; cases hx
    have hc := hcont x
    rw [if_neg hne] at hc
    exact ⟨by unfold allocB at hx ⊢; rw [hc]; exact hx, hc⟩
  have hvalid : (⟨s.values, s.heap.set (n - 1).toNat v⟩ : Ste).valid = true := by
    simp only [Ste.valid, Bool.and_eq_true, decide_eq_true_eq, List.length_set] at h1 ⊢
    refine ⟨h1.1, h1.2.1, ?_⟩
    rw [List.all_eq_true]
    intro x hx
    rcases List.mem_or_eq_of_mem_set hx with hx | rfl
    · exact List.all_eq_true.1 h1.2.2 x hx
    · simp [cellB, valB]; omega
  have hpart : partOf ⟨s.values, s.heap.set (n - 1).toNat v⟩ a = some out := by
    refine partOf_some.2 ⟨hvalid, h2, h3, ?_⟩
    have := part_up (s' := s) (s := ⟨s.values, s.heap.set (n - 1).toNat v⟩) h1 rfl hsub (pre := []) List.nodup_nil (by simp) a.atoms [] out List.nodup_nil (by simp) h4
    simpa using this
  refine ⟨hpart, ?_⟩
  rw [Bool.eq_false_iff]
  intro hh
  obtain ⟨out', g1, g2⟩ := holds_iff.1 hh
  rw [hpart] at g1
  obtain rfl := Option.some.inj g1
  have := g2 n (by unfold allocB; rw [hcont, if_pos rfl]; simp; omega)
  have h5 := ((partOf_spec h).2 n this).2
  rw [hfree] at h5; cases h5
theorem keep_part {s : Ste} {a : Asn} {out : List Int} (h : partOf s a = some out) {p : Int → Bool} (hp : ∀ c ∈ out, p c = true) : partOf (keepS s p) a = some out := by
  obtain ⟨h1, h2, h3, h4⟩ := partOf_some.1 h
  refine partOf_some.2 ⟨keep_valid h1 p, h2, h3, ?_⟩
  obtain ⟨out', e, g⟩ := part_down (s' := keepS s p) (s := s) h1 rfl (keep_sub _ _) (pre := []) a.atoms [] out (by simp) h4 fun c hc _ _ => by
    show allocB (keepH s.heap p) c = true
    rw [alloc_keep, hp c hc, ((partOf_spec h).2 c hc).2]; rfl
  rw [List.nil_append] at e
  subst e; exact g
theorem keep_holds {s : Ste} {a : Asn} {out : List Int} (h : partOf s a = some out) {p : Int → Bool} (hp : ∀ c ∈ out, p c = true) (hq : ∀ c, p c = true → addrB c = true → c ∈ out) : holdsF (keepS s p) a = true := by
  refine holds_iff.2 ⟨out, keep_part h hp, fun c hc => ?_⟩
  have hc' : (p c && allocB s.heap c) = true := by rw [← alloc_keep]; exact hc
  rw [Bool.and_eq_true] at hc'
  exact hq c hc'.1 (cont_alloc hc'.2).1
theorem nodup_le : ∀ {l m : List Int}, l.Nodup → (∀ x ∈ l, x ∈ m) → l.length ≤ m.length := by
  intro l
  induction l with
  | nil => intro m _ _; simp
  | cons x l ih =>
    intro m hn h
    rw [List.nodup_cons] at hn
    have hx := h x List.mem_cons_self
    have := ih (m := m.erase x) hn.2 fun y hy => (List.mem_erase_of_ne (fun (e : y = x) => hn.1 (by rw [← e]; exact hy))).2 (h y (List.mem_cons_of_mem _ hy))
    rw [List.length_erase_of_mem hx] at this
    have := List.length_pos_of_mem hx
    rw [List.length_cons]
    omega
theorem nodup_all : ∀ {l m : List Int}, l.Nodup → (∀ x ∈ l, x ∈ m) → m.length ≤ l.length → ∀ y ∈ m, y ∈ l := by
  intro l
  induction l with
  | nil => intro m _ _ h y hy; have := List.length_pos_of_mem hy; simp at h; rw [h] at this; simp at this
  | cons x l ih =>
    intro m hn h hl y hy
    rw [List.nodup_cons] at hn
    have hx := h x List.mem_cons_self
    by_cases e : y = x
    · rw [e]; exact List.mem_cons_self
    · refine List.mem_cons_of_mem _ (ih (m := m.erase x) hn.2 (fun z hz => (List.mem_erase_of_ne (fun (e : z = x) => hn.1 (by rw [← e]; exact hz))).2 (h z (List.mem_cons_of_mem _ hz))) ?_ y ((List.mem_erase_of_ne e).2 hy))
      rw [List.length_erase_of_mem hx]
      rw [List.length_cons] at hl
      omega
theorem holds_len {s : Ste} {a : Asn} {out : List Int} (h : partOf s a = some out) : holdsF s a = decide ((cellsL (bitsOf out) 8).length = (usedL s.heap 8).length) := by
  have hsp := partOf_spec h
  have hm := fun x => cells_mem (fun c hc => (hsp.2 c hc).1) (x := x)
  have hu : (usedL s.heap 8).Nodup := by
    unfold usedL
    unfold List.Nodup
    rw [List.pairwise_map]
    refine List.Pairwise.imp (R := fun a b => a < b) (fun h e => by omega) ?_
    exact (List.pairwise_lt_range' (s := 1) (n := 8)).filter _
  have hsub : ∀ x ∈ cellsL (bitsOf out) 8, x ∈ usedL s.heap 8 := fun x hx => by
    have hx' := (hm x).1 hx
    have h4 := (hsp.2 x hx').1
    simp only [addrB, decide_eq_true_eq] at h4
    exact (usedL_mem _ _ _).2 ⟨by omega, by omega, (hsp.2 x hx').2⟩
  rw [Bool.eq_iff_iff, decide_eq_true_eq, holds_iff]
  constructor
  · rintro ⟨out', g1, g2⟩
    rw [h] at g1
    obtain rfl := Option.some.inj g1
    have hsub2 : ∀ x ∈ usedL s.heap 8, x ∈ cellsL (bitsOf out) 8 := fun x hx => (hm x).2 (g2 x ((usedL_mem _ _ _).1 hx).2.2)
    exact Nat.le_antisymm (nodup_le (cellsL_nodup _) hsub) (nodup_le hu hsub2)
  · intro e
    refine ⟨out, h, fun c hc => ?_⟩
    have h4 := (cont_alloc hc).1
    simp only [addrB, decide_eq_true_eq] at h4
    exact (hm c).1 (nodup_all (cellsL_nodup _) hsub (by omega) c ((usedL_mem _ _ _).2 ⟨by omega, by omega, hc⟩))
theorem facts_star {a b : Asn} {vs : List Int} (hf : factsValid (a.facts ++ b.facts) = true) (ha : factsValid a.facts = true) (hb : factsValid b.facts = true) : factsHold (a.facts ++ b.facts) vs = (factsHold a.facts vs && factsHold b.facts vs) := by
  unfold factsHold
  rw [hf, ha, hb, List.all_append]
  cases decide (vs.length = 8) <;> cases a.facts.all (Fct.holds vs) <;> simp
theorem Asn.valid_facts {a : Asn} (h : a.valid = true) : factsValid a.facts = true := by
  simp only [Asn.valid, Bool.and_eq_true] at h; exact h.1
theorem star_none {s : Ste} {a b c : Asn} (hc : starF a b = some c) (h : partOf s a = none) : holdsF s c = false := by
  rw [Bool.eq_false_iff]
  intro hh
  obtain ⟨out, g1, -⟩ := holds_iff.1 hh
  obtain ⟨h1, h2, h3, h4⟩ := partOf_some.1 g1
  unfold starF at hc
  split at hc
  · rename_i hv
    obtain rfl := Option.some.inj hc
    simp only [Bool.and_eq_true] at hv
    have hfs : factsHold (a.facts ++ b.facts) s.values = true := h3
    rw [facts_star (Asn.valid_facts hv.2) (Asn.valid_facts hv.1.1) (Asn.valid_facts hv.1.2), Bool.and_eq_true] at hfs
    have h5 : partAtoms s [] (a.atoms ++ b.atoms) = some out := h4
    rw [partAtoms_append, Option.bind_eq_some_iff] at h5
    obtain ⟨o, h6, -⟩ := h5
    have := partOf_some.2 ⟨h1, hv.1.1, hfs.1, h6⟩
    rw [h] at this; cases this
  · cases hc
theorem star_law {s : Ste} {a b c : Asn} (hc : starF a b = some c) {out : List Int} (h : partOf s a = some out) {p : Int → Bool} (hp : ∀ x, addrB x = true → (p x = true ↔ x ∉ out)) : holdsF s c = holdsF (keepS s p) b := by
  unfold starF at hc
  split at hc
  case isFalse => cases hc
  rename_i hv
  obtain rfl := Option.some.inj hc
  simp only [Bool.and_eq_true] at hv
  obtain ⟨h1, h2, h3, h4⟩ := partOf_some.1 h
  have hsp := partOf_spec h
  have hfs := facts_star (vs := s.values) (Asn.valid_facts hv.2) (Asn.valid_facts hv.1.1) (Asn.valid_facts hv.1.2)
  rw [h3, Bool.true_and] at hfs
  have happ : partAtoms s [] (a.atoms ++ b.atoms) = partAtoms s out b.atoms := by rw [partAtoms_append, h4]; rfl
  rw [Bool.eq_iff_iff, holds_iff, holds_iff]
  constructor
  · rintro ⟨o, g1, g2⟩
    obtain ⟨-, -, g3, g4⟩ := partOf_some.1 g1
    have g3' : factsHold (a.facts ++ b.facts) s.values = true := g3
    have g4' : partAtoms s [] (a.atoms ++ b.atoms) = some o := g4
    rw [happ] at g4'
    rw [hfs] at g3'
    have hall := partOf_spec g1
    obtain ⟨o', e, g5⟩ := part_down (s' := keepS s p) (s := s) h1 rfl (keep_sub _ _) (pre := out) b.atoms [] o (by simpa using hsp.1) (by simpa using g4') fun x hx hxo _ => by
      show allocB (keepH s.heap p) x = true
      have := hall.2 x hx
      rw [alloc_keep, (hp x this.1).2 hxo, this.2]; rfl
    refine ⟨o', partOf_some.2 ⟨keep_valid h1 p, hv.1.2, g3', g5⟩, fun x hx => ?_⟩
    have hx' : (p x && allocB s.heap x) = true := by rw [← alloc_keep]; exact hx
    rw [Bool.and_eq_true] at hx'
    have h6 := g2 x hx'.2
    rw [e] at h6
    rcases List.mem_append.1 h6 with h6 | h6
    · exact absurd h6 ((hp x (cont_alloc hx'.2).1).1 hx'.1)
    · exact h6
  · rintro ⟨o, g1, g2⟩
    obtain ⟨-, -, g3, g4⟩ := partOf_some.1 g1
    have hup := part_up (s' := keepS s p) (s := s) (keep_valid h1 p) rfl (keep_sub _ _) hsp.1 (fun x hx => by
      show allocB (keepH s.heap p) x = false
      rw [alloc_keep]
      have := hp x (hsp.2 x hx).1
      cases hpx : p x
      · rfl
      · exact absurd hx (this.1 hpx)) b.atoms [] o List.nodup_nil (by simp) g4
    rw [List.append_nil, ← happ] at hup
    refine ⟨out ++ o, partOf_some.2 ⟨h1, hv.2, ?_, hup⟩, fun x hx => ?_⟩
    · show factsHold (a.facts ++ b.facts) s.values = true
      rw [hfs]; exact g3
    · by_cases hxo : x ∈ out
      · exact List.mem_append_left _ hxo
      · refine List.mem_append_right _ (g2 x ?_)
        show allocB (keepH s.heap p) x = true
        rw [alloc_keep, (hp x (cont_alloc hx).1).2 hxo, hx]; rfl
end Go.Proofs.Yteogcababfenfaa
