/- The cells that an assertion describes: in a larger state and in a smaller one, and those of a conjunction. Plain; no program. -/
import Derived.Test.YtmjgcdolnkdfoaaCells
import Derived.Test.YtmjgcdolnkdfoaaJoin
import Derived.Test.YtmjgcdolnkdfoaaModel
import Derived.Test.YtmjgcdolnkdfoaaSeq
import Derived.Test.YtmjgcdolnkdfoaaTerm
import Derived.Test.YtmjgcdolnkdfoaaAppX
set_option linter.unusedSimpArgs false
set_option linter.unusedVariables false
namespace Go.Proofs.Ytmjgcdolnkdfoaa
open Go Go.RowKit

theorem addAll_spec : ∀ (cs seen out : List Int), addAll seen cs = some out → seen.Nodup → out.Nodup := by
  intro cs
  induction cs with
  | nil => intro seen out h hn; simp only [addAll, Option.some.injEq] at h; rw [← h]; exact hn
  | cons c cs ih =>
    intro seen out h hn
    simp only [addAll] at h
    split at h
    · cases h
    · rename_i hc
      refine ih _ _ h ?_
      rw [List.nodup_append]
      exact ⟨hn, by simp, fun x hx y hy e => by rw [List.mem_singleton] at hy; exact hc (by rw [← hy, ← e]; exact hx)⟩
theorem addAll_some : ∀ (cs seen : List Int), (seen ++ cs).Nodup → addAll seen cs = some (seen ++ cs) := by
  intro cs
  induction cs with
  | nil => intro seen _; simp [addAll]
  | cons c cs ih =>
    intro seen h
    simp only [addAll]
    rw [if_neg]
    · rw [ih _ (by simpa using h)]; simp
    · intro hc
      rw [List.nodup_append] at h
      exact h.2.2 c hc c List.mem_cons_self rfl
/-- what a part adds: allocated addresses, each once -/
theorem partAtoms_spec {s : Ste} (hs : s.valid = true) : ∀ (xs : List Atm) (seen out : List Int), partAtoms s seen xs = some out → seen.Nodup → out.Nodup ∧ ∃ new, out = seen ++ new ∧ ∀ c ∈ new, addrB c = true ∧ allocB s.heap c = true := by
  intro xs
  induction xs with
  | nil => intro seen out h hn; simp only [partAtoms, Option.some.injEq] at h; subst h; exact ⟨hn, [], by simp, by simp⟩
  | cons x xs ih =>
    intro seen out h hn
    simp only [partAtoms, Option.bind_eq_some_iff] at h
    obtain ⟨cs, h1, seen', h2, h3⟩ := h
    have hn' := addAll_spec _ _ _ h2 hn
    obtain ⟨g1, new, g2, g3⟩ := ih _ _ h3 hn'
    have e := addAll_mem _ _ _ h2
    refine ⟨g1, cs ++ new, by rw [g2, e, List.append_assoc], fun c hc => ?_⟩
    rcases List.mem_append.1 hc with h | h
    · exact (atomCells_addr hs h1).2 c h
    · exact g3 c h

/-- the cells of h' lie in h as they are -/
def Sub (h' h : List Int) : Prop := ∀ x, allocB h' x = true → allocB h x = true ∧ cont h x = cont h' x
theorem walk_up {h' h : List Int} (H : Sub h' h) : ∀ (n : Nat) (x to : Int) (cs : List Int), walkF h' n x to = some cs → walkF h n x to = some cs := by
  intro n
  induction n with
  | zero => intro x to cs hw; exact hw
  | succ n ih =>
    intro x to cs hw
    simp only [walkF] at hw ⊢
    split at hw
    · rename_i e; rw [if_pos e]; exact hw
    · rename_i e
      rw [if_neg e]
      split at hw
      · rename_i ha
        obtain ⟨g1, g2⟩ := H x ha
        rw [if_pos g1, g2]
        obtain ⟨ds, hd, rfl⟩ := Option.map_eq_some_iff.1 hw
        rw [ih _ _ _ hd]; rfl
      · cases hw
theorem walk_down {h' h : List Int} (H : Sub h' h) : ∀ (n : Nat) (x to : Int) (cs : List Int), walkF h n x to = some cs → (∀ c ∈ cs, allocB h' c = true) → walkF h' n x to = some cs := by
  intro n
  induction n with
  | zero => intro x to cs hw _; exact hw
  | succ n ih =>
    intro x to cs hw hc
    simp only [walkF] at hw ⊢
    split at hw
    · rename_i e; rw [if_pos e]; exact hw
    · rename_i e
      rw [if_neg e]
      split at hw
      · obtain ⟨ds, hd, rfl⟩ := Option.map_eq_some_iff.1 hw
        have ha := hc x List.mem_cons_self
        rw [if_pos ha, ← (H x ha).2, ih _ _ _ hd fun c h => hc c (List.mem_cons_of_mem _ h)]; rfl
      · cases hw
theorem tval_val {s : Ste} (hs : s.valid = true) (t : Int) : 0 ≤ tval s.values t := by
  have hv : s.values.all valB = true := by simp only [Ste.valid, Bool.and_eq_true] at hs; exact hs.2.1
  exact (tval_le hv t).1
theorem atom_up {s' s : Ste} (hs : s'.valid = true) (hv : s'.values = s.values) (H : Sub s'.heap s.heap) {x : Atm} {cs : List Int} (h : atomCells s' x = some cs) : atomCells s x = some cs := by
  unfold atomCells at h ⊢
  rw [← hv]
  split at h
  · rename_i hk; rw [if_pos hk]; exact walk_up H _ _ _ _ h
  · rename_i hk
    rw [if_neg hk]
    split at h
    · rename_i hc
      have ha : allocB s'.heap (tval s'.values x.a) = true := by simp only [allocB, decide_eq_true_eq]; rw [hc]; exact tval_val hs _
      rw [if_pos (by rw [(H _ ha).2]; exact hc)]; exact h
    · cases h
theorem atom_down {s' s : Ste} (hv : s'.values = s.values) (H : Sub s'.heap s.heap) {x : Atm} {cs : List Int} (h : atomCells s x = some cs) (hc : ∀ c ∈ cs, allocB s'.heap c = true) : atomCells s' x = some cs := by
  unfold atomCells at h ⊢
  rw [hv]
  split at h
  · rename_i hk; rw [if_pos hk]; exact walk_down H _ _ _ _ h hc
  · rename_i hk
    rw [if_neg hk]
    split at h
    · rename_i hcc
      obtain rfl := Option.some.inj h
      have ha := hc _ List.mem_cons_self
      rw [if_pos (by rw [← (H _ ha).2]; exact hcc)]
    · cases h
theorem part_up {s' s : Ste} (hs : s'.valid = true) (hv : s'.values = s.values) (H : Sub s'.heap s.heap) {pre : List Int} (hp : pre.Nodup) (hd : ∀ c ∈ pre, allocB s'.heap c = false) :
    ∀ (xs : List Atm) (seen out : List Int), seen.Nodup → (∀ c ∈ seen, allocB s'.heap c = true) → partAtoms s' seen xs = some out → partAtoms s (pre ++ seen) xs = some (pre ++ out) := by
  intro xs
  induction xs with
  | nil => intro seen out _ _ h; simp only [partAtoms, Option.some.injEq] at h; subst h; rfl
  | cons x xs ih =>
    intro seen out hn ha h
    simp only [partAtoms, Option.bind_eq_some_iff] at h ⊢
    obtain ⟨cs, h1, seen', h2, h3⟩ := h
    have e := addAll_mem _ _ _ h2
    have hn' := addAll_spec _ _ _ h2 hn
    have ha' : ∀ c ∈ seen', allocB s'.heap c = true := fun c hc => by
      rw [e] at hc
      rcases List.mem_append.1 hc with h | h
      · exact ha c h
      · exact ((atomCells_addr hs h1).2 c h).2
    refine ⟨cs, atom_up hs hv H h1, pre ++ seen', ?_, ih _ _ hn' ha' h3⟩
    rw [e, ← List.append_assoc]
    apply addAll_some
    rw [List.append_assoc, ← e, List.nodup_append]
    refine ⟨hp, hn', fun x hx y hy exy => ?_⟩
    have h4 := hd x hx
    rw [exy, ha' y hy] at h4
    cases h4
theorem part_down {s' s : Ste} (hs : s.valid = true) (hv : s'.values = s.values) (H : Sub s'.heap s.heap) {pre : List Int} :
    ∀ (xs : List Atm) (seen out : List Int), (pre ++ seen).Nodup → partAtoms s (pre ++ seen) xs = some out → (∀ c ∈ out, c ∉ pre → c ∉ seen → allocB s'.heap c = true) → ∃ out', out = pre ++ out' ∧ partAtoms s' seen xs = some out' := by
  intro xs
  induction xs with
  | nil => intro seen out _ h _; simp only [partAtoms, Option.some.injEq] at h; exact ⟨seen, h.symm, rfl⟩
  | cons x xs ih =>
    intro seen out hn h ha
    simp only [partAtoms, Option.bind_eq_some_iff] at h ⊢
    obtain ⟨cs, h1, seen', h2, h3⟩ := h
    have e := addAll_mem _ _ _ h2
    have hn' := addAll_spec _ _ _ h2 hn
    rw [e, List.append_assoc] at h3 hn'
    obtain ⟨g1, new, g2, g3⟩ := partAtoms_spec hs _ _ _ h3 hn'
    have hsub : ∀ c ∈ cs, c ∈ out := fun c hc => by rw [g2]; simp [hc]
    have hcs : ∀ c ∈ cs, c ∉ pre ∧ c ∉ seen := fun c hc => by
      constructor
      · intro hp
        rw [List.nodup_append] at hn'
        exact hn'.2.2 c hp c (List.mem_append_right _ hc) rfl
      · intro hp
        rw [← List.append_assoc, List.nodup_append] at hn'
        exact hn'.2.2 c (List.mem_append_right _ hp) c hc rfl
    obtain ⟨out', g4, g5⟩ := ih _ _ hn' h3 fun c hc h1 h2 => ha c hc h1 fun h => h2 (List.mem_append_left _ h)
    refine ⟨out', g4, cs, atom_down hv H h1 fun c hc => ha c (hsub c hc) (hcs c hc).1 (hcs c hc).2, seen ++ cs, ?_, g5⟩
    apply addAll_some
    rw [List.nodup_append] at hn'
    exact hn'.2.1
theorem partAtoms_append (s : Ste) (ys : List Atm) : ∀ (xs : List Atm) (seen : List Int), partAtoms s seen (xs ++ ys) = (partAtoms s seen xs).bind fun out => partAtoms s out ys := by
  intro xs
  induction xs with
  | nil => intro seen; rfl
  | cons x xs ih =>
    intro seen
    simp only [List.cons_append, partAtoms]
    cases atomCells s x with
    | none => rfl
    | some cs =>
      simp only [Option.bind_some]
      cases addAll seen cs with
      | none => rfl
      | some seen' => exact ih seen'

/-! states -/
/-- part of a valid assertion whose facts hold -/
theorem partOf_some {s : Ste} {a : Asn} {out : List Int} : partOf s a = some out ↔ s.valid = true ∧ a.valid = true ∧ factsHold a.facts s.values = true ∧ partAtoms s [] a.atoms = some out := by
  unfold partOf
  split
  · rename_i h
    simp only [Bool.and_eq_true] at h
    exact ⟨fun e => ⟨h.1.1, h.1.2, h.2, e⟩, fun e => e.2.2.2⟩
  · rename_i h
    constructor
    · intro e; cases e
    · rintro ⟨h1, h2, h3, -⟩
      exact absurd (by rw [h1, h2, h3]; rfl) h
theorem partOf_spec {s : Ste} {a : Asn} {out : List Int} (h : partOf s a = some out) : out.Nodup ∧ ∀ c ∈ out, addrB c = true ∧ allocB s.heap c = true := by
  obtain ⟨h1, -, -, h4⟩ := partOf_some.1 h
  obtain ⟨g1, new, g2, g3⟩ := partAtoms_spec h1 _ _ _ h4 List.nodup_nil
  rw [List.nil_append] at g2
  subst g2
  exact ⟨g1, g3⟩
theorem holds_iff {s : Ste} {a : Asn} : holdsF s a = true ↔ ∃ out, partOf s a = some out ∧ ∀ c, allocB s.heap c = true → c ∈ out := by
  unfold holdsF
  cases h : partOf s a with
  | none => simp
  | some out =>
    have hsp := partOf_spec h
    have h1 : ∀ x ∈ out, 0 ≤ x := fun x hx => by have := (hsp.2 x hx).1; simp [addrB] at this; omega
    have h2 : ∀ x ∈ usedL s.heap 8, 0 ≤ x := fun x hx => by have := (usedL_mem _ _ _).1 hx; omega
    simp only [Option.isSome_some, Option.getD_some, Bool.true_and, beq_iff_eq, Int.natCast_inj, Option.some.injEq, exists_eq_left']
    rw [bitsOf_eq h1 h2]
    constructor
    · intro h3 c hc
      have := (cont_alloc hc).1
      simp [addrB] at this
      exact (h3 c).2 ((usedL_mem _ _ _).2 ⟨by omega, by omega, hc⟩)
    · intro h3 x
      rw [usedL_mem]
      constructor
      · intro hx
        have := hsp.2 x hx
        have h4 := this.1
        simp [addrB] at h4
        exact ⟨by omega, by omega, this.2⟩
      · intro hx
        exact h3 x hx.2.2
theorem cellsL_mem {S : Nat} {x : Int} : x ∈ cellsL S 8 ↔ 1 ≤ x ∧ x ≤ 8 ∧ S.testBit x.toNat = true := by
  unfold cellsL
  simp only [List.mem_map, List.mem_filter, List.mem_range'_1]
  constructor
  · rintro ⟨n, ⟨h1, h2⟩, rfl⟩; exact ⟨by omega, by omega, h2⟩
  · rintro ⟨h1, h2, h3⟩
    obtain ⟨n, rfl⟩ := Int.eq_ofNat_of_zero_le (show 0 ≤ x by omega)
    exact ⟨n, ⟨by omega, h3⟩, rfl⟩
theorem cells_mem {out : List Int} (h : ∀ c ∈ out, addrB c = true) {x : Int} : x ∈ cellsL (bitsOf out) 8 ↔ x ∈ out := by
  have h1 : ∀ c ∈ out, 1 ≤ c ∧ c ≤ 8 := fun c hc => by have := h c hc; simpa [addrB] using this
  rw [cellsL_mem, testBit_bitsOf fun c hc => by have := h1 c hc; omega]
  constructor
  · rintro ⟨g1, g2, g3⟩
    rw [decide_eq_true_eq, Int.toNat_of_nonneg (by omega)] at g3
    exact g3
  · intro hx
    have := h1 x hx
    exact ⟨this.1, this.2, by rw [decide_eq_true_eq, Int.toNat_of_nonneg (by omega)]; exact hx⟩
theorem cellsL_nodup (S : Nat) : (cellsL S 8).Nodup := by
  unfold cellsL
  unfold List.Nodup
  rw [List.pairwise_map]
  refine List.Pairwise.imp (R := fun a b => a < b) (fun h e => by omega) ?_
  exact (List.pairwise_lt_range' (s := 1) (n := 8)).filter _

/-- a state with some cells alone -/
def keepH (h : List Int) (p : Int → Bool) : List Int := (List.range' 1 8).map fun n : Nat => if p (n : Int) then cont h n else -1
def keepS (s : Ste) (p : Int → Bool) : Ste := ⟨s.values, keepH s.heap p⟩
theorem cont_keep {h : List Int} {p : Int → Bool} {x : Int} : cont (keepH h p) x = if p x then cont h x else -1 := by
  unfold cont
  by_cases ha : addrB x = true
  · rw [if_pos ha, if_pos ha]
    have ha' := ha
    simp only [addrB, decide_eq_true_eq] at ha'
    unfold keepH
    rw [List.getElem?_map, List.getElem?_range' (by omega)]
    have e : ((1 + 1 * (x - 1).toNat : Nat) : Int) = x := by omega
    simp only [Option.map_some, Option.getD_some, e]
    unfold cont
    rw [if_pos ha]
  · rw [if_neg ha, if_neg ha]
    split <;> rfl
theorem alloc_keep {h : List Int} {p : Int → Bool} {x : Int} : allocB (keepH h p) x = (p x && allocB h x) := by
  unfold allocB
  rw [cont_keep]
  cases p x <;> simp
theorem keep_sub (h : List Int) (p : Int → Bool) : Sub (keepH h p) h := by
  intro x hx
  rw [alloc_keep, Bool.and_eq_true] at hx
  exact ⟨hx.2, by rw [cont_keep, if_pos hx.1]⟩
theorem keep_valid {s : Ste} (hs : s.valid = true) (p : Int → Bool) : (keepS s p).valid = true := by
  have hs' := hs
  simp only [Ste.valid, Bool.and_eq_true, decide_eq_true_eq] at hs ⊢
  refine ⟨⟨hs.1.1, by simp [keepS, keepH]⟩, hs.2.1, ?_⟩
  rw [List.all_eq_true]
  intro x hx
  obtain ⟨n, hn, rfl⟩ := List.mem_map.1 hx
  split
  · have := cont_le hs.2.2 (n : Int)
    simp [cellB, valB]; omega
  · simp [cellB]

/-! the laws -/
theorem more_law {s : Ste} {a : Asn} {out : List Int} (h : partOf s a = some out) {n v : Int} (hn : addrB n = true) (hfree : allocB s.heap n = false) (hv : 0 ≤ v ∧ v ≤ 8) :
    partOf ⟨s.values, s.heap.set (n - 1).toNat v⟩ a = some out ∧ holdsF ⟨s.values, s.heap.set (n - 1).toNat v⟩ a = false := by
  obtain ⟨h1, h2, h3, h4⟩ := partOf_some.1 h
  have hlen := (Ste.valid_len h1).2
  have hn' := hn
  simp only [addrB, decide_eq_true_eq] at hn'
  have hcont : ∀ x, cont (s.heap.set (n - 1).toNat v) x = if x = n then v else cont s.heap x := by
    intro x
    unfold cont
    by_cases hx : addrB x = true
    · rw [if_pos hx]
      simp only [addrB, decide_eq_true_eq] at hx
      by_cases e : x = n
      · subst e
        rw [if_pos rfl, List.getElem?_set_self (by omega)]; rfl
      · rw [if_neg e, List.getElem?_set_ne (by omega), if_pos (by simp only [addrB, decide_eq_true_eq]; exact hx)]
    · rw [if_neg hx, if_neg hx, if_neg (fun e => hx (by rw [e]; exact hn))]
  have hsub : Sub s.heap (s.heap.set (n - 1).toNat v) := by
    intro x hx
    have hne : x ≠ n := fun e => by rw [e, hfree] at hx; cases hx
    have hc := hcont x
    rw [if_neg hne] at hc
    exact ⟨by unfold allocB at hx ⊢; rw [hc]; exact hx, hc⟩
  have hvalid : (⟨s.values, s.heap.set (n - 1).toNat v⟩ : Ste).valid = true := by
    simp only [Ste.valid, Bool.and_eq_true, decide_eq_true_eq, List.length_set] at h1 ⊢
    refine ⟨h1.1, h1.2.1, ?_⟩
    rw [List.all_eq_true]
    intro x hx
    rcases List.mem_or_eq_of_mem_set hx with hx | rfl
    · exact List.all_eq_true.1 h1.2.2 x hx
    · simp [cellB, valB]; omega
  have hpart : partOf ⟨s.values, s.heap.set (n - 1).toNat v⟩ a = some out := by
    refine partOf_some.2 ⟨hvalid, h2, h3, ?_⟩
    have := part_up (s' := s) (s := ⟨s.values, s.heap.set (n - 1).toNat v⟩) h1 rfl hsub (pre := []) List.nodup_nil (by simp) a.atoms [] out List.nodup_nil (by simp) h4
    simpa using this
  refine ⟨hpart, ?_⟩
  rw [Bool.eq_false_iff]
  intro hh
  obtain ⟨out', g1, g2⟩ := holds_iff.1 hh
  rw [hpart] at g1
  obtain rfl := Option.some.inj g1
  have := g2 n (by unfold allocB; rw [hcont, if_pos rfl]; simp; omega)
  have h5 := ((partOf_spec h).2 n this).2
  rw [hfree] at h5; cases h5
theorem keep_part {s : Ste} {a : Asn} {out : List Int} (h : partOf s a = some out) {p : Int → Bool} (hp : ∀ c ∈ out, p c = true) : partOf (keepS s p) a = some out := by
  obtain ⟨h1, h2, h3, h4⟩ := partOf_some.1 h
  refine partOf_some.2 ⟨keep_valid h1 p, h2, h3, ?_⟩
  obtain ⟨out', e, g⟩ := part_down (s' := keepS s p) (s := s) h1 rfl (keep_sub _ _) (pre := []) a.atoms [] out (by simp) h4 fun c hc _ _ => by
    show allocB (keepH s.heap p) c = true
    rw [alloc_keep, hp c hc, ((partOf_spec h).2 c hc).2]; rfl
  rw [List.nil_append] at e
  subst e; exact g
theorem keep_holds {s : Ste} {a : Asn} {out : List Int} (h : partOf s a = some out) {p : Int → Bool} (hp : ∀ c ∈ out, p c = true) (hq : ∀ c, p c = true → addrB c = true → c ∈ out) : holdsF (keepS s p) a = true := by
  refine holds_iff.2 ⟨out, keep_part h hp, fun c hc => ?_⟩
  have hc' : (p c && allocB s.heap c) = true := by rw [← alloc_keep]; exact hc
  rw [Bool.and_eq_true] at hc'
  exact hq c hc'.1 (cont_alloc hc'.2).1
theorem nodup_le : ∀ {l m : List Int}, l.Nodup → (∀ x ∈ l, x ∈ m) → l.length ≤ m.length := by
  intro l
  induction l with
  | nil => intro m _ _; simp
  | cons x l ih =>
    intro m hn h
    rw [List.nodup_cons] at hn
    have hx := h x List.mem_cons_self
    have := ih (m := m.erase x) hn.2 fun y hy => (List.mem_erase_of_ne (fun (e : y = x) => hn.1 (by rw [← e]; exact hy))).2 (h y (List.mem_cons_of_mem _ hy))
    rw [List.length_erase_of_mem hx] at this
    have := List.length_pos_of_mem hx
    rw [List.length_cons]
    omega
theorem nodup_all : ∀ {l m : List Int}, l.Nodup → (∀ x ∈ l, x ∈ m) → m.length ≤ l.length → ∀ y ∈ m, y ∈ l := by
  intro l
  induction l with
  | nil => intro m _ _ h y hy; have := List.length_pos_of_mem hy; simp at h; rw [h] at this; simp at this
  | cons x l ih =>
    intro m hn h hl y hy
    rw [List.nodup_cons] at hn
    have hx := h x List.mem_cons_self
    by_cases e : y = x
    · rw [e]; exact List.mem_cons_self
    · refine List.mem_cons_of_mem _ (ih (m := m.erase x) hn.2 (fun z hz => (List.mem_erase_of_ne (fun (e : z = x) => hn.1 (by rw [← e]; exact hz))).2 (h z (List.mem_cons_of_mem _ hz))) ?_ y ((List.mem_erase_of_ne e).2 hy))
      rw [List.length_erase_of_mem hx]
      rw [List.length_cons] at hl
      omega
theorem holds_len {s : Ste} {a : Asn} {out : List Int} (h : partOf s a = some out) : holdsF s a = decide ((cellsL (bitsOf out) 8).length = (usedL s.heap 8).length) := by
  have hsp := partOf_spec h
  have hm := fun x => cells_mem (fun c hc => (hsp.2 c hc).1) (x := x)
  have hu : (usedL s.heap 8).Nodup := by
    unfold usedL
    unfold List.Nodup
    rw [List.pairwise_map]
    refine List.Pairwise.imp (R := fun a b => a < b) (fun h e => by omega) ?_
    exact (List.pairwise_lt_range' (s := 1) (n := 8)).filter _
  have hsub : ∀ x ∈ cellsL (bitsOf out) 8, x ∈ usedL s.heap 8 := fun x hx => by
    have hx' := (hm x).1 hx
    have h4 := (hsp.2 x hx').1
    simp only [addrB, decide_eq_true_eq] at h4
    exact (usedL_mem _ _ _).2 ⟨by omega, by omega, (hsp.2 x hx').2⟩
  rw [Bool.eq_iff_iff, decide_eq_true_eq, holds_iff]
  constructor
  · rintro ⟨out', g1, g2⟩
    rw [h] at g1
    obtain rfl := Option.some.inj g1
    have hsub2 : ∀ x ∈ usedL s.heap 8, x ∈ cellsL (bitsOf out) 8 := fun x hx => (hm x).2 (g2 x ((usedL_mem _ _ _).1 hx).2.2)
    exact Nat.le_antisymm (nodup_le (cellsL_nodup _) hsub) (nodup_le hu hsub2)
  · intro e
    refine ⟨out, h, fun c hc => ?_⟩
    have h4 := (cont_alloc hc).1
    simp only [addrB, decide_eq_true_eq] at h4
    exact (hm c).1 (nodup_all (cellsL_nodup _) hsub (by omega) c ((usedL_mem _ _ _).2 ⟨by omega, by omega, hc⟩))
theorem facts_star {a b : Asn} {vs : List Int} (hf : factsValid (a.facts ++ b.facts) = true) (ha : factsValid a.facts = true) (hb : factsValid b.facts = true) : factsHold (a.facts ++ b.facts) vs = (factsHold a.facts vs && factsHold b.facts vs) := by
  unfold factsHold
  rw [hf, ha, hb, List.all_append]
  cases decide (vs.length = 8) <;> cases a.facts.all (Fct.holds vs) <;> simp
theorem Asn.valid_facts {a : Asn} (h : a.valid = true) : factsValid a.facts = true := by
  simp only [Asn.valid, Bool.and_eq_true] at h; exact h.1
theorem star_none {s : Ste} {a b c : Asn} (hc : starF a b = some c) (h : partOf s a = none) : holdsF s c = false := by
  rw [Bool.eq_false_iff]
  intro hh
  obtain ⟨out, g1, -⟩ := holds_iff.1 hh
  obtain ⟨h1, h2, h3, h4⟩ := partOf_some.1 g1
  unfold starF at hc
  split at hc
  · rename_i hv
    obtain rfl := Option.some.inj hc
    simp only [Bool.and_eq_true] at hv
    have hfs : factsHold (a.facts ++ b.facts) s.values = true := h3
    rw [facts_star (Asn.valid_facts hv.2) (Asn.valid_facts hv.1.1) (Asn.valid_facts hv.1.2), Bool.and_eq_true] at hfs
    have h5 : partAtoms s [] (a.atoms ++ b.atoms) = some out := h4
    rw [partAtoms_append, Option.bind_eq_some_iff] at h5
    obtain ⟨o, h6, -⟩ := h5
    have := partOf_some.2 ⟨h1, hv.1.1, hfs.1, h6⟩
    rw [h] at this; cases this
  · cases hc
theorem star_law {s : Ste} {a b c : Asn} (hc : starF a b = some c) {out : List Int} (h : partOf s a = some out) {p : Int → Bool} (hp : ∀ x, addrB x = true → (p x = true ↔ x ∉ out)) : holdsF s c = holdsF (keepS s p) b := by
  unfold starF at hc
  split at hc
  case isFalse => cases hc
  rename_i hv
  obtain rfl := Option.some.inj hc
  simp only [Bool.and_eq_true] at hv
  obtain ⟨h1, h2, h3, h4⟩ := partOf_some.1 h
  have hsp := partOf_spec h
  have hfs := facts_star (vs := s.values) (Asn.valid_facts hv.2) (Asn.valid_facts hv.1.1) (Asn.valid_facts hv.1.2)
  rw [h3, Bool.true_and] at hfs
  have happ : partAtoms s [] (a.atoms ++ b.atoms) = partAtoms s out b.atoms := by rw [partAtoms_append, h4]; rfl
  rw [Bool.eq_iff_iff, holds_iff, holds_iff]
  constructor
  · rintro ⟨o, g1, g2⟩
    obtain ⟨-, -, g3, g4⟩ := partOf_some.1 g1
    have g3' : factsHold (a.facts ++ b.facts) s.values = true := g3
    have g4' : partAtoms s [] (a.atoms ++ b.atoms) = some o := g4
    rw [happ] at g4'
    rw [hfs] at g3'
    have hall := partOf_spec g1
    obtain ⟨o', e, g5⟩ := part_down (s' := keepS s p) (s := s) h1 rfl (keep_sub _ _) (pre := out) b.atoms [] o (by simpa using hsp.1) (by simpa using g4') fun x hx hxo _ => by
      show allocB (keepH s.heap p) x = true
      have := hall.2 x hx
      rw [alloc_keep, (hp x this.1).2 hxo, this.2]; rfl
    refine ⟨o', partOf_some.2 ⟨keep_valid h1 p, hv.1.2, g3', g5⟩, fun x hx => ?_⟩
    have hx' : (p x && allocB s.heap x) = true := by rw [← alloc_keep]; exact hx
    rw [Bool.and_eq_true] at hx'
    have h6 := g2 x hx'.2
    rw [e] at h6
    rcases List.mem_append.1 h6 with h6 | h6
    · exact absurd h6 ((hp x (cont_alloc hx'.2).1).1 hx'.1)
    · exact h6
  · rintro ⟨o, g1, g2⟩
    obtain ⟨-, -, g3, g4⟩ := partOf_some.1 g1
    have hup := part_up (s' := keepS s p) (s := s) (keep_valid h1 p) rfl (keep_sub _ _) hsp.1 (fun x hx => by
      show allocB (keepH s.heap p) x = false
      rw [alloc_keep]
      have := hp x (hsp.2 x hx).1
      cases hpx : p x
      · rfl
      · exact absurd hx (this.1 hpx)) b.atoms [] o List.nodup_nil (by simp) g4
    rw [List.append_nil, ← happ] at hup
    refine ⟨out ++ o, partOf_some.2 ⟨h1, hv.2, ?_, hup⟩, fun x hx => ?_⟩
    · show factsHold (a.facts ++ b.facts) s.values = true
      rw [hfs]; exact g3
    · by_cases hxo : x ∈ out
      · exact List.mem_append_left _ hxo
      · refine List.mem_append_right _ (g2 x ?_)
        show allocB (keepH s.heap p) x = true
        rw [alloc_keep, (hp x (cont_alloc hx).1).2 hxo, hx]; rfl
end Go.Proofs.Ytmjgcdolnkdfoaa

/- A state in which a part holds satisfies the assertion; its case. Plain; no program. -/
namespace Go.Proofs.Ytmjgcdolnkdfoaa
open Go Go.RowKit

theorem walk_head (h : List Int) (n : Nat) {x to : Int} {cs : List Int} (hw : walkF h (n + 1) x to = some cs) (hne : x ≠ to) : x ∈ cs := by
  rw [walkF, if_neg hne] at hw
  split at hw
  · obtain ⟨ds, -, rfl⟩ := Option.map_eq_some_iff.1 hw
    exact List.mem_cons_self
  · cases hw
theorem head_cells {s : Ste} (hs : s.valid = true) {x : Atm} {cs : List Int} (hk : x.kind = 1 ∨ x.kind = 2) (h : atomCells s x = some cs) (hf : fillM (tval s.values) x = true) : tval s.values x.a ∈ cs := by
  unfold atomCells at h
  unfold fillM at hf
  split at h
  · rename_i h2
    have hne : tval s.values x.a ≠ tval s.values x.b := by
      intro e
      rw [decide_eq_false (by omega : ¬ x.kind = 1), decide_eq_true e] at hf
      cases hf
    exact walk_head _ 7 h hne
  · split at h
    · obtain rfl := Option.some.inj h
      exact List.mem_cons_self
    · cases h
theorem part_heads {s : Ste} (hs : s.valid = true) : ∀ (xs : List Atm) (seen out : List Int), (∀ x ∈ xs, x.kind = 1 ∨ x.kind = 2) → partAtoms s seen xs = some out → seen.Nodup →
    (∀ x ∈ xs, fillM (tval s.values) x = true → addrB (tval s.values x.a) = true ∧ tval s.values x.a ∉ seen) ∧ ((xs.filter (fillM (tval s.values))).map fun x => tval s.values x.a).Nodup := by
  intro xs
  induction xs with
  | nil => intro seen out _ _ _; exact ⟨fun x hx => (by cases hx), List.nodup_nil⟩
  | cons x xs ih =>
    intro seen out hk h hn
    simp only [partAtoms, Option.bind_eq_some_iff] at h
    obtain ⟨cs, h1, seen', h2, h3⟩ := h
    have hn' := addAll_spec _ _ _ h2 hn
    have e := addAll_mem _ _ _ h2
    obtain ⟨g1, g2⟩ := ih _ _ (fun y hy => hk y (List.mem_cons_of_mem _ hy)) h3 hn'
    have hx := fun hf => head_cells hs (hk x List.mem_cons_self) h1 hf
    have hfirst : fillM (tval s.values) x = true → addrB (tval s.values x.a) = true ∧ tval s.values x.a ∉ seen := fun hf => by
      refine ⟨((atomCells_addr hs h1).2 _ (hx hf)).1, fun hm => ?_⟩
      rw [e, List.nodup_append] at hn'
      exact hn'.2.2 _ hm _ (hx hf) rfl
    refine ⟨fun y hy hf => ?_, ?_⟩
    · rcases List.mem_cons.1 hy with rfl | hy
      · exact hfirst hf
      · have := g1 y hy hf
        exact ⟨this.1, fun hm => this.2 (by rw [e]; exact List.mem_append_left _ hm)⟩
    · cases hf : fillM (tval s.values) x
      · rw [List.filter_cons_of_neg (by simp [hf])]
        exact g2
      · rw [List.filter_cons_of_pos hf, List.map_cons, List.nodup_cons]
        refine ⟨fun hm => ?_, g2⟩
        obtain ⟨y, hy, ey⟩ := List.mem_map.1 hm
        rw [List.mem_filter] at hy
        have := (g1 y hy.1 hy.2).2
        rw [ey, e] at this
        exact this (List.mem_append_right _ (hx hf))
theorem part_sat {s : Ste} {a : Asn} {out : List Int} (h : partOf s a = some out) : Sat (tval s.values) a := by
  obtain ⟨h1, h2, h3, h4⟩ := partOf_some.1 h
  have hk : ∀ x ∈ a.atoms, x.kind = 1 ∨ x.kind = 2 := fun x hx => by
    have hv := h2
    simp only [Asn.valid, Bool.and_eq_true] at hv
    have := List.all_eq_true.1 hv.2.2 x hx
    simp [Atm.valid] at this
    exact this.1.1
  obtain ⟨g1, g2⟩ := part_heads h1 _ _ _ hk h4 List.nodup_nil
  refine ⟨fun f hf => ?_, fun x hx hfi e => ?_, g2⟩
  · simp only [factsHold, Bool.and_eq_true] at h3
    have := List.all_eq_true.1 h3.2 f hf
    unfold Fct.holds at this
    exact eq_of_beq this
  · have := (g1 x hx hfi).1
    have e0 : tval s.values 0 = 0 := rfl
    rw [e, e0] at this
    simp [addrB] at this
/-- the case of a state -/
def caseOfF (s : Ste) (a : Asn) : List Int := canon (tval s.values) (caseS a 0)
def caseOfL (s : Ste) (a : Asn) : List Int := if s.valid && a.valid then caseOfF s a else []
theorem case_of_law {s : Ste} {a : Asn} (h : holdsF s a = true) : s.valid = true ∧ a.valid = true ∧ caseOfF s a ∈ cases a (caseS a 0) ∧ consB a = true := by
  obtain ⟨out, h1, -⟩ := holds_iff.1 h
  have hv := partOf_some.1 h1
  have hs := part_sat h1
  exact ⟨hv.1, hv.2.1, sat_case hv.2.1 (caseS_zero a 0) (caseS_terms hv.2.1 0) hs, consB_iff.2 ⟨hv.2.1, _, hs⟩⟩
/-- the entry of the state's case at j -/
def caseAt (M : Int → Int) (S j : Nat) : Int := if S.testBit j then ((leastM M S j : Nat) : Int) else -1
theorem canon_ext {M : Int → Int} {S : Nat} {d : List Int} (hd : d.length = 9) (h : ∀ j : Nat, j < 9 → cl d j = caseAt M S j) : d = canon M S := by
  apply List.ext_getElem (by rw [hd, canon_length])
  intro j h1 h2
  have e := h j (by omega)
  rw [show caseAt M S j = cl (canon M S) j from (cl_canon (by omega)).symm] at e
  simpa [cl, List.getElem?_eq_getElem h1, List.getElem?_eq_getElem h2] using e
theorem least_is {M : Int → Int} {S k t : Nat} (hk : S.testBit k = true) (ht : S.testBit t = true) (hm : M (k : Int) = M (t : Int)) (hn : ∀ j, j < k → S.testBit j = true → M (j : Int) ≠ M (t : Int)) : leastM M S t = k := by
  have h := least_spec (M := M) ht
  rcases Nat.lt_trichotomy (leastM M S t) k with h1 | h1 | h1
  · exact absurd h.2.2.1 (hn _ h1 h.2.1)
  · exact h1
  · exact absurd hm (h.2.2.2 _ h1 hk)
end Go.Proofs.Ytmjgcdolnkdfoaa

/- Contracts: the case of a state (both). -/
namespace Go.Proofs.Ytmjgcdolnkdfoaa
open Go Go.RowKit Go.Proofs
attribute [local go_sem ↓] Go.wp_at_zero Go.wp_at_succ

theorem mkI9 (w : World) : (Instr.makeSlice 29 (.int .i64 9) (.int .i64 9)).run Try.prog w = .ok (.slice (some ⟨w.heap.size, 0, none⟩) 9 9) (w.alloc (.cells (case9 zeros) tI)) :=
  (mkI 9 (by decide) w).trans (by rw [show (madeCells #[.int .i64 0] (9 * 1)) = case9 zeros from by kernel_rfl])
theorem IntsO.ofCase {w : World} {g base : Nat} {c : List Int} (h : Blk w g tI (case9 c)) (hc : c.length = 9) (hb : base ≤ g) : IntsO w base (.slice (some ⟨g, 0, none⟩) 9 9) c := by
  have hk := h.case hc
  refine ⟨?_, by rw [hc]; decide⟩
  rw [hc]
  exact own_of_blk (n := 9) (cap := 9) hk hb (by simp [encI, hc]) (by intro j hj; simp) (Nat.le_refl _) (by decide) (by simp [encI, hc])
theorem stateV_vals {w : World} {lo hi : Nat} {A1 A2 : Option Addr} {n1 n2 c1 c2 : Nat} {s : Ste} (h : StateV w lo hi (.agg #[.slice A1 n1 c1, .slice A2 n2 c2]) s) : IntsV w lo hi A1 s.values := by
  obtain ⟨B1, d1, B2, d2, he, h1, h2⟩ := h
  injection he with he; injection he with he; injection he with he1 he2
  injection he1 with he1
  subst he1
  exact h1
theorem caseOfL_valid {s : Ste} {a : Asn} (hs : s.valid = true) (ha : a.valid = true) : caseOfL s a = canon (tval s.values) (caseS a 0) := by
  unfold caseOfL; rw [hs, ha]; rfl
theorem caseOfL_bad {s : Ste} {a : Asn} (h : s.valid = false ∨ a.valid = false) : caseOfL s a = [] := by
  unfold caseOfL
  rcases h with h | h <;> rw [h] <;> simp

--@ impl.CaseOf
set_option maxRecDepth 100000 in
set_option maxHeartbeats 3200000 in
theorem c_impl_CaseOf {lo hi lo' hi' : Nat} (v v' : Value) (s : Ste) (a : Asn) (w : World) (h : StateV w lo hi v s) (h' : AsnV w lo' hi' v' a) :
    Calls Try.prog 23 #[v, v'] w fun e w' => ∃ r, e = .returned (.tuple #[r, .bool (s.valid && a.valid)]) ∧ IntsO w' w.heap.size r (caseOfL s a) ∧ Below w.heap.size w w' := by
  have hV := Lib.hid h
  have hV' := Lib.hid h'
  obtain ⟨A1, c1, A2, c2, rfl, -, -⟩ := h
  obtain ⟨A3, c3, A4, c4, rfl, -, -⟩ := h'
  go_enter Try.func23, Try.ntmps23
  have k0 : Blk ((w.alloc (.cells #[.slice A1 s.values.length c1, .slice A2 s.heap.length c2] tSt)).alloc (.cells #[.slice A3 a.facts.length c3, .slice A4 a.atoms.length c4] tAs)) w.heap.size tSt #[.slice A1 s.values.length c1, .slice A2 s.heap.length c2] := (by repeat (first | (with_reducible assumption) | (with_reducible exact Blk.new _ _ _) | ((with_reducible apply Blk.far); (case hp => (first | exact Nat.le_refl _ | (simp; done) | (simp; omega) | (simp only; omega) | omega))) | (with_reducible apply Blk.set_) | ((with_reducible refine Blk.newE ?_); (simp; done)) | (with_reducible apply Blk.alloc) | (with_reducible apply Blk.drew) | (with_reducible apply Blk.drewN)))
  have k1 : Blk ((w.alloc (.cells #[.slice A1 s.values.length c1, .slice A2 s.heap.length c2] tSt)).alloc (.cells #[.slice A3 a.facts.length c3, .slice A4 a.atoms.length c4] tAs)) (w.heap.size + 1) tAs #[.slice A3 a.facts.length c3, .slice A4 a.atoms.length c4] := (by repeat (first | (with_reducible assumption) | (with_reducible exact Blk.new _ _ _) | ((with_reducible apply Blk.far); (case hp => (first | exact Nat.le_refl _ | (simp; done) | (simp; omega) | (simp only; omega) | omega))) | (with_reducible apply Blk.set_) | ((with_reducible refine Blk.newE ?_); (simp; done)) | (with_reducible apply Blk.alloc) | (with_reducible apply Blk.drew) | (with_reducible apply Blk.drewN)))
  go_wp2_with fail
  refine (c_impl_StateValid _ s _ (hV.out.below (by repeat (first | (with_reducible exact Below.refl _ _) | (with_reducible assumption) | (with_reducible apply bbox) | ((with_reducible apply Below.setCell); (case hp => (first | exact Nat.le_refl _ | (simp; done) | (simp; omega) | (simp only; omega) | omega))) | (with_reducible apply Below.drew) | (with_reducible apply below_drewN))))).mono ?_
  rintro e w1 ⟨rfl, hB1⟩
  have hB : Below w.heap.size w w1 := bgo (w := w) (by repeat (first | (with_reducible exact Below.refl _ _) | (with_reducible assumption) | (with_reducible apply bbox) | ((with_reducible apply Below.setCell); (case hp => (first | exact Nat.le_refl _ | (simp; done) | (simp; omega) | (simp only; omega) | omega))) | (with_reducible apply Below.drew) | (with_reducible apply below_drewN))) hB1
  (replace k0 := k0.next hB1; replace qk0 := k0.cell; replace rk0 := k0.frozen; replace lk0 := k0.lt; replace k1 := k1.next hB1; replace qk1 := k1.cell; replace rk1 := k1.frozen; replace lk1 := k1.lt)
  clear hB1
  cases hs : s.valid
  · have E := Lib.hid (caseOfL_bad (a := a) (.inl hs))
    go_wp2_with fail
    go_ret2
    exact ⟨_, by rw [hs]; rfl, by rw [E.out]; exact IntsO.nil _ _, hB⟩
  have HS := Lib.hid hs
  have H8 := Lib.hid (Ste.valid_len hs).1
  have HVV := Lib.hid (stateV_vals hV.out)
  clear hs
  go_wp2_with fail
  refine (c_impl_AssertionValid _ a _ (hV'.out.below hB)).mono ?_
  rintro e w2 ⟨rfl, hB2⟩
  (replace hB := bgo hB hB2; replace k0 := k0.next hB2; replace qk0 := k0.cell; replace rk0 := k0.frozen; replace lk0 := k0.lt; replace k1 := k1.next hB2; replace qk1 := k1.cell; replace rk1 := k1.frozen; replace lk1 := k1.lt)
  clear hB2
  cases ha : a.valid
  · have E := Lib.hid (caseOfL_bad (s := s) (.inr ha))
    go_wp2_with fail
    go_ret2
    exact ⟨_, by rw [HS.out, ha]; rfl, by rw [E.out]; exact IntsO.nil _ _, hB⟩
  have HC := Lib.hid (caseOfL_valid HS.out ha)
  have HAV := Lib.hid ha
  have hT := tset_lt (termsL a)
  have hSlt := tins_lt hT 0
  have hSe : tins (tset (termsL a)) 0 = caseS a 0 := by simp [caseS]
  clear ha
  go_wp2_with fail
  refine (c_impl_termsIn _ a _ (hV'.out.below hB)).mono ?_
  rintro e w3 ⟨rfl, hB3⟩
  (replace hB := bgo hB hB3; replace k0 := k0.next hB3; replace qk0 := k0.cell; replace rk0 := k0.frozen; replace lk0 := k0.lt; replace k1 := k1.next hB3; replace qk1 := k1.cell; replace rk1 := k1.frozen; replace lk1 := k1.lt)
  clear hB3
  go_wp2_with fail
  refine (c_impl_with _ 0 _ hT).mono ?_
  rintro e w4 ⟨rfl, rfl⟩
  rw [← hSe] at HC
  generalize tins (tset (termsL a)) 0 = S at HC hSlt ⊢
  obtain ⟨M, hM⟩ : ∃ M, M = tval s.values := ⟨_, rfl⟩
  have HM := Lib.hid hM
  rw [← hM] at HC
  clear hT hSe hM
  have hmk := mkI9
  go_wp2_with fail
  clear hmk
  have kg : Blk (w3.alloc (.cells (case9 zeros) tI)) w3.heap.size tI (case9 zeros) := (by repeat (first | (with_reducible assumption) | (with_reducible exact Blk.new _ _ _) | ((with_reducible apply Blk.far); (case hp => (first | exact Nat.le_refl _ | (simp; done) | (simp; omega) | (simp only; omega) | omega))) | (with_reducible apply Blk.set_) | ((with_reducible refine Blk.newE ?_); (simp; done)) | (with_reducible apply Blk.alloc) | (with_reducible apply Blk.drew) | (with_reducible apply Blk.drewN)))
  have hgs := hB.size
  have hg1 := k1.lt
  have HB := Lib.hid (Below.alloc hB hgs (.cells (case9 zeros) tI))
  replace k0 := k0.alloc (.cells (case9 zeros) tI)
  clear hB qk0 rk0 lk0 qk1 rk1 lk1 k1
  generalize w3.alloc (.cells (case9 zeros) tI) = W at kg HB k0 ⊢
  have hGB : Hid (w.heap.size ≤ w3.heap.size ∧ w.heap.size ≠ w3.heap.size) := ⟨hgs, by omega⟩
  clear hgs hg1
  generalize w3.heap.size = g at kg hGB ⊢
  go_loopw [24] (fun i wr => ∃ (t : Nat) (d : List Int), t ≤ 9 ∧ i = .int .i64 t ∧ Hid (d.length = 9 ∧ ∀ j : Nat, j < t → cl d j = caseAt M S j) ∧ Blk wr w.heap.size tSt #[.slice A1 s.values.length c1, .slice A2 s.heap.length c2] ∧ Blk wr g tI (case9 d) ∧ Hid (Below w.heap.size w wr)) (fun i _ => 9 - (intOf i).toNat)
  case atStart => exact ⟨0, zeros, by omega, rfl, ⟨rfl, fun j hj => by omega⟩, k0, kg, HB.out⟩
  case round =>
    clear k0 kg HB
    obtain ⟨t, d, ht9, rfl, HD, k0, kg, HB⟩ := hrel
    by_cases ht : t < 9
    · have hti : (t : Int) < 9 := by omega
      have hne := hGB.out.2
      have rg := kg.frozen
      have lg := kg.lt
      have qg : wr.cell? ⟨g, t, none⟩ = some (.int .i64 (cl d t)) := case_cell (kg.case HD.out.1) (by rw [HD.out.1]; omega)
      have kg' := kg.caseSet HD.out.1 t (-1)
      have k0' := k0.far (p := ⟨g, t, none⟩) (by simp only; omega) (.int .i64 (-1))
      have HB' : Hid (Below w.heap.size w (wr.setCell ⟨g, t, none⟩ (.int .i64 (-1)))) := HB.out.setCell (p := ⟨g, t, none⟩) hGB.out.1 _
      have HD' : Hid ((d.set t (-1)).length = 9 ∧ (∀ j : Nat, j < t → cl (d.set t (-1)) j = caseAt M S j) ∧ cl (d.set t (-1)) t = -1) := by
        refine ⟨by simpa using HD.out.1, fun j hj => ?_, by rw [cl_set HD.out.1 ht _ (by omega), if_pos rfl]⟩
        rw [cl_set HD.out.1 ht _ (by omega), if_neg (by omega)]
        exact HD.out.2 j hj
      clear kg k0 hne
      go_wp2_with fail
      clear qg rg lg HB HD
      generalize (wr.setCell ⟨g, t, none⟩ (.int .i64 (-1))) = W3 at kg' k0' HB' ⊢
      generalize d.set t (-1) = d2 at kg' HD'
      go_loopw [9] (fun i wr => ∃ (k : Nat), k ≤ t + 1 ∧ i = .int .i64 k ∧ Blk wr w.heap.size tSt #[.slice A1 s.values.length c1, .slice A2 s.heap.length c2] ∧ Blk wr g tI (case9 d2) ∧ Hid (Below w.heap.size w wr) ∧ Hid (S.testBit t = true → ∀ j, j < k → S.testBit j = true → M (j : Int) ≠ M (t : Int))) (fun i _ => t + 1 - (intOf i).toNat)
      case atStart => exact ⟨0, by omega, rfl, k0', kg', HB'.out, fun _ j hj => by omega⟩
      case round =>
        clear k0' kg' HB'
        obtain ⟨k, hk, rfl, k0', kg', HB', HJ⟩ := hrel
        (replace qk0' := k0'.cell; replace rk0' := k0'.frozen; replace lk0' := k0'.lt)
        by_cases hkt : k ≤ t
        · have hki : (k : Int) ≤ (t : Int) := by omega
          go_wp2_with fail
          refine (c_impl_tHas S (t : Int) _ hSlt).mono ?_
          rintro e w5 ⟨rfl, rfl⟩
          rw [show isTermB (t : Int) = true from isTermB_iff.2 (by omega), Int.toNat_natCast, Bool.true_and]
          cases hbt : S.testBit t
          · have HE : Hid (caseAt M S t = -1) := by show _ = _; unfold caseAt; rw [hbt]; rfl
            clear hbt
            go_wp2_with fail
            go_round
            case rel => exact ⟨t + 1, d2, by omega, by go_num, ⟨HD'.out.1, fun j hj => by
              by_cases e : j = t
              · subst e; rw [HE.out]; exact HD'.out.2.2
              · exact HD'.out.2.1 j (by omega)⟩, k0', kg', HB'.out⟩
            case measure => simp [intOf]; omega
          · have HBT := Lib.hid hbt
            clear hbt
            go_wp2_with fail
            refine wp_region_noPanic ?_
            refine wp_region_held_drew (S := (fun w' => ∀ i, w'.cell? ⟨w.heap.size, i, none⟩ = #[.slice A1 s.values.length c1, .slice A2 s.heap.length c2][i]?)) (by kernel_rfl) (k0'.drew.cell) (fun hHeld => ?_)
            refine wpAnyH_take (i := 0) (v := ?_) rfl (by kernel_rfl) (by kernel_rfl) (by kernel_rfl) (fun _ _ _ h => h) (Or.inl ⟨by rfl, fun w hSw => ?_⟩) hHeld ?_
            rotate_left
            · ((try dsimp only at hSw); go_split_ands; go_simp; (try with_reducible rfl))
            try simp only [Act.put, List.getElem_toArray, List.getElem_cons_zero, List.getElem_cons_succ, List.setIfInBounds_toArray, List.set_cons_zero, List.set_cons_succ]
            refine wpAnyH_take (i := 1) (v := ?_) rfl (by kernel_rfl) (by kernel_rfl) (by kernel_rfl) (fun _ _ _ h => h) (Or.inl ⟨by rfl, fun w hSw => ?_⟩) hHeld ?_
            rotate_left
            · ((try dsimp only at hSw); go_split_ands; go_simp; (try with_reducible rfl))
            try simp only [Act.put, List.getElem_toArray, List.getElem_cons_zero, List.getElem_cons_succ, List.setIfInBounds_toArray, List.set_cons_zero, List.set_cons_succ]
            refine wpAnyH_ready (rs := [2]) (by kernel_rfl) (by simp) ?_
            refine AllReadyH.cons rfl (fun K hK => ?_) AllReadyH.nil
            try simp only [List.getElem_toArray, List.getElem_cons_zero, List.getElem_cons_succ]
            (go_simp; refine (c_impl_tHas S (k : Int) _ hSlt).mono ?_; rintro e w5 ⟨rfl, rfl⟩)
            refine hK.out _ _ (k0'.drew.cell) (fun hHeldN => ?_)
            clear hHeld hK K
            have hHeld := hHeldN
            clear hHeldN
            try simp only [Act.put, List.getElem_toArray, List.getElem_cons_zero, List.getElem_cons_succ, List.setIfInBounds_toArray, List.set_cons_zero, List.set_cons_succ]
            rw [show isTermB (k : Int) = true from isTermB_iff.2 (by omega), Int.toNat_natCast, Bool.true_and]
            cases hbk : S.testBit k
            · have HN : Hid (S.testBit t = true → ∀ j, j < k + 1 → S.testBit j = true → M (j : Int) ≠ M (t : Int)) := fun h j hj hb => by
                by_cases e : j = k
                · subst e; rw [hbk] at hb; cases hb
                · exact HJ.out h j (by omega) hb
              clear hbk
              refine wpAnyH_take (i := 3) (v := ?_) rfl (by kernel_rfl) (by kernel_rfl) (by kernel_rfl) (fun _ _ _ h => h) (Or.inl ⟨by rfl, fun w hSw => ?_⟩) hHeld ?_
              rotate_left
              · ((try dsimp only at hSw); go_split_ands; go_simp; (try with_reducible rfl))
              try simp only [Act.put, List.getElem_toArray, List.getElem_cons_zero, List.getElem_cons_succ, List.setIfInBounds_toArray, List.set_cons_zero, List.set_cons_succ]
              refine wpAnyH_take (i := 4) (v := undef) rfl (by kernel_rfl) (by kernel_rfl) (by kernel_rfl) (fun _ _ _ h => h) (Or.inr ⟨by rfl, rfl⟩) hHeld ?_
              try simp only [Act.put, List.getElem_toArray, List.getElem_cons_zero, List.getElem_cons_succ, List.setIfInBounds_toArray, List.set_cons_zero, List.set_cons_succ]
              refine wpAnyH_take (i := 5) (v := undef) rfl (by kernel_rfl) (by kernel_rfl) (by kernel_rfl) (fun _ _ _ h => h) (Or.inr ⟨by rfl, rfl⟩) hHeld ?_
              try simp only [Act.put, List.getElem_toArray, List.getElem_cons_zero, List.getElem_cons_succ, List.setIfInBounds_toArray, List.set_cons_zero, List.set_cons_succ]
              refine wpAnyH_take (i := 6) (v := undef) rfl (by kernel_rfl) (by kernel_rfl) (by kernel_rfl) (fun _ _ _ h => h) (Or.inr ⟨by rfl, rfl⟩) hHeld ?_
              try simp only [Act.put, List.getElem_toArray, List.getElem_cons_zero, List.getElem_cons_succ, List.setIfInBounds_toArray, List.set_cons_zero, List.set_cons_succ]
              refine wpAnyH_take (i := 7) (v := undef) rfl (by kernel_rfl) (by kernel_rfl) (by kernel_rfl) (fun _ _ _ h => h) (Or.inr ⟨by rfl, rfl⟩) hHeld ?_
              try simp only [Act.put, List.getElem_toArray, List.getElem_cons_zero, List.getElem_cons_succ, List.setIfInBounds_toArray, List.set_cons_zero, List.set_cons_succ]
              refine wpAnyH_take (i := 8) (v := undef) rfl (by kernel_rfl) (by kernel_rfl) (by kernel_rfl) (fun _ _ _ h => h) (Or.inr ⟨by rfl, rfl⟩) hHeld ?_
              try simp only [Act.put, List.getElem_toArray, List.getElem_cons_zero, List.getElem_cons_succ, List.setIfInBounds_toArray, List.set_cons_zero, List.set_cons_succ]
              refine wpAnyH_take (i := 9) (v := undef) rfl (by kernel_rfl) (by kernel_rfl) (by kernel_rfl) (fun _ _ _ h => h) (Or.inr ⟨by rfl, rfl⟩) hHeld ?_
              try simp only [Act.put, List.getElem_toArray, List.getElem_cons_zero, List.getElem_cons_succ, List.setIfInBounds_toArray, List.set_cons_zero, List.set_cons_succ]
              refine wpAnyH_take (i := 10) (v := undef) rfl (by kernel_rfl) (by kernel_rfl) (by kernel_rfl) (fun _ _ _ h => h) (Or.inr ⟨by rfl, rfl⟩) hHeld ?_
              try simp only [Act.put, List.getElem_toArray, List.getElem_cons_zero, List.getElem_cons_succ, List.setIfInBounds_toArray, List.set_cons_zero, List.set_cons_succ]
              refine wpAnyH_take (i := 11) (v := undef) rfl (by kernel_rfl) (by kernel_rfl) (by kernel_rfl) (fun _ _ _ h => h) (Or.inr ⟨by rfl, rfl⟩) hHeld ?_
              try simp only [Act.put, List.getElem_toArray, List.getElem_cons_zero, List.getElem_cons_succ, List.setIfInBounds_toArray, List.set_cons_zero, List.set_cons_succ]
              refine wpAnyH_take (i := 12) (v := undef) rfl (by kernel_rfl) (by kernel_rfl) (by kernel_rfl) (fun _ _ _ h => h) (Or.inr ⟨by rfl, rfl⟩) hHeld ?_
              try simp only [Act.put, List.getElem_toArray, List.getElem_cons_zero, List.getElem_cons_succ, List.setIfInBounds_toArray, List.set_cons_zero, List.set_cons_succ]
              refine wpAnyH_take (i := 13) (v := ?_) rfl (by kernel_rfl) (by kernel_rfl) (by kernel_rfl) (fun _ _ _ h => h) (Or.inl ⟨by rfl, fun w hSw => ?_⟩) hHeld ?_
              rotate_left
              · ((try dsimp only at hSw); go_split_ands; go_simp; (try with_reducible rfl))
              try simp only [Act.put, List.getElem_toArray, List.getElem_cons_zero, List.getElem_cons_succ, List.setIfInBounds_toArray, List.set_cons_zero, List.set_cons_succ]
              refine wpAnyH_done (by kernel_rfl) ?_ _
              refine NoPanic.normal ?_
              go_wp2_with fail
              go_round
              case rel => exact ⟨k + 1, by omega, by go_num, k0'.drew, kg'.drew, HB'.out.drew, HN⟩
              case measure => simp [intOf]; omega
            · have HBK := Lib.hid hbk
              clear hbk
              refine wpAnyH_take (i := 3) (v := ?_) rfl (by kernel_rfl) (by kernel_rfl) (by kernel_rfl) (fun _ _ _ h => h) (Or.inl ⟨by rfl, fun w hSw => ?_⟩) hHeld ?_
              rotate_left
              · ((try dsimp only at hSw); go_split_ands; go_simp; (try with_reducible rfl))
              try simp only [Act.put, List.getElem_toArray, List.getElem_cons_zero, List.getElem_cons_succ, List.setIfInBounds_toArray, List.set_cons_zero, List.set_cons_succ]
              refine wpAnyH_take (i := 4) (v := ?_) rfl (by kernel_rfl) (by kernel_rfl) (by kernel_rfl) (fun _ _ _ h => h) (Or.inl ⟨by rfl, fun w hSw => ?_⟩) hHeld ?_
              rotate_left
              · ((try dsimp only at hSw); go_split_ands; go_simp; (try with_reducible rfl))
              try simp only [Act.put, List.getElem_toArray, List.getElem_cons_zero, List.getElem_cons_succ, List.setIfInBounds_toArray, List.set_cons_zero, List.set_cons_succ]
              refine wpAnyH_take (i := 5) (v := ?_) rfl (by kernel_rfl) (by kernel_rfl) (by kernel_rfl) (fun _ _ _ h => h) (Or.inl ⟨by rfl, fun w hSw => ?_⟩) hHeld ?_
              rotate_left
              · ((try dsimp only at hSw); go_split_ands; go_simp; (try with_reducible rfl))
              try simp only [Act.put, List.getElem_toArray, List.getElem_cons_zero, List.getElem_cons_succ, List.setIfInBounds_toArray, List.set_cons_zero, List.set_cons_succ]
              refine wpAnyH_take (i := 6) (v := ?_) rfl (by kernel_rfl) (by kernel_rfl) (by kernel_rfl) (fun _ _ _ h => h) (Or.inl ⟨by rfl, fun w hSw => ?_⟩) hHeld ?_
              rotate_left
              · ((try dsimp only at hSw); go_split_ands; go_simp; (try with_reducible rfl))
              try simp only [Act.put, List.getElem_toArray, List.getElem_cons_zero, List.getElem_cons_succ, List.setIfInBounds_toArray, List.set_cons_zero, List.set_cons_succ]
              refine wpAnyH_take (i := 8) (v := ?_) rfl (by kernel_rfl) (by kernel_rfl) (by kernel_rfl) (fun _ _ _ h => h) (Or.inl ⟨by rfl, fun w hSw => ?_⟩) hHeld ?_
              rotate_left
              · ((try dsimp only at hSw); go_split_ands; go_simp; (try with_reducible rfl))
              try simp only [Act.put, List.getElem_toArray, List.getElem_cons_zero, List.getElem_cons_succ, List.setIfInBounds_toArray, List.set_cons_zero, List.set_cons_succ]
              refine wpAnyH_take (i := 9) (v := ?_) rfl (by kernel_rfl) (by kernel_rfl) (by kernel_rfl) (fun _ _ _ h => h) (Or.inl ⟨by rfl, fun w hSw => ?_⟩) hHeld ?_
              rotate_left
              · ((try dsimp only at hSw); go_split_ands; go_simp; (try with_reducible rfl))
              try simp only [Act.put, List.getElem_toArray, List.getElem_cons_zero, List.getElem_cons_succ, List.setIfInBounds_toArray, List.set_cons_zero, List.set_cons_succ]
              refine wpAnyH_take (i := 10) (v := ?_) rfl (by kernel_rfl) (by kernel_rfl) (by kernel_rfl) (fun _ _ _ h => h) (Or.inl ⟨by rfl, fun w hSw => ?_⟩) hHeld ?_
              rotate_left
              · ((try dsimp only at hSw); go_split_ands; go_simp; (try with_reducible rfl))
              try simp only [Act.put, List.getElem_toArray, List.getElem_cons_zero, List.getElem_cons_succ, List.setIfInBounds_toArray, List.set_cons_zero, List.set_cons_succ]
              refine wpAnyH_ready (rs := [7]) (by kernel_rfl) (by simp) ?_
              refine AllReadyH.cons rfl (fun K hK => ?_) AllReadyH.nil
              try simp only [List.getElem_toArray, List.getElem_cons_zero, List.getElem_cons_succ]
              (go_simp; refine (c_impl_termValue A1 c1 s.values (k : Int) _ (HVV.out.below HB'.out.drew) (by omega) (by have := H8.out; omega)).mono ?_; rintro e w5 ⟨rfl, rfl⟩)
              refine hK.out _ _ (k0'.drew.cell) (fun hHeldN => ?_)
              clear hHeld hK K
              have hHeld := hHeldN
              clear hHeldN
              try simp only [Act.put, List.getElem_toArray, List.getElem_cons_zero, List.getElem_cons_succ, List.setIfInBounds_toArray, List.set_cons_zero, List.set_cons_succ]
              refine wpAnyH_ready (rs := [11]) (by kernel_rfl) (by simp) ?_
              refine AllReadyH.cons rfl (fun K hK => ?_) AllReadyH.nil
              try simp only [List.getElem_toArray, List.getElem_cons_zero, List.getElem_cons_succ]
              (go_simp; refine (c_impl_termValue A1 c1 s.values (t : Int) _ (HVV.out.below HB'.out.drew) (by omega) (by have := H8.out; omega)).mono ?_; rintro e w5 ⟨rfl, rfl⟩)
              refine hK.out _ _ (k0'.drew.cell) (fun hHeldN => ?_)
              clear hHeld hK K
              have hHeld := hHeldN
              clear hHeldN
              try simp only [Act.put, List.getElem_toArray, List.getElem_cons_zero, List.getElem_cons_succ, List.setIfInBounds_toArray, List.set_cons_zero, List.set_cons_succ]
              rw [← HM.out]
              by_cases hm : M (k : Int) = M (t : Int)
              · have hmb : (M (k : Int) == M (t : Int)) = true := by simpa using hm
                have HE : Hid (caseAt M S t = k) := by show _ = _; unfold caseAt; rw [HBT.out, if_pos rfl, least_is HBK.out HBT.out hm (HJ.out HBT.out)]
                have qg : wr.cell? ⟨g, t, none⟩ = some (.int .i64 (cl d2 t)) := case_cell (kg'.case HD'.out.1) (by rw [HD'.out.1]; omega)
                have rg := kg'.frozen
                have lg := kg'.lt
                have kg2 := kg'.drew.caseSet HD'.out.1 t k
                have hne := hGB.out.2
                have k02 := k0'.drew.far (p := ⟨g, t, none⟩) (by simp only; omega) (.int .i64 k)
                have HB2 : Hid (Below w.heap.size w (wr.drew.setCell ⟨g, t, none⟩ (.int .i64 k))) := HB'.out.drew.setCell (p := ⟨g, t, none⟩) hGB.out.1 _
                clear hm
                refine wpAnyH_take (i := 12) (v := ?_) rfl (by kernel_rfl) (by kernel_rfl) (by kernel_rfl) (fun _ _ _ h => h) (Or.inl ⟨by rfl, fun w hSw => ?_⟩) hHeld ?_
                rotate_left
                · ((try dsimp only at hSw); go_split_ands; go_simp; (try with_reducible rfl))
                try simp only [Act.put, List.getElem_toArray, List.getElem_cons_zero, List.getElem_cons_succ, List.setIfInBounds_toArray, List.set_cons_zero, List.set_cons_succ]
                refine wpAnyH_take (i := 13) (v := ?_) rfl (by kernel_rfl) (by kernel_rfl) (by kernel_rfl) (fun _ _ _ h => h) (Or.inl ⟨by rfl, fun w hSw => ?_⟩) hHeld ?_
                rotate_left
                · ((try dsimp only at hSw); go_split_ands; go_simp; (try with_reducible rfl))
                try simp only [Act.put, List.getElem_toArray, List.getElem_cons_zero, List.getElem_cons_succ, List.setIfInBounds_toArray, List.set_cons_zero, List.set_cons_succ]
                refine wpAnyH_done (by kernel_rfl) ?_ _
                refine NoPanic.normal ?_
                go_wp2_with fail
                go_round
                case rel => exact ⟨t + 1, d2.set t k, by omega, by go_num, ⟨by simpa using HD'.out.1, fun j hj => by
                  rw [cl_set HD'.out.1 ht _ (by omega)]
                  split
                  · rename_i e; rw [show j = t from by omega, HE.out]
                  · exact HD'.out.2.1 j (by omega)⟩, k02, kg2, HB2.out⟩
                case measure => simp [intOf]; omega
              · have hmb : (M (k : Int) == M (t : Int)) = false := by simpa using hm
                have HN : Hid (S.testBit t = true → ∀ j, j < k + 1 → S.testBit j = true → M (j : Int) ≠ M (t : Int)) := fun h j hj hb => by
                  by_cases e : j = k
                  · subst e; exact hm
                  · exact HJ.out h j (by omega) hb
                clear hm
                refine wpAnyH_take (i := 12) (v := ?_) rfl (by kernel_rfl) (by kernel_rfl) (by kernel_rfl) (fun _ _ _ h => h) (Or.inl ⟨by rfl, fun w hSw => ?_⟩) hHeld ?_
                rotate_left
                · ((try dsimp only at hSw); go_split_ands; go_simp; (try with_reducible rfl))
                try simp only [Act.put, List.getElem_toArray, List.getElem_cons_zero, List.getElem_cons_succ, List.setIfInBounds_toArray, List.set_cons_zero, List.set_cons_succ]
                refine wpAnyH_take (i := 13) (v := ?_) rfl (by kernel_rfl) (by kernel_rfl) (by kernel_rfl) (fun _ _ _ h => h) (Or.inl ⟨by rfl, fun w hSw => ?_⟩) hHeld ?_
                rotate_left
                · ((try dsimp only at hSw); go_split_ands; go_simp; (try with_reducible rfl))
                try simp only [Act.put, List.getElem_toArray, List.getElem_cons_zero, List.getElem_cons_succ, List.setIfInBounds_toArray, List.set_cons_zero, List.set_cons_succ]
                refine wpAnyH_done (by kernel_rfl) ?_ _
                refine NoPanic.normal ?_
                go_wp2_with fail
                go_round
                case rel => exact ⟨k + 1, by omega, by go_num, k0'.drew, kg'.drew, HB'.out.drew, HN⟩
                case measure => simp [intOf]; omega
        · obtain rfl : k = t + 1 := by omega
          have hki : ¬ (((t + 1 : Nat) : Int) ≤ (t : Int)) := by omega
          have HE : Hid (caseAt M S t = -1) := by
            show _ = _
            unfold caseAt
            cases hb : S.testBit t
            · rfl
            · exact absurd rfl (HJ.out hb t (by omega) hb)
          go_wp2_with fail
          go_round
          case rel => exact ⟨t + 1, d2, by omega, by go_num, ⟨HD'.out.1, fun j hj => by
            by_cases e : j = t
            · subst e; rw [HE.out]; exact HD'.out.2.2
            · exact HD'.out.2.1 j (by omega)⟩, k0', kg', HB'.out⟩
          case measure => simp [intOf]; omega
    · obtain rfl : t = 9 := by omega
      go_wp2_with fail
      go_ret2
      exact ⟨_, by rw [HS.out, HAV.out]; rfl, by rw [HC.out, ← canon_ext HD.out.1 HD.out.2]; exact IntsO.ofCase kg HD.out.1 hGB.out.1, HB.out⟩
end Go.Proofs.Ytmjgcdolnkdfoaa

/- Contracts: the case of a state (spec). -/
namespace Go.Proofs.Ytmjgcdolnkdfoaa
open Go Go.RowKit Go.Proofs
attribute [local go_sem ↓] Go.wp_at_zero Go.wp_at_succ

--@ spec.CaseOf
theorem BoolsO.readsI {w : World} {base : Nat} {A : Option Addr} {n c : Nat} {fs : List Bool} (h : BoolsO w base (.slice A n c) fs) : BoolsV w base w.heap.size A fs := by
  obtain ⟨A', c', e, h'⟩ := h.reads
  injection e with e1 e2 e3
  subst e1
  exact h'
theorem BoolsO.grownI {w w' : World} {b b2 : Nat} {v v2 : Value} {xs : List Bool} {ys : List Int} (h : BoolsO w b v xs) (h2 : IntsO w b2 v2 ys) (hg : w.grownBy w' v2.ownBlock) : BoolsO w' b v xs := ⟨own_grownO h.1 h2.1 hg (by decide), h.2⟩
def cut (M : Int → Int) (S t : Nat) : List Int := (canon M S).take t
theorem cut_length {M : Int → Int} {S t : Nat} (ht : t ≤ 9) : (cut M S t).length = t := by
  unfold cut; rw [List.length_take, canon_length]; omega
theorem cut_get {M : Int → Int} {S t k : Nat} (hk : k < (cut M S t).length) (hk9 : k < 9) : (cut M S t)[k] = caseAt M S k := by
  simp [cut, canon, caseAt]
theorem canon_take {M : Int → Int} {S t : Nat} (ht : t < 9) : cut M S (t + 1) = cut M S t ++ [caseAt M S t] := by
  unfold cut
  rw [List.take_succ_eq_append_getElem (by rw [canon_length]; exact ht)]
  simp [canon, caseAt]
theorem caseAt_bits {M : Int → Int} {S j : Nat} : caseAt M S j = j → S.testBit j = true ∧ leastM M S j = j := by
  unfold caseAt
  cases h : S.testBit j
  · intro e; simp at e
  · intro e; rw [if_pos rfl] at e; exact ⟨rfl, by omega⟩
set_option maxRecDepth 100000 in
set_option maxHeartbeats 3200000 in
theorem c_spec_CaseOf {lo hi lo' hi' : Nat} (v v' : Value) (s : Ste) (a : Asn) (w : World) (h : StateV w lo hi v s) (h' : AsnV w lo' hi' v' a) :
    Calls Try.prog 24 #[v, v'] w fun e w' => ∃ r, e = .returned (.tuple #[r, .bool (s.valid && a.valid)]) ∧ IntsO w' w.heap.size r (caseOfL s a) ∧ Below w.heap.size w w' := by
  have hV := Lib.hid h
  have hV' := Lib.hid h'
  obtain ⟨A1, c1, A2, c2, rfl, -, -⟩ := h
  obtain ⟨A3, c3, A4, c4, rfl, -, -⟩ := h'
  go_enter Try.func24, Try.ntmps24
  have k0 : Blk ((w.alloc (.cells #[.slice A1 s.values.length c1, .slice A2 s.heap.length c2] tSt)).alloc (.cells #[.slice A3 a.facts.length c3, .slice A4 a.atoms.length c4] tAs)) w.heap.size tSt #[.slice A1 s.values.length c1, .slice A2 s.heap.length c2] := (by repeat (first | (with_reducible assumption) | (with_reducible exact Blk.new _ _ _) | ((with_reducible apply Blk.far); (case hp => (first | exact Nat.le_refl _ | (simp; done) | (simp; omega) | (simp only; omega) | omega))) | (with_reducible apply Blk.set_) | ((with_reducible refine Blk.newE ?_); (simp; done)) | (with_reducible apply Blk.alloc) | (with_reducible apply Blk.drew) | (with_reducible apply Blk.drewN)))
  have k1 : Blk ((w.alloc (.cells #[.slice A1 s.values.length c1, .slice A2 s.heap.length c2] tSt)).alloc (.cells #[.slice A3 a.facts.length c3, .slice A4 a.atoms.length c4] tAs)) (w.heap.size + 1) tAs #[.slice A3 a.facts.length c3, .slice A4 a.atoms.length c4] := (by repeat (first | (with_reducible assumption) | (with_reducible exact Blk.new _ _ _) | ((with_reducible apply Blk.far); (case hp => (first | exact Nat.le_refl _ | (simp; done) | (simp; omega) | (simp only; omega) | omega))) | (with_reducible apply Blk.set_) | ((with_reducible refine Blk.newE ?_); (simp; done)) | (with_reducible apply Blk.alloc) | (with_reducible apply Blk.drew) | (with_reducible apply Blk.drewN)))
  go_wp2_with fail
  refine (c_spec_StateValid _ s _ (hV.out.below (by repeat (first | (with_reducible exact Below.refl _ _) | (with_reducible assumption) | (with_reducible apply bbox) | ((with_reducible apply Below.setCell); (case hp => (first | exact Nat.le_refl _ | (simp; done) | (simp; omega) | (simp only; omega) | omega))) | (with_reducible apply Below.drew) | (with_reducible apply below_drewN))))).mono ?_
  rintro e w1 ⟨rfl, hB1⟩
  have hB : Below w.heap.size w w1 := bgo (w := w) (by repeat (first | (with_reducible exact Below.refl _ _) | (with_reducible assumption) | (with_reducible apply bbox) | ((with_reducible apply Below.setCell); (case hp => (first | exact Nat.le_refl _ | (simp; done) | (simp; omega) | (simp only; omega) | omega))) | (with_reducible apply Below.drew) | (with_reducible apply below_drewN))) hB1
  (replace k0 := k0.next hB1; replace qk0 := k0.cell; replace rk0 := k0.frozen; replace lk0 := k0.lt; replace k1 := k1.next hB1; replace qk1 := k1.cell; replace rk1 := k1.frozen; replace lk1 := k1.lt)
  clear hB1
  cases hs : s.valid
  · have E := Lib.hid (caseOfL_bad (a := a) (.inl hs))
    go_wp2_with fail
    go_ret2
    exact ⟨_, by rw [hs]; rfl, by rw [E.out]; exact (IntsO.empty _ rfl).lower hB.size, hB.alloc hB.size _⟩
  have HS := Lib.hid hs
  have H8 := Lib.hid (Ste.valid_len hs).1
  have HVV := Lib.hid (stateV_vals hV.out)
  clear hs
  go_wp2_with fail
  refine (c_spec_AssertionValid _ a _ (hV'.out.below hB)).mono ?_
  rintro e w2 ⟨rfl, hB2⟩
  (replace hB := bgo hB hB2; replace k0 := k0.next hB2; replace qk0 := k0.cell; replace rk0 := k0.frozen; replace lk0 := k0.lt; replace k1 := k1.next hB2; replace qk1 := k1.cell; replace rk1 := k1.frozen; replace lk1 := k1.lt)
  clear hB2
  cases ha : a.valid
  · have E := Lib.hid (caseOfL_bad (s := s) (.inr ha))
    go_wp2_with fail
    go_ret2
    exact ⟨_, by rw [HS.out, ha]; rfl, by rw [E.out]; exact (IntsO.empty _ rfl).lower hB.size, hB.alloc hB.size _⟩
  have HC := Lib.hid (caseOfL_valid HS.out ha)
  have HAV := Lib.hid ha
  have HT : Hid (∀ j : Nat, 1 ≤ j → (tset (termsL a)).testBit j = (caseS a 0).testBit j) := fun j hj => by
    rw [caseS_bit, tset_bit]
    have : ¬ j = 0 := by omega
    simp [this]
  have HZ := Lib.hid (caseS_zero a 0)
  go_wp2_with fail
  refine (c_spec_l3Terms _ a _ (hV'.out.below hB) (termsL_ok ha)).mono ?_
  rintro e w3 ⟨r3, rfl, o3, hB3⟩
  clear ha
  obtain ⟨F, cf, rfl, v3⟩ := o3.reads
  rw [flagsOf_length] at o3 ⊢
  have HF := Lib.hid o3
  (replace hB := bgo hB hB3; replace k0 := k0.next hB3; replace qk0 := k0.cell; replace rk0 := k0.frozen; replace lk0 := k0.lt; replace k1 := k1.next hB3; replace qk1 := k1.cell; replace rk1 := k1.frozen; replace lk1 := k1.lt)
  clear hB3 o3 v3 qk1 rk1 lk1 k1
  generalize caseS a 0 = S at HC HT HZ
  generalize tset (termsL a) = T at HT HF
  obtain ⟨M, hM⟩ : ∃ M, M = tval s.values := ⟨_, rfl⟩
  have HM := Lib.hid hM
  rw [← hM] at HC
  clear hM
  go_wp2_with fail
  have HL : Hid ((canon M S).length = 9) := canon_length M S
  have h1 : cut M S 1 = [0] := by
    rw [show 1 = 0 + 1 from rfl, canon_take (by omega)]
    have e : caseAt M S 0 = 0 := by
      unfold caseAt
      rw [HZ.out, if_pos rfl, (by have := (least_spec (M := M) HZ.out).1; omega : leastM M S 0 = 0)]; try rfl
    rw [e]; rfl
  have hO := IntsO.one w3 0 (base := w.heap.size) hB.size
  have HB := Lib.hid (hB.alloc hB.size (.cells #[.int .i64 0] tI))
  replace k0 := k0.alloc (.cells #[.int .i64 0] tI)
  replace HF := Lib.hid (HF.out.below ((Below.refl _ w3).alloc (Nat.le_refl _) (.cells #[.int .i64 0] tI)))
  rw [← h1] at hO
  have HF0 : Hid (∃ b o, F = some ⟨b, o, none⟩) := by
    obtain ⟨b, o, e, -⟩ := flags_addr (BoolsO.readsI HF.out)
    exact ⟨b, o, e⟩
  clear hB h1 qk0 rk0 lk0
  generalize w3.alloc (.cells #[.int .i64 0] tI) = W at hO HB k0 HF ⊢
  generalize w3.heap.size = g at hO ⊢
  obtain ⟨fb, fo, rfl⟩ := HF0.out
  clear HF0
  go_loopw [7, 8] (fun o i wr => ∃ (t : Nat) (A : Option Addr) (c : Nat), 1 ≤ t ∧ t ≤ 9 ∧ i = .int .i64 t ∧ o = .slice A (cut M S t).length c ∧ Hid (IntsO wr w.heap.size (.slice A (cut M S t).length c) (cut M S t)) ∧ Blk wr w.heap.size tSt #[.slice A1 s.values.length c1, .slice A2 s.heap.length c2] ∧ Hid (Below w.heap.size w wr) ∧ Hid (BoolsO wr w2.heap.size (.slice (some ⟨fb, fo, none⟩) 9 cf) (flagsOf T))) (fun _ i _ => 9 - (intOf i).toNat)
  case atStart => exact ⟨1, some ⟨g, 0, none⟩, 1, by omega, by omega, rfl, rfl, hO, k0, HB.out, HF.out⟩
  case round =>
    clear k0 hO HB HF
    obtain ⟨t, A, c, ht1, ht9, rfl, rfl, HO, k0, HB, HW⟩ := hrel
    by_cases ht : t < 9
    · have hti : (t : Int) ≤ 8 := by omega
      have ht8 : (t : Int) < 9 := by omega
      go_wp2_with fail
      go_loopw [9, 10] (fun cc i wr => ∃ (k : Nat) (cv : Int), k ≤ t ∧ i = .int .i64 k ∧ cc = .int .i64 cv ∧ Hid (IntsO wr w.heap.size (.slice A (cut M S t).length c) (cut M S t)) ∧ Blk wr w.heap.size tSt #[.slice A1 s.values.length c1, .slice A2 s.heap.length c2] ∧ Hid (Below w.heap.size w wr) ∧ Hid (BoolsO wr w2.heap.size (.slice (some ⟨fb, fo, none⟩) 9 cf) (flagsOf T)) ∧
        Hid (S.testBit t = false → cv = -1) ∧ Hid (S.testBit t = true → (cv = -1 ∧ ∀ j, j < k → S.testBit j = true → M (j : Int) ≠ M (t : Int)) ∨ (0 ≤ cv ∧ cv = leastM M S t))) (fun _ i _ => t + 1 - (intOf i).toNat)
      case atStart => exact ⟨0, -1, by omega, rfl, rfl, HO, k0, HB, HW, fun _ => rfl, fun _ => .inl ⟨rfl, fun j hj => by omega⟩⟩
      case round =>
        clear HO k0 HB HW
        obtain ⟨k, cv, hk, rfl, rfl, HO, k0, HB, HW, HN, HJ⟩ := hrel
        (replace qk0 := k0.cell; replace rk0 := k0.frozen; replace lk0 := k0.lt)
        have qf := flags_at (BoolsO.readsI HW.out) (m := t) (by omega)
        rw [HT.out t ht1] at qf
        by_cases hgo : k < t ∧ S.testBit t = true ∧ cv < 0
        · obtain ⟨hkt, hbt, hcv⟩ := hgo
          have hki : (k : Int) < (t : Int) := by omega
          rw [hbt] at qf
          have HBT := Lib.hid hbt
          have HJ2 : Hid (∀ j, j < k → S.testBit j = true → M (j : Int) ≠ M (t : Int)) := by
            rcases HJ.out hbt with h | h
            · exact h.2
            · omega
          have hcv1 : cv = -1 := by
            rcases HJ.out hbt with h | h
            · exact h.1
            · omega
          subst hcv1
          clear hbt hcv HJ
          obtain ⟨gg, cur, -, rfl, -, hK, hcur, -⟩ := HO.out.cell_ (k := k) (by rw [cut_length ht9]; exact hkt)
          have qo : wr.cell? ⟨gg, k, none⟩ = some (.int .i64 (caseAt M S k)) := by
            rw [hK.cell, hcur]
            congr 2
            exact cut_get _ (by omega)
          have hkl : k < (cut M S t).length := by rw [cut_length ht9]; exact hkt
          have hkl2 : (k : Int) < ((cut M S t).length : Int) := by omega
          clear hK hcur
          go_wp2_with fail
          refine wp_region_noPanic ?_
          refine wp_region_held_drew (S := (fun w' => (∀ i, w'.cell? ⟨w.heap.size, i, none⟩ = #[.slice A1 s.values.length c1, .slice A2 s.heap.length c2][i]?) ∧ w'.cell? ⟨gg, k, none⟩ = some (.int .i64 (caseAt M S k)))) (by kernel_rfl) (⟨k0.drew.cell, qo⟩) (fun hHeld => ?_)
          refine wpAnyH_take (i := 0) (v := ?_) rfl (by kernel_rfl) (by kernel_rfl) (by kernel_rfl) (fun _ _ _ h => h) (Or.inl ⟨by rfl, fun w hSw => ?_⟩) hHeld ?_
          rotate_left
          · ((try dsimp only at hSw); go_split_ands; go_simp; (try with_reducible rfl))
          try simp only [Act.put, List.getElem_toArray, List.getElem_cons_zero, List.getElem_cons_succ, List.setIfInBounds_toArray, List.set_cons_zero, List.set_cons_succ]
          refine wpAnyH_take (i := 1) (v := ?_) rfl (by kernel_rfl) (by kernel_rfl) (by kernel_rfl) (fun _ _ _ h => h) (Or.inl ⟨by rfl, fun w hSw => ?_⟩) hHeld ?_
          rotate_left
          · ((try dsimp only at hSw); go_split_ands; go_simp; (try with_reducible rfl))
          try simp only [Act.put, List.getElem_toArray, List.getElem_cons_zero, List.getElem_cons_succ, List.setIfInBounds_toArray, List.set_cons_zero, List.set_cons_succ]
          refine wpAnyH_take (i := 2) (v := ?_) rfl (by kernel_rfl) (by kernel_rfl) (by kernel_rfl) (fun _ _ _ h => h) (Or.inl ⟨by rfl, fun w hSw => ?_⟩) hHeld ?_
          rotate_left
          · ((try dsimp only at hSw); go_split_ands; go_simp; (try with_reducible rfl))
          try simp only [Act.put, List.getElem_toArray, List.getElem_cons_zero, List.getElem_cons_succ, List.setIfInBounds_toArray, List.set_cons_zero, List.set_cons_succ]
          refine wpAnyH_take (i := 3) (v := ?_) rfl (by kernel_rfl) (by kernel_rfl) (by kernel_rfl) (fun _ _ _ h => h) (Or.inl ⟨by rfl, fun w hSw => ?_⟩) hHeld ?_
          rotate_left
          · ((try dsimp only at hSw); go_split_ands; go_simp; (try with_reducible rfl))
          try simp only [Act.put, List.getElem_toArray, List.getElem_cons_zero, List.getElem_cons_succ, List.setIfInBounds_toArray, List.set_cons_zero, List.set_cons_succ]
          refine wpAnyH_take (i := 4) (v := ?_) rfl (by kernel_rfl) (by kernel_rfl) (by kernel_rfl) (fun _ _ _ h => h) (Or.inl ⟨by rfl, fun w hSw => ?_⟩) hHeld ?_
          rotate_left
          · ((try dsimp only at hSw); go_split_ands; go_simp; (try with_reducible rfl))
          try simp only [Act.put, List.getElem_toArray, List.getElem_cons_zero, List.getElem_cons_succ, List.setIfInBounds_toArray, List.set_cons_zero, List.set_cons_succ]
          by_cases hck : caseAt M S k = k
          · have hckb : (caseAt M S k == (k : Int)) = true := by simpa using hck
            have HBK := Lib.hid (caseAt_bits hck).1
            clear hck
            refine wpAnyH_take (i := 5) (v := ?_) rfl (by kernel_rfl) (by kernel_rfl) (by kernel_rfl) (fun _ _ _ h => h) (Or.inl ⟨by rfl, fun w hSw => ?_⟩) hHeld ?_
            rotate_left
            · ((try dsimp only at hSw); go_split_ands; go_simp; (try with_reducible rfl))
            try simp only [Act.put, List.getElem_toArray, List.getElem_cons_zero, List.getElem_cons_succ, List.setIfInBounds_toArray, List.set_cons_zero, List.set_cons_succ]
            refine wpAnyH_take (i := 6) (v := ?_) rfl (by kernel_rfl) (by kernel_rfl) (by kernel_rfl) (fun _ _ _ h => h) (Or.inl ⟨by rfl, fun w hSw => ?_⟩) hHeld ?_
            rotate_left
            · ((try dsimp only at hSw); go_split_ands; go_simp; (try with_reducible rfl))
            try simp only [Act.put, List.getElem_toArray, List.getElem_cons_zero, List.getElem_cons_succ, List.setIfInBounds_toArray, List.set_cons_zero, List.set_cons_succ]
            refine wpAnyH_take (i := 7) (v := ?_) rfl (by kernel_rfl) (by kernel_rfl) (by kernel_rfl) (fun _ _ _ h => h) (Or.inl ⟨by rfl, fun w hSw => ?_⟩) hHeld ?_
            rotate_left
            · ((try dsimp only at hSw); go_split_ands; go_simp; (try with_reducible rfl))
            try simp only [Act.put, List.getElem_toArray, List.getElem_cons_zero, List.getElem_cons_succ, List.setIfInBounds_toArray, List.set_cons_zero, List.set_cons_succ]
            refine wpAnyH_take (i := 8) (v := ?_) rfl (by kernel_rfl) (by kernel_rfl) (by kernel_rfl) (fun _ _ _ h => h) (Or.inl ⟨by rfl, fun w hSw => ?_⟩) hHeld ?_
            rotate_left
            · ((try dsimp only at hSw); go_split_ands; go_simp; (try with_reducible rfl))
            try simp only [Act.put, List.getElem_toArray, List.getElem_cons_zero, List.getElem_cons_succ, List.setIfInBounds_toArray, List.set_cons_zero, List.set_cons_succ]
            refine wpAnyH_take (i := 9) (v := ?_) rfl (by kernel_rfl) (by kernel_rfl) (by kernel_rfl) (fun _ _ _ h => h) (Or.inl ⟨by rfl, fun w hSw => ?_⟩) hHeld ?_
            rotate_left
            · ((try dsimp only at hSw); go_split_ands; go_simp; (try with_reducible rfl))
            try simp only [Act.put, List.getElem_toArray, List.getElem_cons_zero, List.getElem_cons_succ, List.setIfInBounds_toArray, List.set_cons_zero, List.set_cons_succ]
            refine wpAnyH_take (i := 11) (v := ?_) rfl (by kernel_rfl) (by kernel_rfl) (by kernel_rfl) (fun _ _ _ h => h) (Or.inl ⟨by rfl, fun w hSw => ?_⟩) hHeld ?_
            rotate_left
            · ((try dsimp only at hSw); go_split_ands; go_simp; (try with_reducible rfl))
            try simp only [Act.put, List.getElem_toArray, List.getElem_cons_zero, List.getElem_cons_succ, List.setIfInBounds_toArray, List.set_cons_zero, List.set_cons_succ]
            refine wpAnyH_take (i := 12) (v := ?_) rfl (by kernel_rfl) (by kernel_rfl) (by kernel_rfl) (fun _ _ _ h => h) (Or.inl ⟨by rfl, fun w hSw => ?_⟩) hHeld ?_
            rotate_left
            · ((try dsimp only at hSw); go_split_ands; go_simp; (try with_reducible rfl))
            try simp only [Act.put, List.getElem_toArray, List.getElem_cons_zero, List.getElem_cons_succ, List.setIfInBounds_toArray, List.set_cons_zero, List.set_cons_succ]
            refine wpAnyH_take (i := 13) (v := ?_) rfl (by kernel_rfl) (by kernel_rfl) (by kernel_rfl) (fun _ _ _ h => h) (Or.inl ⟨by rfl, fun w hSw => ?_⟩) hHeld ?_
            rotate_left
            · ((try dsimp only at hSw); go_split_ands; go_simp; (try with_reducible rfl))
            try simp only [Act.put, List.getElem_toArray, List.getElem_cons_zero, List.getElem_cons_succ, List.setIfInBounds_toArray, List.set_cons_zero, List.set_cons_succ]
            refine wpAnyH_ready (rs := [10]) (by kernel_rfl) (by simp) ?_
            refine AllReadyH.cons rfl (fun K hK => ?_) AllReadyH.nil
            try simp only [List.getElem_toArray, List.getElem_cons_zero, List.getElem_cons_succ]
            (go_simp; refine (c_spec_l1Value A1 c1 s.values (k : Int) _ (HVV.out.below HB.out.drew) (by omega) (by have := H8.out; omega)).mono ?_; rintro e w5 ⟨rfl, rfl⟩)
            refine hK.out _ _ (⟨k0.drew.cell, qo⟩) (fun hHeldN => ?_)
            clear hHeld hK K
            have hHeld := hHeldN
            clear hHeldN
            try simp only [Act.put, List.getElem_toArray, List.getElem_cons_zero, List.getElem_cons_succ, List.setIfInBounds_toArray, List.set_cons_zero, List.set_cons_succ]
            refine wpAnyH_ready (rs := [14]) (by kernel_rfl) (by simp) ?_
            refine AllReadyH.cons rfl (fun K hK => ?_) AllReadyH.nil
            try simp only [List.getElem_toArray, List.getElem_cons_zero, List.getElem_cons_succ]
            (go_simp; refine (c_spec_l1Value A1 c1 s.values (t : Int) _ (HVV.out.below HB.out.drew) (by omega) (by have := H8.out; omega)).mono ?_; rintro e w5 ⟨rfl, rfl⟩)
            refine hK.out _ _ (⟨k0.drew.cell, qo⟩) (fun hHeldN => ?_)
            clear hHeld hK K
            have hHeld := hHeldN
            clear hHeldN
            try simp only [Act.put, List.getElem_toArray, List.getElem_cons_zero, List.getElem_cons_succ, List.setIfInBounds_toArray, List.set_cons_zero, List.set_cons_succ]
            rw [← HM.out]
            by_cases hm : M (k : Int) = M (t : Int)
            · have hmb : (M (k : Int) == M (t : Int)) = true := by simpa using hm
              have HE := Lib.hid (least_is HBK.out HBT.out hm HJ2.out)
              clear hm
              refine wpAnyH_take (i := 15) (v := ?_) rfl (by kernel_rfl) (by kernel_rfl) (by kernel_rfl) (fun _ _ _ h => h) (Or.inl ⟨by rfl, fun w hSw => ?_⟩) hHeld ?_
              rotate_left
              · ((try dsimp only at hSw); go_split_ands; go_simp; (try with_reducible rfl))
              try simp only [Act.put, List.getElem_toArray, List.getElem_cons_zero, List.getElem_cons_succ, List.setIfInBounds_toArray, List.set_cons_zero, List.set_cons_succ]
              refine wpAnyH_take (i := 16) (v := ?_) rfl (by kernel_rfl) (by kernel_rfl) (by kernel_rfl) (fun _ _ _ h => h) (Or.inl ⟨by rfl, fun w hSw => ?_⟩) hHeld ?_
              rotate_left
              · ((try dsimp only at hSw); go_split_ands; go_simp; (try with_reducible rfl))
              try simp only [Act.put, List.getElem_toArray, List.getElem_cons_zero, List.getElem_cons_succ, List.setIfInBounds_toArray, List.set_cons_zero, List.set_cons_succ]
              refine wpAnyH_done (by kernel_rfl) ?_ _
              refine NoPanic.normal ?_
              go_wp2_with fail
              go_round
              case rel => exact ⟨k + 1, k, by omega, by go_num, rfl, HO.out, k0.drew, HB.out.drew, HW.out.below (Below.refl _ _).drew, (fun h => absurd HBT.out (by rw [h]; decide)), fun _ => .inr ⟨by omega, by rw [HE.out]⟩⟩
              case measure => simp [intOf]; omega
            · have hmb : (M (k : Int) == M (t : Int)) = false := by simpa using hm
              have HJ3 : Hid (∀ j, j < k + 1 → S.testBit j = true → M (j : Int) ≠ M (t : Int)) := fun j hj hb => by
                by_cases e : j = k
                · subst e; exact hm
                · exact HJ2.out j (by omega) hb
              clear hm
              refine wpAnyH_take (i := 15) (v := ?_) rfl (by kernel_rfl) (by kernel_rfl) (by kernel_rfl) (fun _ _ _ h => h) (Or.inl ⟨by rfl, fun w hSw => ?_⟩) hHeld ?_
              rotate_left
              · ((try dsimp only at hSw); go_split_ands; go_simp; (try with_reducible rfl))
              try simp only [Act.put, List.getElem_toArray, List.getElem_cons_zero, List.getElem_cons_succ, List.setIfInBounds_toArray, List.set_cons_zero, List.set_cons_succ]
              refine wpAnyH_take (i := 16) (v := ?_) rfl (by kernel_rfl) (by kernel_rfl) (by kernel_rfl) (fun _ _ _ h => h) (Or.inl ⟨by rfl, fun w hSw => ?_⟩) hHeld ?_
              rotate_left
              · ((try dsimp only at hSw); go_split_ands; go_simp; (try with_reducible rfl))
              try simp only [Act.put, List.getElem_toArray, List.getElem_cons_zero, List.getElem_cons_succ, List.setIfInBounds_toArray, List.set_cons_zero, List.set_cons_succ]
              refine wpAnyH_done (by kernel_rfl) ?_ _
              refine NoPanic.normal ?_
              go_wp2_with fail
              go_round
              case rel => exact ⟨k + 1, -1, by omega, by go_num, rfl, HO.out, k0.drew, HB.out.drew, HW.out.below (Below.refl _ _).drew, (fun h => absurd HBT.out (by rw [h]; decide)), fun _ => .inl ⟨rfl, HJ3.out⟩⟩
              case measure => simp [intOf]; omega
          · have hckb : (caseAt M S k == (k : Int)) = false := by simpa using hck
            have HJ3 : Hid (∀ j, j < k + 1 → S.testBit j = true → M (j : Int) ≠ M (t : Int)) := fun j hj hb => by
              by_cases e : j = k
              · subst e
                intro hm
                refine hck ?_
                have hl := least_spec (M := M) hb
                unfold caseAt
                rw [hb, if_pos rfl]
                by_cases h2 : leastM M S j = j
                · rw [h2]
                · exact absurd (hl.2.2.1.trans hm) (HJ2.out _ (by omega) hl.2.1)
              · exact HJ2.out j (by omega) hb
            clear hck
            refine wpAnyH_take (i := 5) (v := ?_) rfl (by kernel_rfl) (by kernel_rfl) (by kernel_rfl) (fun _ _ _ h => h) (Or.inl ⟨by rfl, fun w hSw => ?_⟩) hHeld ?_
            rotate_left
            · ((try dsimp only at hSw); go_split_ands; go_simp; (try with_reducible rfl))
            try simp only [Act.put, List.getElem_toArray, List.getElem_cons_zero, List.getElem_cons_succ, List.setIfInBounds_toArray, List.set_cons_zero, List.set_cons_succ]
            refine wpAnyH_take (i := 6) (v := ?_) rfl (by kernel_rfl) (by kernel_rfl) (by kernel_rfl) (fun _ _ _ h => h) (Or.inl ⟨by rfl, fun w hSw => ?_⟩) hHeld ?_
            rotate_left
            · ((try dsimp only at hSw); go_split_ands; go_simp; (try with_reducible rfl))
            try simp only [Act.put, List.getElem_toArray, List.getElem_cons_zero, List.getElem_cons_succ, List.setIfInBounds_toArray, List.set_cons_zero, List.set_cons_succ]
            refine wpAnyH_take (i := 7) (v := undef) rfl (by kernel_rfl) (by kernel_rfl) (by kernel_rfl) (fun _ _ _ h => h) (Or.inr ⟨by rfl, rfl⟩) hHeld ?_
            try simp only [Act.put, List.getElem_toArray, List.getElem_cons_zero, List.getElem_cons_succ, List.setIfInBounds_toArray, List.set_cons_zero, List.set_cons_succ]
            refine wpAnyH_take (i := 8) (v := undef) rfl (by kernel_rfl) (by kernel_rfl) (by kernel_rfl) (fun _ _ _ h => h) (Or.inr ⟨by rfl, rfl⟩) hHeld ?_
            try simp only [Act.put, List.getElem_toArray, List.getElem_cons_zero, List.getElem_cons_succ, List.setIfInBounds_toArray, List.set_cons_zero, List.set_cons_succ]
            refine wpAnyH_take (i := 9) (v := undef) rfl (by kernel_rfl) (by kernel_rfl) (by kernel_rfl) (fun _ _ _ h => h) (Or.inr ⟨by rfl, rfl⟩) hHeld ?_
            try simp only [Act.put, List.getElem_toArray, List.getElem_cons_zero, List.getElem_cons_succ, List.setIfInBounds_toArray, List.set_cons_zero, List.set_cons_succ]
            refine wpAnyH_take (i := 10) (v := undef) rfl (by kernel_rfl) (by kernel_rfl) (by kernel_rfl) (fun _ _ _ h => h) (Or.inr ⟨by rfl, rfl⟩) hHeld ?_
            try simp only [Act.put, List.getElem_toArray, List.getElem_cons_zero, List.getElem_cons_succ, List.setIfInBounds_toArray, List.set_cons_zero, List.set_cons_succ]
            refine wpAnyH_take (i := 11) (v := undef) rfl (by kernel_rfl) (by kernel_rfl) (by kernel_rfl) (fun _ _ _ h => h) (Or.inr ⟨by rfl, rfl⟩) hHeld ?_
            try simp only [Act.put, List.getElem_toArray, List.getElem_cons_zero, List.getElem_cons_succ, List.setIfInBounds_toArray, List.set_cons_zero, List.set_cons_succ]
            refine wpAnyH_take (i := 12) (v := undef) rfl (by kernel_rfl) (by kernel_rfl) (by kernel_rfl) (fun _ _ _ h => h) (Or.inr ⟨by rfl, rfl⟩) hHeld ?_
            try simp only [Act.put, List.getElem_toArray, List.getElem_cons_zero, List.getElem_cons_succ, List.setIfInBounds_toArray, List.set_cons_zero, List.set_cons_succ]
            refine wpAnyH_take (i := 13) (v := undef) rfl (by kernel_rfl) (by kernel_rfl) (by kernel_rfl) (fun _ _ _ h => h) (Or.inr ⟨by rfl, rfl⟩) hHeld ?_
            try simp only [Act.put, List.getElem_toArray, List.getElem_cons_zero, List.getElem_cons_succ, List.setIfInBounds_toArray, List.set_cons_zero, List.set_cons_succ]
            refine wpAnyH_take (i := 14) (v := undef) rfl (by kernel_rfl) (by kernel_rfl) (by kernel_rfl) (fun _ _ _ h => h) (Or.inr ⟨by rfl, rfl⟩) hHeld ?_
            try simp only [Act.put, List.getElem_toArray, List.getElem_cons_zero, List.getElem_cons_succ, List.setIfInBounds_toArray, List.set_cons_zero, List.set_cons_succ]
            refine wpAnyH_take (i := 15) (v := undef) rfl (by kernel_rfl) (by kernel_rfl) (by kernel_rfl) (fun _ _ _ h => h) (Or.inr ⟨by rfl, rfl⟩) hHeld ?_
            try simp only [Act.put, List.getElem_toArray, List.getElem_cons_zero, List.getElem_cons_succ, List.setIfInBounds_toArray, List.set_cons_zero, List.set_cons_succ]
            refine wpAnyH_take (i := 16) (v := ?_) rfl (by kernel_rfl) (by kernel_rfl) (by kernel_rfl) (fun _ _ _ h => h) (Or.inl ⟨by rfl, fun w hSw => ?_⟩) hHeld ?_
            rotate_left
            · ((try dsimp only at hSw); go_split_ands; go_simp; (try with_reducible rfl))
            try simp only [Act.put, List.getElem_toArray, List.getElem_cons_zero, List.getElem_cons_succ, List.setIfInBounds_toArray, List.set_cons_zero, List.set_cons_succ]
            refine wpAnyH_done (by kernel_rfl) ?_ _
            refine NoPanic.normal ?_
            go_wp2_with fail
            go_round
            case rel => exact ⟨k + 1, -1, by omega, by go_num, rfl, HO.out, k0.drew, HB.out.drew, HW.out.below (Below.refl _ _).drew, (fun h => absurd HBT.out (by rw [h]; decide)), fun _ => .inl ⟨rfl, HJ3.out⟩⟩
            case measure => simp [intOf]; omega
        · -- behind the inner loop
          have hstop : Hid (∃ x : Int, x = caseAt M S t ∧ (if S.testBit t = true ∧ cv < 0 then (t : Int) else cv) = x) := by
            refine ⟨_, rfl, ?_⟩
            unfold caseAt
            cases hb : S.testBit t
            · rw [HN.out hb]; rfl
            · rcases HJ.out hb with h | h
              · rw [h.1]
                have hkt : k = t := by
                  rcases Nat.lt_or_ge k t with h2 | h2
                  · exact absurd ⟨h2, hb, by omega⟩ hgo
                  · omega
                subst hkt
                have hl := least_spec (M := M) hb
                have : leastM M S k = k := by
                  rcases Nat.lt_or_ge (leastM M S k) k with h3 | h3
                  · exact absurd hl.2.2.1 (h.2 _ h3 hl.2.1)
                  · omega
                rw [this]; rfl
              · have h2 : ¬ (cv < 0) := by omega
                rw [if_neg (fun h3 => h2 h3.2), h.2, if_pos rfl]
          have HS2 := Lib.hid hstop
          obtain ⟨x, hx, hif⟩ := hstop
          have HTK := Lib.hid (canon_take (M := M) (S := S) ht)
          rw [← hx] at HTK
          have hO := HO.out
          clear hx HS2
          cases hb : S.testBit t
          all_goals
            rw [hb] at qf
            by_cases hkt : k < t
            all_goals
              by_cases hcv : cv < 0
              all_goals
                first
                  | (exfalso; exact hgo ⟨hkt, hb, hcv⟩)
                  | skip
          all_goals
            clear hgo
            have hlen : Hid ((cut M S t ++ [x]).length = t + 1) := by show _ = _; rw [List.length_append, cut_length ht9]; rfl
            have hL2 : Hid ((cut M S t).length = t) := cut_length ht9
            simp only [hb, hcv, Bool.false_eq_true, false_and, true_and, and_false, if_true, if_false] at hif
            subst hif
            first
              | (have hki : (k : Int) < (t : Int) := (by omega))
              | (have hki : ¬ ((k : Int) < (t : Int)) := (by omega))
            skip
            go_wp2_with (at_builtin; refine appI rfl _ _ rfl (v := .slice A (cut M S t).length c) rfl (IntsO.below (w := wr) hO (by repeat (first | (with_reducible exact Below.refl _ _) | (with_reducible assumption) | (with_reducible apply bbox) | ((with_reducible apply Below.setCell); (case hp => (first | exact Nat.le_refl _ | (simp; done) | (simp; omega) | (simp only; omega) | omega))) | (with_reducible apply Below.drew) | (with_reducible apply below_drewN)))) wr.heap.size _ rfl (cell_box wr _ _) (by have := hL2.out; omega) (by have := HB.out.size; simp; omega) ?_; intro A4 d4 w4 o4 hg4 hB4; have ks4 := Blk.grownO (g := w.heap.size) (hg := hg4) (k0.alloc _) (IntsO.below (w := wr) hO (by repeat (first | (with_reducible exact Below.refl _ _) | (with_reducible assumption) | (with_reducible apply bbox) | ((with_reducible apply Below.setCell); (case hp => (first | exact Nat.le_refl _ | (simp; done) | (simp; omega) | (simp only; omega) | omega))) | (with_reducible apply Below.drew) | (with_reducible apply below_drewN)))).1 (by decide); have hw4 := BoolsO.grownI (HW.out.below (bbox (Below.refl _ _) _)) (IntsO.below (w := wr) hO (bbox (Below.refl _ _) _)) hg4; clear hg4)
            go_round
            case rel => exact ⟨t + 1, some ⟨A4, 0, none⟩, d4, by omega, by omega, by go_num, by rw [hL2.out, cut_length (t := t + 1) (by omega)], (by rw [hL2.out] at o4; rw [HTK.out, hlen.out]; exact o4), ks4, HB.out.trans ((Below.alloc (Below.refl _ wr) HB.out.size _).trans hB4), hw4⟩
            case measure => simp [intOf]; omega
    · obtain rfl : t = 9 := by omega
      have hc9 : Hid (cut M S 9 = canon M S) := by show _ = _; unfold cut; rw [List.take_of_length_le (by rw [HL.out]; omega)]
      have HO2 := HO.out
      rw [hc9.out] at HO2
      have HO3 := Lib.hid HO2
      clear HO2
      go_wp2_with fail
      go_ret2
      exact ⟨_, by rw [HS.out, HAV.out]; rfl, by rw [HC.out, hc9.out]; exact HO3.out, HB.out⟩
end Go.Proofs.Ytmjgcdolnkdfoaa
