/- Contracts: impl's copies of states. -/
import Derived.Test.YtlmjjflalmegfaaGreatMDrawT
import Derived.Test.YtlmjjflalmegfaaGreatMFrame
import Derived.Test.YtlmjjflalmegfaaGreatMSte
set_option linter.unusedSimpArgs false
set_option linter.unusedVariables false
namespace Go.Proofs.YtlmjjflalmegfaaGreat
open Go Go.RowKit Go.Proofs

--@ impl.copyState
set_option maxRecDepth 100000 in
set_option maxHeartbeats 1600000 in
theorem c_impl_copyState {lo hi : Nat} (v : Value) (s : Ste) (w : World) (h : StateV w lo hi v s) : Calls Tryz.prog 187 #[v] w fun e w' => ∃ r, e = .returned r ∧ StateO w' w.heap.size r s ∧ Below w.heap.size w w' := by
  obtain ⟨A1, c1, A2, c2, rfl, h1, h2⟩ := h
  have H1 := Lib.hid h1
  have H2 := Lib.hid h2
  clear h1 h2
  go_enter Tryz.func187, Tryz.ntmps187
  have k0 : Blk ((w.alloc (.cells #[.slice A1 s.values.length c1, .slice A2 s.heap.length c2] tSt)).alloc (.cells #[.slice none 0 0, .slice none 0 0] tSt)) w.heap.size tSt #[.slice A1 s.values.length c1, .slice A2 s.heap.length c2] := blks
  have kr : Blk ((w.alloc (.cells #[.slice A1 s.values.length c1, .slice A2 s.heap.length c2] tSt)).alloc (.cells #[.slice none 0 0, .slice none 0 0] tSt)) (w.heap.size + 1) tSt #[.slice none 0 0, .slice none 0 0] := blks
  go_wp2_with fail
  refine wp_region_noPanic ?_
  refine wp_region_held_drew (S := (fun w' => ∀ i, w'.cell? ⟨w.heap.size, i, none⟩ = #[.slice A1 s.values.length c1, .slice A2 s.heap.length c2][i]?)) (by kernel_rfl) (Blk.cell blks) (fun hHeld => ?_)
  refine wpAnyH_take (i := 0) (v := ?_) rfl (by kernel_rfl) (by kernel_rfl) (by kernel_rfl) (fun _ _ _ h => h) (Or.inl ⟨by rfl, fun w hSw => ?_⟩) hHeld ?_
  rotate_left
  · ((try dsimp only at hSw); go_split_ands; go_simp; (try with_reducible rfl))
  try simp only [Act.put, List.getElem_toArray, List.getElem_cons_zero, List.getElem_cons_succ, List.setIfInBounds_toArray, List.set_cons_zero, List.set_cons_succ]
  refine wpAnyH_take (i := 1) (v := ?_) rfl (by kernel_rfl) (by kernel_rfl) (by kernel_rfl) (fun _ _ _ h => h) (Or.inl ⟨by rfl, fun w hSw => ?_⟩) hHeld ?_
  rotate_left
  · ((try dsimp only at hSw); go_split_ands; go_simp; (try with_reducible rfl))
  try simp only [Act.put, List.getElem_toArray, List.getElem_cons_zero, List.getElem_cons_succ, List.setIfInBounds_toArray, List.set_cons_zero, List.set_cons_succ]
  refine wpAnyH_take (i := 3) (v := ?_) rfl (by kernel_rfl) (by kernel_rfl) (by kernel_rfl) (fun _ _ _ h => h) (Or.inl ⟨by rfl, fun w hSw => ?_⟩) hHeld ?_
  rotate_left
  · ((try dsimp only at hSw); go_split_ands; go_simp; (try with_reducible rfl))
  try simp only [Act.put, List.getElem_toArray, List.getElem_cons_zero, List.getElem_cons_succ, List.setIfInBounds_toArray, List.set_cons_zero, List.set_cons_succ]
  refine wpAnyH_take (i := 4) (v := ?_) rfl (by kernel_rfl) (by kernel_rfl) (by kernel_rfl) (fun _ _ _ h => h) (Or.inl ⟨by rfl, fun w hSw => ?_⟩) hHeld ?_
  rotate_left
  · ((try dsimp only at hSw); go_split_ands; go_simp; (try with_reducible rfl))
  try simp only [Act.put, List.getElem_toArray, List.getElem_cons_zero, List.getElem_cons_succ, List.setIfInBounds_toArray, List.set_cons_zero, List.set_cons_succ]
  refine wpAnyH_ready (rs := [2]) (by kernel_rfl) (by simp) ?_
  refine AllReadyH.cons rfl (fun K hK => ?_) AllReadyH.nil
  try simp only [List.getElem_toArray, List.getElem_cons_zero, List.getElem_cons_succ]
  (go_simp; refine (c_impl_copyInts A1 c1 s.values _ (H1.out.below bel)).mono ?_; rintro e w1 ⟨r1, rfl, o1, hB1⟩; have hB := bgo (w := w) bel hB1; replace k0 := Blk.next (g := w.heap.size) blks hB1; replace kr := Blk.next (g := w.heap.size + 1) blks hB1)
  refine hK.out _ _ (k0.cell) (fun hHeldN => ?_)
  clear hHeld hK K
  have hHeld := hHeldN
  clear hHeldN
  try simp only [Act.put, List.getElem_toArray, List.getElem_cons_zero, List.getElem_cons_succ, List.setIfInBounds_toArray, List.set_cons_zero, List.set_cons_succ]
  refine wpAnyH_ready (rs := [5]) (by kernel_rfl) (by simp) ?_
  refine AllReadyH.cons rfl (fun K hK => ?_) AllReadyH.nil
  try simp only [List.getElem_toArray, List.getElem_cons_zero, List.getElem_cons_succ]
  (go_simp; refine (c_impl_copyInts A2 c2 s.heap _ (H2.out.below hB)).mono ?_; rintro e w2 ⟨r2, rfl, o2, hB2⟩; have hBB := bgo hB hB2; have hz1 := hB.size; replace k0 := k0.next hB2; replace kr := kr.next hB2)
  refine hK.out _ _ (k0.cell) (fun hHeldN => ?_)
  clear hHeld hK K
  have hHeld := hHeldN
  clear hHeldN
  try simp only [Act.put, List.getElem_toArray, List.getElem_cons_zero, List.getElem_cons_succ, List.setIfInBounds_toArray, List.set_cons_zero, List.set_cons_succ]
  have HD := Lib.hid (show ∀ g, r1.ownBlock = some g → r2.ownBlock ≠ some g from fun g hg e => by
    have := (o1.1.lt g hg).2
    have := (o2.1.lt g e).1
    omega)
  have HO1 := Lib.hid ((o1.below hB2).lower (base' := w.heap.size) (by (try simp) <;> omega))
  have HO2 := Lib.hid (o2.lower (base' := w.heap.size) hz1)
  obtain ⟨F, e1, rfl, -⟩ := o1.reads
  obtain ⟨G, e2, rfl, -⟩ := o2.reads
  clear o1 o2 hB1 hB2
  (replace qkr := kr.cell; replace rkr := kr.frozen; replace lkr := kr.lt)
  refine wpAnyH_take (i := 6) (v := ?_) rfl (by kernel_rfl) (by kernel_rfl) (by kernel_rfl) (fun _ _ _ h => h) (Or.inl ⟨by rfl, fun w hSw => ?_⟩) hHeld ?_
  rotate_left
  · ((try dsimp only at hSw); go_split_ands; go_simp; (try with_reducible rfl))
  try simp only [Act.put, List.getElem_toArray, List.getElem_cons_zero, List.getElem_cons_succ, List.setIfInBounds_toArray, List.set_cons_zero, List.set_cons_succ]
  refine wpAnyH_ready (rs := [7]) (by kernel_rfl) (by simp) ?_
  refine AllReadyH.cons rfl (fun K hK => ?_) AllReadyH.nil
  try simp only [List.getElem_toArray, List.getElem_cons_zero, List.getElem_cons_succ]
  go_simp
  refine hK.out _ _ (Blk.cell blks) (fun hHeldN => ?_)
  clear hHeld hK K
  have hHeld := hHeldN
  clear hHeldN
  try simp only [Act.put, List.getElem_toArray, List.getElem_cons_zero, List.getElem_cons_succ, List.setIfInBounds_toArray, List.set_cons_zero, List.set_cons_succ]
  refine wpAnyH_done (by kernel_rfl) ?_ _
  refine NoPanic.normal ?_
  go_wp2_with fail
  refine bodyPost_ret (v := .agg #[.slice F s.values.length e1, .slice G s.heap.length e2]) (by simp [results, Tryz.results187, go_sem, qkr]) rfl ⟨_, rfl, ⟨_, _, rfl, ?_, ?_, HD.out⟩, bel⟩
  · exact (HO1.out.setT kr (by decide) 0 _).setT (kr.set_ 0 _) (by decide) 1 _
  · exact (HO2.out.setT kr (by decide) 0 _).setT (kr.set_ 0 _) (by decide) 1 _

--@ impl.Holds
/-- a holds in the whole of s -/
def holdsF (s : Ste) (a : Asn) : Bool := (partOf s a).isSome && (((bitsOf ((partOf s a).getD []) : Nat) : Int) == (bitsOf (usedL s.heap 8) : Nat))
theorem partOf_len {s : Ste} {a : Asn} (h : (partOf s a).isSome = true) : s.heap.length = 8 := by
  unfold partOf at h
  split at h
  · rename_i hv
    simp only [Bool.and_eq_true] at hv
    exact (Ste.valid_len hv.1.1).2
  · cases h
set_option maxRecDepth 100000 in
set_option maxHeartbeats 1600000 in
theorem c_impl_Holds {lo hi lo' hi' : Nat} (v v' : Value) (s : Ste) (a : Asn) (w : World) (h : StateV w lo hi v s) (h' : AsnV w lo' hi' v' a) :
    Calls Tryz.prog 136 #[v, v'] w fun e w' => e = .returned (.bool (holdsF s a)) ∧ Below w.heap.size w w' := by
  have hV := Lib.hid h
  have hV' := Lib.hid h'
  obtain ⟨A1, c1, A2, c2, rfl, -, -⟩ := h
  obtain ⟨A3, c3, A4, c4, rfl, -, -⟩ := h'
  have HE : Hid (holdsF s a = ((partOf s a).isSome && (((bitsOf ((partOf s a).getD []) : Nat) : Int) == (bitsOf (usedL s.heap 8) : Nat)))) := rfl
  go_enter Tryz.func136, Tryz.ntmps136
  have k0 : Blk ((w.alloc (.cells #[.slice A1 s.values.length c1, .slice A2 s.heap.length c2] tSt)).alloc (.cells #[.slice A3 a.facts.length c3, .slice A4 a.atoms.length c4] 26)) w.heap.size tSt #[.slice A1 s.values.length c1, .slice A2 s.heap.length c2] := blks
  go_wp2_with fail
  refine (c_impl_partOf _ _ s a _ (hV.out.below bel) (hV'.out.below bel)).mono ?_
  rintro e w1 ⟨rfl, hB1⟩
  have hB := bgo (w := w) bel hB1
  replace k0 := k0.next hB1
  (replace qk0 := k0.cell; replace rk0 := k0.frozen; replace lk0 := k0.lt)
  clear hB1
  cases hp : (partOf s a).isSome
  · have E : Hid (holdsF s a = false) := by show _ = _; rw [HE.out, hp]; rfl
    clear hp
    go_wp2_with fail
    go_ret
    exact ⟨ret_bool E.out.symm, hB⟩
  · have h8 := Lib.hid (partOf_len hp)
    have E : Hid (holdsF s a = (((bitsOf ((partOf s a).getD []) : Nat) : Int) == (bitsOf (usedL s.heap 8) : Nat))) := by show _ = _; rw [HE.out, hp]; rfl
    clear hp HE
    go_wp2_with fail
    refine (c_impl_usedIn _ s _ (hV.out.below hB) h8.out).mono ?_
    rintro e w2 ⟨rfl, hB2⟩
    go_wp2_with fail
    go_ret
    exact ⟨ret_bool E.out.symm, bgo hB hB2⟩

--@ impl.UsedCells
def usedF (s : Ste) : List Int := if s.valid then usedL s.heap 8 else []
end Go.Proofs.YtlmjjflalmegfaaGreat

/- The cells that an assertion describes: in a larger state and in a smaller one, and those of a conjunction. Plain; no program. -/
namespace Go.Proofs.YtlmjjflalmegfaaGreat
open Go Go.RowKit

theorem addAll_spec : ∀ (cs seen out : List Int), addAll seen cs = some out → seen.Nodup → out.Nodup := by
  intro cs
  induction cs with
  | nil => intro seen out h hn; simp only [addAll, Option.some.injEq] at h; rw [← h]; exact hn
  | cons c cs ih =>
    intro seen out h hn
    simp only [addAll] at h
    split at h
    · cases h
    · rename_i hc
      refine ih _ _ h ?_
      rw [List.nodup_append]
      exact ⟨hn, by simp, fun x hx y hy e => by rw [List.mem_singleton] at hy; exact hc (by rw [← hy, ← e]; exact hx)⟩
theorem addAll_some : ∀ (cs seen : List Int), (seen ++ cs).Nodup → addAll seen cs = some (seen ++ cs) := by
  intro cs
  induction cs with
  | nil => intro seen _; simp [addAll]
  | cons c cs ih =>
    intro seen h
    simp only [addAll]
    rw [if_neg]
    · rw [ih _ (by simpa using h)]; simp
    · intro hc
      rw [List.nodup_append] at h
      exact h.2.2 c hc c List.mem_cons_self rfl
/-- what a part adds: allocated addresses, each once -/
theorem partAtoms_spec {s : Ste} (hs : s.valid = true) : ∀ (xs : List Atm) (seen out : List Int), partAtoms s seen xs = some out → seen.Nodup → out.Nodup ∧ ∃ new, out = seen ++ new ∧ ∀ c ∈ new, addrB c = true ∧ allocB s.heap c = true := by
  intro xs
  induction xs with
  | nil => intro seen out h hn; simp only [partAtoms, Option.some.injEq] at h; subst h; exact ⟨hn, [], by simp, by simp⟩
  | cons x xs ih =>
    intro seen out h hn
    simp only [partAtoms, Option.bind_eq_some_iff] at h
    obtain ⟨cs, h1, seen', h2, h3⟩ := h
    have hn' := addAll_spec _ _ _ h2 hn
    obtain ⟨g1, new, g2, g3⟩ := ih _ _ h3 hn'
    have e := addAll_mem _ _ _ h2
    refine ⟨g1, cs ++ new, by rw [g2, e, List.append_assoc], fun c hc => ?_⟩
    rcases List.mem_append.1 hc with h | h
    · exact (atomCells_addr hs h1).2 c h
    · exact g3 c h

/-- the cells of h' lie in h as they are -/
def Sub (h' h : List Int) : Prop := ∀ x, allocB h' x = true → allocB h x = true ∧ cont h x = cont h' x
/-! states -/
/-- part of a valid assertion whose facts hold -/
theorem partOf_some {s : Ste} {a : Asn} {out : List Int} : partOf s a = some out ↔ s.valid = true ∧ a.valid = true ∧ factsHold a.facts s.values = true ∧ partAtoms s [] a.atoms = some out := by
  unfold partOf
  split
  · rename_i h
    simp only [Bool.and_eq_true] at h
    exact ⟨fun e => ⟨h.1.1, h.1.2, h.2, e⟩, fun e => e.2.2.2⟩
  · rename_i h
    constructor
    · intro e; cases e
    · rintro ⟨h1, h2, h3, -⟩
      exact absurd (by rw [h1, h2, h3]; rfl) h
theorem partOf_spec {s : Ste} {a : Asn} {out : List Int} (h : partOf s a = some out) : out.Nodup ∧ ∀ c ∈ out, addrB c = true ∧ allocB s.heap c = true := by
  obtain ⟨h1, -, -, h4⟩ := partOf_some.1 h
  obtain ⟨g1, new, g2, g3⟩ := partAtoms_spec h1 _ _ _ h4 List.nodup_nil
  rw [List.nil_append] at g2
  subst g2
  exact ⟨g1, g3⟩
theorem holds_iff {s : Ste} {a : Asn} : holdsF s a = true ↔ ∃ out, partOf s a = some out ∧ ∀ c, allocB s.heap c = true → c ∈ out := by
  unfold holdsF
  cases h : partOf s a with
  | none => simp
  | some out =>
    have hsp := partOf_spec h
    have h1 : ∀ x ∈ out, 0 ≤ x := fun x hx => by have := (hsp.2 x hx).1; simp [addrB] at this; omega
    have h2 : ∀ x ∈ usedL s.heap 8, 0 ≤ x := fun x hx => by have := (usedL_mem _ _ _).1 hx; omega
    simp only [Option.isSome_some, Option.getD_some, Bool.true_and, beq_iff_eq, Int.natCast_inj, Option.some.injEq, exists_eq_left']
    rw [bitsOf_eq h1 h2]
    constructor
    · intro h3 c hc
      have := (cont_alloc hc).1
      simp [addrB] at this
      exact (h3 c).2 ((usedL_mem _ _ _).2 ⟨by omega, by omega, hc⟩)
    · intro h3 x
      rw [usedL_mem]
      constructor
      · intro hx
        have := hsp.2 x hx
        have h4 := this.1
        simp [addrB] at h4
        exact ⟨by omega, by omega, this.2⟩
      · intro hx
        exact h3 x hx.2.2
/-- a state with some cells alone -/
def keepH (h : List Int) (p : Int → Bool) : List Int := (List.range' 1 8).map fun n : Nat => if p (n : Int) then cont h n else -1
def keepS (s : Ste) (p : Int → Bool) : Ste := ⟨s.values, keepH s.heap p⟩
/-! the laws -/
theorem nodup_le : ∀ {l m : List Int}, l.Nodup → (∀ x ∈ l, x ∈ m) → l.length ≤ m.length := by
  intro l
  induction l with
  | nil => intro m _ _; simp
  | cons x l ih =>
    intro m hn h
    rw [List.nodup_cons] at hn
    have hx := h x List.mem_cons_self
    have := ih (m := m.erase x) hn.2 fun y hy => (List.mem_erase_of_ne (fun (e : y = x) => hn.1 (by rw [← e]; exact hy))).2 (h y (List.mem_cons_of_mem _ hy))
    rw [List.length_erase_of_mem hx] at this
    have := List.length_pos_of_mem hx
    rw [List.length_cons]
    omega
theorem Asn.valid_facts {a : Asn} (h : a.valid = true) : factsValid a.facts = true := by
  simp only [Asn.valid, Bool.and_eq_true] at h; exact h.1
end Go.Proofs.YtlmjjflalmegfaaGreat

/- Contracts: impl's changes of cells. -/
namespace Go.Proofs.YtlmjjflalmegfaaGreat
open Go Go.RowKit Go.Proofs

end Go.Proofs.YtlmjjflalmegfaaGreat

/- Contracts: equal states (impl.StateSame). -/
namespace Go.Proofs.YtlmjjflalmegfaaGreat
open Go Go.RowKit Go.Proofs
attribute [local go_sem ↓] Go.wp_at_zero Go.wp_at_succ
--@ impl.sameInts
--@ impl.StateSame
end Go.Proofs.YtlmjjflalmegfaaGreat
