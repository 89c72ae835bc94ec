/- Trials of triples. -/
import Derived.Test.YtcgifoghggajgaaMRunG
import Derived.Test.YtcgifoghggajgaaHoldsB
set_option linter.unusedSimpArgs false
set_option linter.unusedVariables false
namespace Go.Proofs.Ytcgifoghggajgaa
open Go Go.RowKit Go.Proofs

/-- what a trial says -/
def tryF (s : Ste) (pre : Asn) (L : Cms) (post : Asn) : Int :=
  if !(holdsF s pre && (L.prog && post.valid)) then 0
  else if codeF s L 200 = 1 then 2 else if codeF s L 200 ≠ 0 then 4 else if holdsF (afterF s L 200) post then 1 else 3
theorem after_valid {s : Ste} {L : Cms} {f : Int} (h : codeF s L f = 0) : (afterF s L f).valid = true := by
  unfold afterF
  rw [if_pos h]
  unfold codeF at h
  split at h
  · rename_i h1
    obtain ⟨h2, -, -, n, rfl, -⟩ := runsP_yes h1
    exact (Cms.run_ok L s n h2).1
  · cases h
--@ impl.TryTriple
set_option maxRecDepth 100000 in
set_option maxHeartbeats 3200000 in
theorem c_impl_TryTriple {lo hi lo1 hi1 lo2 hi2 lo' : Nat} (v v1 v2 : Value) (s : Ste) (pre post : Asn) (A : Option Addr) (c : Nat) (L : Cms) (w : World) (h : StateV w lo hi v s) (h1 : AsnV w lo1 hi1 v1 pre) (hV : CmsW w lo' w.heap.size A L) (h2 : AsnV w lo2 hi2 v2 post) :
    Calls Try.prog 72 #[v, v1, .slice A L.len c, v2] w fun e w' => e = .returned (.int .i64 (tryF s pre L post)) ∧ Below w.heap.size w w' := by
  have hS := Lib.hid h
  have hA1 := Lib.hid h1
  have hA2 := Lib.hid h2
  have hP := Lib.hid hV
  obtain ⟨A1, c1, A2, c2, rfl, -, -⟩ := h
  obtain ⟨A3, c3, A4, c4, rfl, -, -⟩ := h1
  obtain ⟨A5, c5, A6, c6, rfl, -, -⟩ := h2
  clear hV
  obtain ⟨hp, hhp⟩ : ∃ x, x = holdsF s pre := ⟨_, rfl⟩
  obtain ⟨pv, hpv⟩ : ∃ x, x = L.prog := ⟨_, rfl⟩
  obtain ⟨av, hav⟩ : ∃ x, x = post.valid := ⟨_, rfl⟩
  obtain ⟨cd, hcd⟩ : ∃ x, x = codeF s L 200 := ⟨_, rfl⟩
  obtain ⟨hq, hhq⟩ : ∃ x, x = holdsF (afterF s L 200) post := ⟨_, rfl⟩
  have E : Hid (tryF s pre L post = if !(hp && (pv && av)) then 0 else if cd = 1 then 2 else if cd ≠ 0 then 4 else if hq then 1 else 3) := by show _ = _; rw [hhp, hpv, hav, hcd, hhq]; rfl
  replace hhp := Lib.hid hhp
  replace hpv := Lib.hid hpv
  replace hav := Lib.hid hav
  replace hcd := Lib.hid hcd
  replace hhq := Lib.hid hhq
  go_enter Try.func72, Try.ntmps72
  obtain ⟨k0, k1, k2⟩ := blk3 w 58 48 48 #[.slice A1 s.values.length c1, .slice A2 s.heap.length c2] #[.slice A3 pre.facts.length c3, .slice A4 pre.atoms.length c4] #[.slice A5 post.facts.length c5, .slice A6 post.atoms.length c6]
  go_wp2_with fail
  refine (c_impl_Holds _ _ s pre _ (hS.out.below bel) (hA1.out.below bel)).mono ?_
  rintro e w1 ⟨rfl, hB1⟩
  rw [← hhp.out]
  have hB := bgo (w := w) bel hB1
  (replace k0 := k0.next hB1; replace qk0 := k0.cell; replace rk0 := k0.frozen; replace lk0 := k0.lt; replace k1 := k1.next hB1; replace qk1 := k1.cell; replace rk1 := k1.frozen; replace lk1 := k1.lt; replace k2 := k2.next hB1; replace qk2 := k2.cell; replace rk2 := k2.frozen; replace lk2 := k2.lt)
  clear hB1
  cases hp
  · go_wp2_with fail
    go_ret
    rw [E.out]
    exact ⟨rfl, bel⟩
  go_wp2_with fail
  refine (c_impl_ProgramValid L A c _ (hP.out.1.below hB) hP.out.len hP.out.small).mono ?_
  rintro e w2 ⟨rfl, hB2⟩
  rw [← hpv.out]
  (replace hB := bgo hB hB2; replace k0 := k0.next hB2; replace qk0 := k0.cell; replace rk0 := k0.frozen; replace lk0 := k0.lt; replace k1 := k1.next hB2; replace qk1 := k1.cell; replace rk1 := k1.frozen; replace lk1 := k1.lt; replace k2 := k2.next hB2; replace qk2 := k2.cell; replace rk2 := k2.frozen; replace lk2 := k2.lt)
  clear hB2
  cases pv
  · go_wp2_with fail
    go_ret
    rw [E.out]
    exact ⟨rfl, bel⟩
  go_wp2_with fail
  refine (c_impl_AssertionValid _ post _ (hA2.out.below hB)).mono ?_
  rintro e w3 ⟨rfl, hB3⟩
  rw [← hav.out]
  (replace hB := bgo hB hB3; replace k0 := k0.next hB3; replace qk0 := k0.cell; replace rk0 := k0.frozen; replace lk0 := k0.lt; replace k1 := k1.next hB3; replace qk1 := k1.cell; replace rk1 := k1.frozen; replace lk1 := k1.lt; replace k2 := k2.next hB3; replace qk2 := k2.cell; replace rk2 := k2.frozen; replace lk2 := k2.lt)
  clear hB3
  cases av
  · go_wp2_with fail
    go_ret
    rw [E.out]
    exact ⟨rfl, bel⟩
  go_wp2_with fail
  refine (c_impl_RunProgram _ s A c L 200 _ (hS.out.below hB) (hP.out.1.below hB) hB.size hP.out.len hP.out.small).mono ?_
  rintro e w4 ⟨r, rfl, oR, hB4⟩
  rw [← hcd.out]
  have hSR := Lib.hid oR.reads
  (replace hB := bgo hB hB4; replace k0 := k0.next hB4; replace qk0 := k0.cell; replace rk0 := k0.frozen; replace lk0 := k0.lt; replace k1 := k1.next hB4; replace qk1 := k1.cell; replace rk1 := k1.frozen; replace lk1 := k1.lt; replace k2 := k2.next hB4; replace qk2 := k2.cell; replace rk2 := k2.frozen; replace lk2 := k2.lt)
  clear hB4
  obtain ⟨fv, hv, rfl, o1, o2, -⟩ := oR
  obtain ⟨F1, d1, rfl, -⟩ := o1.reads
  obtain ⟨G1, d2, rfl, -⟩ := o2.reads
  clear o1 o2
  by_cases c1' : cd = 1
  · subst c1'
    go_wp2_with fail
    go_ret
    rw [E.out]
    exact ⟨rfl, bel⟩
  have cb1 : (cd == 1) = false := beq_false_of_ne c1'
  by_cases c0 : cd = 0
  case neg =>
    have cb0 : (cd != 0) = true := by simpa using c0
    have E2 : Hid (tryF s pre L post = 4) := by show _ = _; rw [E.out]; simp [c0, c1']
    clear E c0 c1'
    go_wp2_with fail
    go_ret
    rw [E2.out]
    exact ⟨rfl, bel⟩
  subst c0
  have E2 : Hid (tryF s pre L post = if hq then 1 else 3) := by show _ = _; rw [E.out]; rfl
  clear E c1' cb1
  go_wp2_with fail
  refine (c_impl_Holds _ _ (afterF s L 200) post _ (hSR.out.below bel) (hA2.out.below bel)).mono ?_
  rintro e w5 ⟨rfl, hB5⟩
  rw [← hhq.out]
  have hBB := bgo (w := w) bel hB5
  clear hB5 hB
  cases hq
  all_goals
    go_wp2_with fail
    go_ret
    rw [E2.out]
    exact ⟨rfl, bel⟩
--@ spec.TryTriple
set_option maxRecDepth 100000 in
set_option maxHeartbeats 3200000 in
theorem c_spec_TryTriple {lo hi lo1 hi1 lo2 hi2 lo' : Nat} (v v1 v2 : Value) (s : Ste) (pre post : Asn) (A : Option Addr) (c : Nat) (L : Cms) (w : World) (h : StateV w lo hi v s) (h1 : AsnV w lo1 hi1 v1 pre) (hV : CmsW w lo' w.heap.size A L) (h2 : AsnV w lo2 hi2 v2 post) :
    Calls Try.prog 71 #[v, v1, .slice A L.len c, v2] w fun e w' => e = .returned (.int .i64 (tryF s pre L post)) ∧ Below w.heap.size w w' := by
  have hS := Lib.hid h
  have hA1 := Lib.hid h1
  have hA2 := Lib.hid h2
  have hP := Lib.hid hV
  obtain ⟨A1, c1, A2, c2, rfl, -, -⟩ := h
  obtain ⟨A3, c3, A4, c4, rfl, -, -⟩ := h1
  obtain ⟨A5, c5, A6, c6, rfl, -, -⟩ := h2
  clear hV
  obtain ⟨hp, hhp⟩ : ∃ x, x = holdsF s pre := ⟨_, rfl⟩
  obtain ⟨pv, hpv⟩ : ∃ x, x = L.prog := ⟨_, rfl⟩
  obtain ⟨av, hav⟩ : ∃ x, x = post.valid := ⟨_, rfl⟩
  obtain ⟨cd, hcd⟩ : ∃ x, x = codeF s L 200 := ⟨_, rfl⟩
  obtain ⟨hq, hhq⟩ : ∃ x, x = holdsF (afterF s L 200) post := ⟨_, rfl⟩
  have E : Hid (tryF s pre L post = if !(hp && (pv && av)) then 0 else if cd = 1 then 2 else if cd ≠ 0 then 4 else if hq then 1 else 3) := by show _ = _; rw [hhp, hpv, hav, hcd, hhq]; rfl
  replace hhp := Lib.hid hhp
  replace hpv := Lib.hid hpv
  replace hav := Lib.hid hav
  replace hcd := Lib.hid hcd
  replace hhq := Lib.hid hhq
  go_enter Try.func71, Try.ntmps71
  obtain ⟨k0, k1, k2⟩ := blk3 w 58 48 48 #[.slice A1 s.values.length c1, .slice A2 s.heap.length c2] #[.slice A3 pre.facts.length c3, .slice A4 pre.atoms.length c4] #[.slice A5 post.facts.length c5, .slice A6 post.atoms.length c6]
  go_wp2_with fail
  refine (c_spec_Holds _ _ s pre _ (hS.out.below bel) (hA1.out.below bel)).mono ?_
  rintro e w1 ⟨rfl, hB1⟩
  rw [← hhp.out]
  have hB := bgo (w := w) bel hB1
  (replace k0 := k0.next hB1; replace qk0 := k0.cell; replace rk0 := k0.frozen; replace lk0 := k0.lt; replace k1 := k1.next hB1; replace qk1 := k1.cell; replace rk1 := k1.frozen; replace lk1 := k1.lt; replace k2 := k2.next hB1; replace qk2 := k2.cell; replace rk2 := k2.frozen; replace lk2 := k2.lt)
  clear hB1
  cases hp
  · go_wp2_with fail
    go_ret
    rw [E.out]
    exact ⟨rfl, bel⟩
  go_wp2_with fail
  refine (c_spec_ProgramValid L A c _ (hP.out.1.below hB) hP.out.len hP.out.small hP.out.sz).mono ?_
  rintro e w2 ⟨rfl, hB2⟩
  rw [← hpv.out]
  (replace hB := bgo hB hB2; replace k0 := k0.next hB2; replace qk0 := k0.cell; replace rk0 := k0.frozen; replace lk0 := k0.lt; replace k1 := k1.next hB2; replace qk1 := k1.cell; replace rk1 := k1.frozen; replace lk1 := k1.lt; replace k2 := k2.next hB2; replace qk2 := k2.cell; replace rk2 := k2.frozen; replace lk2 := k2.lt)
  clear hB2
  cases pv
  · go_wp2_with fail
    go_ret
    rw [E.out]
    exact ⟨rfl, bel⟩
  go_wp2_with fail
  refine (c_spec_AssertionValid _ post _ (hA2.out.below hB)).mono ?_
  rintro e w3 ⟨rfl, hB3⟩
  rw [← hav.out]
  (replace hB := bgo hB hB3; replace k0 := k0.next hB3; replace qk0 := k0.cell; replace rk0 := k0.frozen; replace lk0 := k0.lt; replace k1 := k1.next hB3; replace qk1 := k1.cell; replace rk1 := k1.frozen; replace lk1 := k1.lt; replace k2 := k2.next hB3; replace qk2 := k2.cell; replace rk2 := k2.frozen; replace lk2 := k2.lt)
  clear hB3
  cases av
  · go_wp2_with fail
    go_ret
    rw [E.out]
    exact ⟨rfl, bel⟩
  go_wp2_with fail
  refine (c_spec_RunProgram _ s A c L 200 _ (hS.out.below hB) (hP.out.1.below hB) hP.out.len hP.out.small hP.out.sz).mono ?_
  rintro e w4 ⟨r, rfl, oR, hB4⟩
  rw [← hcd.out]
  have hSR := Lib.hid oR.reads
  (replace hB := bgo hB hB4; replace k0 := k0.next hB4; replace qk0 := k0.cell; replace rk0 := k0.frozen; replace lk0 := k0.lt; replace k1 := k1.next hB4; replace qk1 := k1.cell; replace rk1 := k1.frozen; replace lk1 := k1.lt; replace k2 := k2.next hB4; replace qk2 := k2.cell; replace rk2 := k2.frozen; replace lk2 := k2.lt)
  clear hB4
  obtain ⟨fv, hv, rfl, o1, o2, -⟩ := oR
  obtain ⟨F1, d1, rfl, -⟩ := o1.reads
  obtain ⟨G1, d2, rfl, -⟩ := o2.reads
  clear o1 o2
  by_cases c1' : cd = 1
  · subst c1'
    go_wp2_with fail
    go_ret
    rw [E.out]
    exact ⟨rfl, bel⟩
  have cb1 : (cd == 1) = false := beq_false_of_ne c1'
  by_cases c0 : cd = 0
  case neg =>
    have cb0 : (cd != 0) = true := by simpa using c0
    have E2 : Hid (tryF s pre L post = 4) := by show _ = _; rw [E.out]; simp [c0, c1']
    clear E c0 c1'
    go_wp2_with fail
    go_ret
    rw [E2.out]
    exact ⟨rfl, bel⟩
  subst c0
  have E2 : Hid (tryF s pre L post = if hq then 1 else 3) := by show _ = _; rw [E.out]; rfl
  clear E c1' cb1
  go_wp2_with fail
  refine (c_spec_l4Holds _ _ (afterF s L 200) post _ (hSR.out.below bel) (hA2.out.below bel) (after_valid hcd.out.symm) hav.out.symm).mono ?_
  rintro e w5 ⟨rfl, hB5⟩
  rw [← hhq.out]
  have hBB := bgo (w := w) bel hB5
  clear hB5 hB
  cases hq
  all_goals
    go_wp2_with fail
    go_ret
    rw [E2.out]
    exact ⟨rfl, bel⟩
--@
end Go.Proofs.Ytcgifoghggajgaa
