/- Running programs: impl.runProgram, RunSteps, RunProgram. -/
import Derived.Test.YtcgifoghggajgaaMRunF
import Derived.Test.YtcgifoghggajgaaCmdJ
set_option linter.unusedSimpArgs false
set_option linter.unusedVariables false
namespace Go.Proofs.Ytcgifoghggajgaa
open Go Go.RowKit Go.Proofs

--@ impl.runProgram
set_option maxRecDepth 100000 in
set_option maxHeartbeats 3200000 in
theorem runProgram_no {lo hi lo' hi' : Nat} (v : Value) (s : Ste) (A : Option Addr) (c : Nat) (L : Cms) (f : Int) (w : World) (h : StateV w lo hi v s) (hV : CmsV w lo' hi' A L) (hlen : L.len ≤ 1049600) (hsm : L.small 1049600) (hn : runsP s L f = false) :
    Calls Try.prog 110 #[v, .slice A L.len c, .int .i64 f] w fun e w' => e = .returned (.tuple #[.agg #[.slice none 0 0, .slice none 0 0, .int .i64 0], .int .i64 4]) ∧ Below w.heap.size w w' := by
  have hS := Lib.hid h
  obtain ⟨A1, c1, A2, c2, rfl, -, -⟩ := h
  replace hV := Lib.hid hV
  replace hsm := Lib.hid hsm
  obtain ⟨sv, hsv⟩ : ∃ x, x = s.valid := ⟨_, rfl⟩
  obtain ⟨pv, hpv⟩ : ∃ x, x = L.prog := ⟨_, rfl⟩
  have hn' : (sv && (pv && decide (0 ≤ f ∧ f ≤ 200))) = false := by rw [hsv, hpv]; exact hn
  replace hsv := Lib.hid hsv
  replace hpv := Lib.hid hpv
  clear hn
  go_enter Try.func110, Try.ntmps110
  go_wp2_with fail
  refine (c_impl_StateValid _ s _ (hS.out.below bel)).mono ?_
  rintro e w1 ⟨rfl, hB1⟩
  rw [← hsv.out]
  have hB := bgo (w := w) bel hB1
  have k0 : Blk w1 w.heap.size 58 #[.slice A1 s.values.length c1, .slice A2 s.heap.length c2] := Blk.next blks hB1
  have k1 : Blk w1 (w.heap.size + 1) tM #[.slice none 0 0, .slice none 0 0, .int .i64 0] := Blk.next blks hB1
  (replace qk0 := k0.cell; replace rk0 := k0.frozen; replace lk0 := k0.lt; replace qk1 := k1.cell; replace rk1 := k1.frozen; replace lk1 := k1.lt)
  clear hB1
  cases sv
  · clear hn'
    go_wp2_with fail
    refine bodyPost_ret (v := .tuple #[.agg #[.slice none 0 0, .slice none 0 0, .int .i64 0], .int .i64 4]) (by simp [results, Try.results110, go_sem, qk1, lk1]) rfl ⟨rfl, bel⟩
  go_wp2_with fail
  refine (c_impl_ProgramValid L A c _ (hV.out.below hB) hlen hsm.out).mono ?_
  rintro e w2 ⟨rfl, hB2⟩
  rw [← hpv.out]
  (replace hB := bgo hB hB2; replace k0 := k0.next hB2; replace qk0 := k0.cell; replace rk0 := k0.frozen; replace lk0 := k0.lt; replace k1 := k1.next hB2; replace qk1 := k1.cell; replace rk1 := k1.frozen; replace lk1 := k1.lt)
  clear hB2
  cases pv
  · clear hn'
    go_wp2_with fail
    refine bodyPost_ret (v := .tuple #[.agg #[.slice none 0 0, .slice none 0 0, .int .i64 0], .int .i64 4]) (by simp [results, Try.results110, go_sem, qk1, lk1]) rfl ⟨rfl, bel⟩
  have hf : f < 0 ∨ 200 < f := by
    have : ¬ (0 ≤ f ∧ f ≤ 200) := by simpa using hn'
    omega
  clear hn'
  rcases hf with hf | hf
  · go_wp2_with fail
    refine bodyPost_ret (v := .tuple #[.agg #[.slice none 0 0, .slice none 0 0, .int .i64 0], .int .i64 4]) (by simp [results, Try.results110, go_sem, qk1, lk1]) rfl ⟨rfl, bel⟩
  · have hf0 : ¬ f < 0 := by omega
    go_wp2_with fail
    refine bodyPost_ret (v := .tuple #[.agg #[.slice none 0 0, .slice none 0 0, .int .i64 0], .int .i64 4]) (by simp [results, Try.results110, go_sem, qk1, lk1]) rfl ⟨rfl, bel⟩
theorem runsP_yes {s : Ste} {L : Cms} {f : Int} (h : runsP s L f = true) : s.valid = true ∧ L.prog = true ∧ L.shape 4 = true ∧ ∃ n : Nat, f = n ∧ n ≤ 200 := by
  simp only [runsP, Bool.and_eq_true, decide_eq_true_eq] at h
  obtain ⟨h1, h2, h3, h4⟩ := h
  refine ⟨h1, h2, ?_, f.toNat, by omega, by omega⟩
  unfold Cms.prog at h2
  simp only [Bool.and_eq_true] at h2
  exact h2.1
set_option maxRecDepth 100000 in
set_option maxHeartbeats 3200000 in
theorem runProgram_yes {lo hi lo' hi' : Nat} (v : Value) (s : Ste) (A : Option Addr) (c : Nat) (L : Cms) (n : Nat) (w : World) (h : StateV w lo hi v s) (hV : CmsV w lo' hi' A L) (hhi : hi' ≤ w.heap.size) (hlen : L.len ≤ 1049600) (hsm : L.small 1049600) (hs : s.valid = true) (hp : L.prog = true) (hsh : L.shape 4 = true) (hn : n ≤ 200) :
    Calls Try.prog 110 #[v, .slice A L.len c, .int .i64 (n : Int)] w fun e w' => ∃ fv hv, e = .returned (.tuple #[.agg #[fv, hv, .int .i64 ((L.run s n).2.2 : Int)], .int .i64 (L.run s n).2.1]) ∧ StateO w' w.heap.size (.agg #[fv, hv]) (L.run s n).1 ∧ Below w.heap.size w w' := by
  have hS := Lib.hid h
  obtain ⟨A1, c1, A2, c2, rfl, -, -⟩ := h
  have hlist := Lib.hid (list_go _ L (Nat.lt_succ_self _) A c 4 lo' hi')
  replace hV := Lib.hid hV
  replace hsm := Lib.hid hsm
  replace hs := Lib.hid hs
  replace hp := Lib.hid hp
  replace hsh := Lib.hid hsh
  obtain ⟨P, hP⟩ : ∃ P, P = L.run s n := ⟨_, rfl⟩
  rw [← hP]
  replace hP := Lib.hid hP
  obtain ⟨s2, c2', f2⟩ := P
  have hn0 : ¬ ((n : Int) < 0) := by omega
  have hn2 : ¬ ((200 : Int) < n) := by omega
  go_enter Try.func110, Try.ntmps110
  go_wp2_with fail
  refine (c_impl_StateValid _ s _ (hS.out.below bel)).mono ?_
  rintro e w1 ⟨rfl, hB1⟩
  rw [hs.out]
  have hB := bgo (w := w) bel hB1
  have k0 : Blk w1 w.heap.size 58 #[.slice A1 s.values.length c1, .slice A2 s.heap.length c2] := Blk.next blks hB1
  have k1 : Blk w1 (w.heap.size + 1) tM #[.slice none 0 0, .slice none 0 0, .int .i64 0] := Blk.next blks hB1
  (replace qk0 := k0.cell; replace rk0 := k0.frozen; replace lk0 := k0.lt; replace qk1 := k1.cell; replace rk1 := k1.frozen; replace lk1 := k1.lt)
  clear hB1
  go_wp2_with fail
  refine (c_impl_ProgramValid L A c _ (hV.out.below hB) hlen hsm.out).mono ?_
  rintro e w2 ⟨rfl, hB2⟩
  rw [hp.out]
  (replace hB := bgo hB hB2; replace k0 := k0.next hB2; replace qk0 := k0.cell; replace rk0 := k0.frozen; replace lk0 := k0.lt; replace k1 := k1.next hB2; replace qk1 := k1.cell; replace rk1 := k1.frozen; replace lk1 := k1.lt)
  clear hB2
  go_wp2_with fail
  refine (c_impl_copyState _ s _ (hS.out.below hB)).mono ?_
  rintro e w3 ⟨r, rfl, o, hB3⟩
  have hz2 := hB.size
  have hk1 := k1.lt
  (replace hB := bgo hB hB3; replace k0 := k0.next hB3; replace qk0 := k0.cell; replace rk0 := k0.frozen; replace lk0 := k0.lt; replace k1 := k1.next hB3; replace qk1 := k1.cell; replace rk1 := k1.frozen; replace lk1 := k1.lt)
  have hz3 := hB3.size
  clear hB3
  obtain ⟨fv, hv, rfl, o1, o2, dj⟩ := o
  obtain ⟨F, e1, rfl, -⟩ := o1.reads
  obtain ⟨G, e2, rfl, -⟩ := o2.reads
  have hm : Mach (w3.alloc (.cells #[.slice F s.values.length e1, .slice G s.heap.length e2, .int .i64 (n : Int)] tM)) w2.heap.size w3.heap.size s n :=
    ⟨hz3, _, _, Blk.new _ _ _, _, _, rfl, o1.below (bbox (Below.refl _ _) _), o2.below (bbox (Below.refl _ _) _), dj⟩
  have hl := hlist.out w2.heap.size w3.heap.size hlen hsm.out hsh.out (by omega) s n _ hm hs.out hn ((hV.out.below hB).below (bbox (Below.refl _ _) _))
  rw [← hP.out] at hl
  replace hl := Lib.hid hl
  have k13 := (k1.alloc (.cells #[.slice F s.values.length e1, .slice G s.heap.length e2, .int .i64 (n : Int)] tM))
  clear o1 o2 dj hm hlist
  go_wp2_with fail
  refine hl.out.mono ?_
  rintro e w4 ⟨rfl, hM4, hR4⟩
  have hB3 : Below w.heap.size w (w3.alloc (.cells #[.slice F s.values.length e1, .slice G s.heap.length e2, .int .i64 (n : Int)] tM)) := bbox hB _
  have hB4 : Below w.heap.size w w4 := hB3.trans (hR4.below.mono hz2)
  have k14 : Blk w4 (w.heap.size + 1) tM #[.slice none 0 0, .slice none 0 0, .int .i64 0] := k13.below hR4.below hk1
  obtain ⟨F2, d1, G2, d2, -, kM, p1, p2, dj⟩ := hM4.form
  have q := kM.cell
  have lt := kM.lt
  have q1 := k14.cell
  have r1 := k14.frozen
  have l1 := k14.lt
  have hne : w.heap.size + 1 ≠ w3.heap.size := by have := k1.lt; omega
  replace p1 := Lib.hid (p1.lower (base' := w.heap.size) hz2)
  replace p2 := Lib.hid (p2.lower (base' := w.heap.size) hz2)
  replace dj := Lib.hid dj
  have KB := Lib.hid k14
  clear qk0 rk0 lk0 qk1 rk1 lk1 k0 k1 k13 hl hM4 hR4 kM k14 hB3
  go_wp2_with fail
  refine bodyPost_ret (v := .tuple #[.agg #[.slice F2 s2.values.length d1, .slice G2 s2.heap.length d2, .int .i64 (f2 : Int)], .int .i64 c2']) (by simp [results, Try.results110, go_sem, q1, l1]) rfl ⟨_, _, rfl, ⟨_, _, rfl, ?_, ?_, dj.out⟩, ?_⟩
  · exact ((p1.out.setT KB.out (by decide) 0 _).setT (KB.out.set_ 0 _) (by decide) 1 _).setT ((KB.out.set_ 0 _).set_ 1 _) (by decide) 2 _
  · exact ((p2.out.setT KB.out (by decide) 0 _).setT (KB.out.set_ 0 _) (by decide) 1 _).setT ((KB.out.set_ 0 _).set_ 1 _) (by decide) 2 _
  · exact ((hB4.setCell (p := ⟨w.heap.size + 1, 0, none⟩) (by simp) _).setCell (p := ⟨w.heap.size + 1, 1, none⟩) (by simp) _).setCell (p := ⟨w.heap.size + 1, 2, none⟩) (by simp) _

--@ impl.RunSteps
set_option maxRecDepth 100000 in
set_option maxHeartbeats 3200000 in
theorem c_impl_RunSteps {lo hi lo' hi' : Nat} (v : Value) (s : Ste) (A : Option Addr) (c : Nat) (L : Cms) (f : Int) (w : World) (h : StateV w lo hi v s) (hV : CmsV w lo' hi' A L) (hhi : hi' ≤ w.heap.size) (hlen : L.len ≤ 1049600) (hsm : L.small 1049600) :
    Calls Try.prog 46 #[v, .slice A L.len c, .int .i64 f] w fun e w' => e = .returned (.int .i64 (stepsF s L f)) ∧ Below w.heap.size w w' := by
  have hS := Lib.hid h
  obtain ⟨A1, c1, A2, c2, rfl, -, -⟩ := h
  replace hV := Lib.hid hV
  replace hsm := Lib.hid hsm
  cases hr : runsP s L f
  · have E : Hid (stepsF s L f = 0) := by show _ = _; unfold stepsF; rw [hr]; rfl
    replace hr := Lib.hid hr
    go_enter Try.func46, Try.ntmps46
    go_wp2_with fail
    refine (runProgram_no _ s A c L f _ (hS.out.below bel) (hV.out.below bel) hlen hsm.out hr.out).mono ?_
    rintro e w1 ⟨rfl, hB1⟩
    have hB := bgo (w := w) bel hB1
    go_wp2_with fail
    go_ret
    rw [E.out]
    exact ⟨rfl, bel⟩
  obtain ⟨h1, h2, h3, n, rfl, hn⟩ := runsP_yes hr
  have E : Hid (stepsF s L (n : Int) = (n : Int) - ((L.run s n).2.2 : Int)) := by show _ = _; unfold stepsF; rw [hr]; rfl
  have hok := Cms.run_ok L s n h1
  obtain ⟨P, hP⟩ : ∃ P, P = L.run s n := ⟨_, rfl⟩
  have hrun := runProgram_yes (.agg #[.slice A1 s.values.length c1, .slice A2 s.heap.length c2]) s A c L n (w.alloc (.cells #[.slice A1 s.values.length c1, .slice A2 s.heap.length c2] 58)) (hS.out.below bel) (hV.out.below bel) (by simp; omega) hlen hsm.out h1 h2 h3 hn
  rw [← hP] at E hok hrun
  obtain ⟨s2, c2', f2⟩ := P
  simp only at E hok hrun
  obtain ⟨-, k2, k3, k4⟩ := hok
  replace hrun := Lib.hid hrun
  have hc4 : (c2' == 4) = false := beq_false_of_ne (by omega)
  clear hr h1 h2 h3 hP
  go_enter Try.func46, Try.ntmps46
  go_wp2_with fail
  refine hrun.out.mono ?_
  rintro e w1 ⟨fv, hv, rfl, o, hB1⟩
  have hB := bgo (w := w) bel hB1
  obtain ⟨fv', hv', e, o1, o2, -⟩ := o
  injection e with e; injection e with e; injection e with ea eb; injection eb with eb; subst ea eb
  obtain ⟨F, e1, rfl, -⟩ := o1.reads
  obtain ⟨G, e2, rfl, -⟩ := o2.reads
  clear o1 o2 hrun
  go_wp2_with fail
  go_ret
  rw [E.out]
  exact ⟨rfl, bel⟩

--@ impl.RunProgram
theorem zeroS : (⟨[], []⟩ : Ste) = ⟨[], []⟩ := rfl
set_option maxRecDepth 100000 in
set_option maxHeartbeats 3200000 in
theorem c_impl_RunProgram {lo hi lo' hi' : Nat} (v : Value) (s : Ste) (A : Option Addr) (c : Nat) (L : Cms) (f : Int) (w : World) (h : StateV w lo hi v s) (hV : CmsV w lo' hi' A L) (hhi : hi' ≤ w.heap.size) (hlen : L.len ≤ 1049600) (hsm : L.small 1049600) :
    Calls Try.prog 49 #[v, .slice A L.len c, .int .i64 f] w fun e w' => ∃ r, e = .returned (.tuple #[r, .int .i64 (codeF s L f)]) ∧ StateO w' w.heap.size r (afterF s L f) ∧ Below w.heap.size w w' := by
  have hS := Lib.hid h
  obtain ⟨A1, c1, A2, c2, rfl, -, -⟩ := h
  replace hV := Lib.hid hV
  replace hsm := Lib.hid hsm
  have hZ : ∀ W : World, StateO W w.heap.size (.agg #[.slice none 0 0, .slice none 0 0]) ⟨[], []⟩ := fun W => ⟨_, _, rfl, IntsO.nil _ _, IntsO.nil _ _, fun g hg => by cases hg⟩
  replace hZ := Lib.hid hZ
  cases hr : runsP s L f
  · have E : Hid (codeF s L f = 4) := by show _ = _; unfold codeF; rw [hr]; rfl
    have E2 : Hid (afterF s L f = ⟨[], []⟩) := by show _ = _; unfold afterF; rw [E.out]; rfl
    replace hr := Lib.hid hr
    obtain ⟨k0, k1⟩ := blk2 w 58 58 #[.slice A1 s.values.length c1, .slice A2 s.heap.length c2] #[.slice none 0 0, .slice none 0 0]
    go_enter Try.func49, Try.ntmps49
    go_wp2_with fail
    refine (runProgram_no _ s A c L f _ (hS.out.below bel) (hV.out.below bel) hlen hsm.out hr.out).mono ?_
    rintro e w1 ⟨rfl, hB1⟩
    have hB := bgo (w := w) bel hB1
    (replace k0 := k0.next hB1; replace qk0 := k0.cell; replace rk0 := k0.frozen; replace lk0 := k0.lt; replace k1 := k1.next hB1; replace qk1 := k1.cell; replace rk1 := k1.frozen; replace lk1 := k1.lt)
    clear hB1
    go_wp2_with fail
    refine bodyPost_ret (v := .tuple #[.agg #[.slice none 0 0, .slice none 0 0], .int .i64 4]) (by simp [results, Try.results49, go_sem, qk1, lk1]) rfl ⟨_, by rw [E.out], ?_, bel⟩
    rw [E2.out]
    exact hZ.out _
  obtain ⟨h1, h2, h3, n, rfl, hn⟩ := runsP_yes hr
  have E : Hid (codeF s L (n : Int) = (L.run s n).2.1) := by show _ = _; unfold codeF; rw [hr]; rfl
  have E2 : Hid (afterF s L (n : Int) = if (L.run s n).2.1 = 0 then (L.run s n).1 else ⟨[], []⟩) := by show _ = _; unfold afterF; rw [E.out]; rfl
  have hok := Cms.run_ok L s n h1
  obtain ⟨P, hP⟩ : ∃ P, P = L.run s n := ⟨_, rfl⟩
  obtain ⟨k0, k1⟩ := blk2 w 58 58 #[.slice A1 s.values.length c1, .slice A2 s.heap.length c2] #[.slice none 0 0, .slice none 0 0]
  have hrun := runProgram_yes (.agg #[.slice A1 s.values.length c1, .slice A2 s.heap.length c2]) s A c L n ((w.alloc (.cells #[.slice A1 s.values.length c1, .slice A2 s.heap.length c2] 58)).alloc (.cells #[.slice none 0 0, .slice none 0 0] 58)) (hS.out.below bel) (hV.out.below bel) (by simp; omega) hlen hsm.out h1 h2 h3 hn
  rw [← hP] at E E2 hok hrun
  obtain ⟨s2, c2', f2⟩ := P
  simp only at E E2 hok hrun
  obtain ⟨-, k2, k3, k4⟩ := hok
  replace hrun := Lib.hid hrun
  replace hP := Lib.hid hP
  clear hr h1 h2 h3
  go_enter Try.func49, Try.ntmps49
  go_wp2_with fail
  refine hrun.out.mono ?_
  rintro e w1 ⟨fv, hv, rfl, o, hB1⟩
  have hB := bgo (w := w) bel hB1
  have hz1 := hB1.size
  simp only [World.size_alloc] at hz1
  (replace k0 := k0.next hB1; replace qk0 := k0.cell; replace rk0 := k0.frozen; replace lk0 := k0.lt; replace k1 := k1.next hB1; replace qk1 := k1.cell; replace rk1 := k1.frozen; replace lk1 := k1.lt)
  clear hB1
  obtain ⟨fv', hv', e, o1, o2, dj⟩ := o
  injection e with e; injection e with e; injection e with ea eb; injection eb with eb; subst ea eb
  obtain ⟨F, e1, rfl, -⟩ := o1.reads
  obtain ⟨G, e2, rfl, -⟩ := o2.reads
  replace o1 := Lib.hid (o1.lower (base' := w.heap.size) (by simp; omega))
  replace o2 := Lib.hid (o2.lower (base' := w.heap.size) (by simp; omega))
  replace dj := Lib.hid dj
  have KB := Lib.hid k1
  clear hrun
  by_cases hc : c2' = 0
  · subst hc
    have E3 : Hid (afterF s L (n : Int) = s2) := by show _ = _; rw [E2.out, if_pos rfl]
    clear E2
    go_wp2_with fail
    refine bodyPost_ret (v := .tuple #[.agg #[.slice F s2.values.length e1, .slice G s2.heap.length e2], .int .i64 0]) (by simp [results, Try.results49, go_sem, qk1, lk1]) rfl ⟨_, by rw [E.out], ?_, ?_⟩
    · rw [E3.out]
      refine ⟨_, _, rfl, ?_, ?_, dj.out⟩
      · exact ((o1.out.setT KB.out (by decide) 0 _).setT (KB.out.set_ 0 _) (by decide) 1 _).below (bbox (Below.refl _ _) _)
      · exact ((o2.out.setT KB.out (by decide) 0 _).setT (KB.out.set_ 0 _) (by decide) 1 _).below (bbox (Below.refl _ _) _)
    · exact bbox ((hB.setCell (p := ⟨w.heap.size + 1, 0, none⟩) (by simp) _).setCell (p := ⟨w.heap.size + 1, 1, none⟩) (by simp) _) _
  · have E3 : Hid (afterF s L (n : Int) = ⟨[], []⟩) := by show _ = _; rw [E2.out, if_neg hc]
    have hcb : (c2' != 0) = true := by simpa using hc
    clear E2
    go_wp2_with fail
    refine bodyPost_ret (v := .tuple #[.agg #[.slice none 0 0, .slice none 0 0], .int .i64 c2']) (by simp [results, Try.results49, go_sem, qk1, lk1]) rfl ⟨_, by rw [E.out], ?_, ?_⟩
    · rw [E3.out]
      exact hZ.out _
    · exact bbox ((hB.setCell (p := ⟨w.heap.size + 1, 0, none⟩) (by simp) _).setCell (p := ⟨w.heap.size + 1, 1, none⟩) (by simp) _) _
--@
end Go.Proofs.Ytcgifoghggajgaa
