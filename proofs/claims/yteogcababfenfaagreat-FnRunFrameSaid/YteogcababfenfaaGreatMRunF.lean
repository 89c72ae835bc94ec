/- Running programs: impl.runProgram, RunSteps, RunProgram. -/
import Derived.Test.YteogcababfenfaaGreatMRunC
import Derived.Test.YteogcababfenfaaGreatCmdJ
import Derived.IntWalk
set_option linter.unusedSimpArgs false
set_option linter.unusedVariables false
namespace Go.Proofs.YteogcababfenfaaGreat
open Go Go.RowKit Go.Proofs

--@ impl.runProgram
set_option maxRecDepth 100000 in
set_option maxHeartbeats 3200000 in
theorem runProgram_no {lo hi lo' hi' : Nat} (v : Value) (s : Ste) (A : Option Addr) (c : Nat) (L : Cms) (f : Int) (w : World) (h : StateV w lo hi v s) (hV : CmsV w lo' hi' A L) (hlen : L.len ≤ 1049600) (hsm : L.small 1049600) (hn : runsP s L f = false) :
    Calls Tryz.prog 35 #[v, .slice A L.len c, .int .i64 f] w fun e w' => e = .returned (.tuple #[.agg #[.slice none 0 0, .slice none 0 0, .int .i64 0], .int .i64 4]) ∧ Below w.heap.size w w' := by
  have hS := Lib.hid h
  obtain ⟨A1, c1, A2, c2, rfl, -, -⟩ := h
  replace hV := Lib.hid hV
  replace hsm := Lib.hid hsm
  obtain ⟨sv, hsv⟩ : ∃ x, x = s.valid := ⟨_, rfl⟩
  obtain ⟨pv, hpv⟩ : ∃ x, x = L.prog := ⟨_, rfl⟩
  have hn' : (sv && (pv && decide (0 ≤ f ∧ f ≤ 200))) = false := by rw [hsv, hpv]; exact hn
  replace hsv := Lib.hid hsv
  replace hpv := Lib.hid hpv
  clear hn
  go_enter Tryz.func35, Tryz.ntmps35
  go_wp2_with fail
  refine (c_impl_StateValid _ s _ (hS.out.below bel)).mono ?_
  rintro e w1 ⟨rfl, hB1⟩
  rw [← hsv.out]
  have hB := bgo (w := w) bel hB1
  have k0 : Blk w1 w.heap.size 25 #[.slice A1 s.values.length c1, .slice A2 s.heap.length c2] := Blk.next blks hB1
  have k1 : Blk w1 (w.heap.size + 1) tM #[.slice none 0 0, .slice none 0 0, .int .i64 0] := Blk.next blks hB1
  (replace qk0 := k0.cell; replace rk0 := k0.frozen; replace lk0 := k0.lt; replace qk1 := k1.cell; replace rk1 := k1.frozen; replace lk1 := k1.lt)
  clear hB1
  cases sv
  · clear hn'
    go_wp2_with fail
    refine bodyPost_ret (v := .tuple #[.agg #[.slice none 0 0, .slice none 0 0, .int .i64 0], .int .i64 4]) (by simp [results, Tryz.results35, go_sem, qk1, lk1]) rfl ⟨rfl, bel⟩
  go_wp2_with fail
  refine (c_impl_ProgramValid L A c _ (hV.out.below hB) hlen hsm.out).mono ?_
  rintro e w2 ⟨rfl, hB2⟩
  rw [← hpv.out]
  (replace hB := bgo hB hB2; replace k0 := k0.next hB2; replace qk0 := k0.cell; replace rk0 := k0.frozen; replace lk0 := k0.lt; replace k1 := k1.next hB2; replace qk1 := k1.cell; replace rk1 := k1.frozen; replace lk1 := k1.lt)
  clear hB2
  cases pv
  · clear hn'
    go_wp2_with fail
    refine bodyPost_ret (v := .tuple #[.agg #[.slice none 0 0, .slice none 0 0, .int .i64 0], .int .i64 4]) (by simp [results, Tryz.results35, go_sem, qk1, lk1]) rfl ⟨rfl, bel⟩
  have hf : f < 0 ∨ 200 < f := by
    have : ¬ (0 ≤ f ∧ f ≤ 200) := by simpa using hn'
    omega
  clear hn'
  rcases hf with hf | hf
  · go_wp2_with fail
    refine bodyPost_ret (v := .tuple #[.agg #[.slice none 0 0, .slice none 0 0, .int .i64 0], .int .i64 4]) (by simp [results, Tryz.results35, go_sem, qk1, lk1]) rfl ⟨rfl, bel⟩
  · have hf0 : ¬ f < 0 := by omega
    go_wp2_with fail
    refine bodyPost_ret (v := .tuple #[.agg #[.slice none 0 0, .slice none 0 0, .int .i64 0], .int .i64 4]) (by simp [results, Tryz.results35, go_sem, qk1, lk1]) rfl ⟨rfl, bel⟩
theorem runsP_yes {s : Ste} {L : Cms} {f : Int} (h : runsP s L f = true) : s.valid = true ∧ L.prog = true ∧ L.shape 4 = true ∧ ∃ n : Nat, f = n ∧ n ≤ 200 := by
  simp only [runsP, Bool.and_eq_true, decide_eq_true_eq] at h
  obtain ⟨h1, h2, h3, h4⟩ := h
  refine ⟨h1, h2, ?_, f.toNat, by omega, by omega⟩
  unfold Cms.prog at h2
  simp only [Bool.and_eq_true] at h2
  exact h2.1
set_option maxRecDepth 100000 in
set_option maxHeartbeats 3200000 in
theorem runProgram_yes {lo hi lo' hi' : Nat} (v : Value) (s : Ste) (A : Option Addr) (c : Nat) (L : Cms) (n : Nat) (w : World) (h : StateV w lo hi v s) (hV : CmsV w lo' hi' A L) (hhi : hi' ≤ w.heap.size) (hlen : L.len ≤ 1049600) (hsm : L.small 1049600) (hs : s.valid = true) (hp : L.prog = true) (hsh : L.shape 4 = true) (hn : n ≤ 200) :
    Calls Tryz.prog 35 #[v, .slice A L.len c, .int .i64 (n : Int)] w fun e w' => ∃ fv hv, e = .returned (.tuple #[.agg #[fv, hv, .int .i64 ((L.run s n).2.2 : Int)], .int .i64 (L.run s n).2.1]) ∧ StateO w' w.heap.size (.agg #[fv, hv]) (L.run s n).1 ∧ Below w.heap.size w w' := by
  have hS := Lib.hid h
  obtain ⟨A1, c1, A2, c2, rfl, -, -⟩ := h
  have hlist := Lib.hid (list_go _ L (Nat.lt_succ_self _) A c 4 lo' hi')
  replace hV := Lib.hid hV
  replace hsm := Lib.hid hsm
  replace hs := Lib.hid hs
  replace hp := Lib.hid hp
  replace hsh := Lib.hid hsh
  obtain ⟨P, hP⟩ : ∃ P, P = L.run s n := ⟨_, rfl⟩
  rw [← hP]
  replace hP := Lib.hid hP
  obtain ⟨s2, c2', f2⟩ := P
  have hn0 : ¬ ((n : Int) < 0) := by omega
  have hn2 : ¬ ((200 : Int) < n) := by omega
  go_enter Tryz.func35, Tryz.ntmps35
  go_wp2_with fail
  refine (c_impl_StateValid _ s _ (hS.out.below bel)).mono ?_
  rintro e w1 ⟨rfl, hB1⟩
  rw [hs.out]
  have hB := bgo (w := w) bel hB1
  have k0 : Blk w1 w.heap.size 25 #[.slice A1 s.values.length c1, .slice A2 s.heap.length c2] := Blk.next blks hB1
  have k1 : Blk w1 (w.heap.size + 1) tM #[.slice none 0 0, .slice none 0 0, .int .i64 0] := Blk.next blks hB1
  (replace qk0 := k0.cell; replace rk0 := k0.frozen; replace lk0 := k0.lt; replace qk1 := k1.cell; replace rk1 := k1.frozen; replace lk1 := k1.lt)
  clear hB1
  go_wp2_with fail
  refine (c_impl_ProgramValid L A c _ (hV.out.below hB) hlen hsm.out).mono ?_
  rintro e w2 ⟨rfl, hB2⟩
  rw [hp.out]
  (replace hB := bgo hB hB2; replace k0 := k0.next hB2; replace qk0 := k0.cell; replace rk0 := k0.frozen; replace lk0 := k0.lt; replace k1 := k1.next hB2; replace qk1 := k1.cell; replace rk1 := k1.frozen; replace lk1 := k1.lt)
  clear hB2
  go_wp2_with fail
  refine (c_impl_copyState _ s _ (hS.out.below hB)).mono ?_
  rintro e w3 ⟨r, rfl, o, hB3⟩
  have hz2 := hB.size
  have hk1 := k1.lt
  (replace hB := bgo hB hB3; replace k0 := k0.next hB3; replace qk0 := k0.cell; replace rk0 := k0.frozen; replace lk0 := k0.lt; replace k1 := k1.next hB3; replace qk1 := k1.cell; replace rk1 := k1.frozen; replace lk1 := k1.lt)
  have hz3 := hB3.size
  clear hB3
  obtain ⟨fv, hv, rfl, o1, o2, dj⟩ := o
  obtain ⟨F, e1, rfl, -⟩ := o1.reads
  obtain ⟨G, e2, rfl, -⟩ := o2.reads
  have hm : Mach (w3.alloc (.cells #[.slice F s.values.length e1, .slice G s.heap.length e2, .int .i64 (n : Int)] tM)) w2.heap.size w3.heap.size s n :=
    ⟨hz3, _, _, Blk.new _ _ _, _, _, rfl, o1.below (bbox (Below.refl _ _) _), o2.below (bbox (Below.refl _ _) _), dj⟩
  have hl := hlist.out w2.heap.size w3.heap.size hlen hsm.out hsh.out (by omega) s n _ hm hs.out hn ((hV.out.below hB).below (bbox (Below.refl _ _) _))
  rw [← hP.out] at hl
  replace hl := Lib.hid hl
  have k13 := (k1.alloc (.cells #[.slice F s.values.length e1, .slice G s.heap.length e2, .int .i64 (n : Int)] tM))
  clear o1 o2 dj hm hlist
  go_wp2_with fail
  refine hl.out.mono ?_
  rintro e w4 ⟨rfl, hM4, hR4⟩
  have hB3 : Below w.heap.size w (w3.alloc (.cells #[.slice F s.values.length e1, .slice G s.heap.length e2, .int .i64 (n : Int)] tM)) := bbox hB _
  have hB4 : Below w.heap.size w w4 := hB3.trans (hR4.below.mono hz2)
  have k14 : Blk w4 (w.heap.size + 1) tM #[.slice none 0 0, .slice none 0 0, .int .i64 0] := k13.below hR4.below hk1
  obtain ⟨F2, d1, G2, d2, -, kM, p1, p2, dj⟩ := hM4.form
  have q := kM.cell
  have lt := kM.lt
  have q1 := k14.cell
  have r1 := k14.frozen
  have l1 := k14.lt
  have hne : w.heap.size + 1 ≠ w3.heap.size := by have := k1.lt; omega
  replace p1 := Lib.hid (p1.lower (base' := w.heap.size) hz2)
  replace p2 := Lib.hid (p2.lower (base' := w.heap.size) hz2)
  replace dj := Lib.hid dj
  have KB := Lib.hid k14
  clear qk0 rk0 lk0 qk1 rk1 lk1 k0 k1 k13 hl hM4 hR4 kM k14 hB3
  go_wp2_with fail
  refine bodyPost_ret (v := .tuple #[.agg #[.slice F2 s2.values.length d1, .slice G2 s2.heap.length d2, .int .i64 (f2 : Int)], .int .i64 c2']) (by simp [results, Tryz.results35, go_sem, q1, l1]) rfl ⟨_, _, rfl, ⟨_, _, rfl, ?_, ?_, dj.out⟩, ?_⟩
  · exact ((p1.out.setT KB.out (by decide) 0 _).setT (KB.out.set_ 0 _) (by decide) 1 _).setT ((KB.out.set_ 0 _).set_ 1 _) (by decide) 2 _
  · exact ((p2.out.setT KB.out (by decide) 0 _).setT (KB.out.set_ 0 _) (by decide) 1 _).setT ((KB.out.set_ 0 _).set_ 1 _) (by decide) 2 _
  · exact ((hB4.setCell (p := ⟨w.heap.size + 1, 0, none⟩) (by simp) _).setCell (p := ⟨w.heap.size + 1, 1, none⟩) (by simp) _).setCell (p := ⟨w.heap.size + 1, 2, none⟩) (by simp) _

--@ impl.RunSteps
--@ impl.RunProgram
set_option maxRecDepth 100000 in
set_option maxHeartbeats 3200000 in
theorem c_impl_RunProgram {lo hi lo' hi' : Nat} (v : Value) (s : Ste) (A : Option Addr) (c : Nat) (L : Cms) (f : Int) (w : World) (h : StateV w lo hi v s) (hV : CmsV w lo' hi' A L) (hhi : hi' ≤ w.heap.size) (hlen : L.len ≤ 1049600) (hsm : L.small 1049600) :
    Calls Tryz.prog 12 #[v, .slice A L.len c, .int .i64 f] w fun e w' => ∃ r, e = .returned (.tuple #[r, .int .i64 (codeF s L f)]) ∧ StateO w' w.heap.size r (afterF s L f) ∧ Below w.heap.size w w' := by
  have hS := Lib.hid h
  obtain ⟨A1, c1, A2, c2, rfl, -, -⟩ := h
  replace hV := Lib.hid hV
  replace hsm := Lib.hid hsm
  have hZ : ∀ W : World, StateO W w.heap.size (.agg #[.slice none 0 0, .slice none 0 0]) ⟨[], []⟩ := fun W => ⟨_, _, rfl, IntsO.nil _ _, IntsO.nil _ _, fun g hg => by cases hg⟩
  replace hZ := Lib.hid hZ
  cases hr : runsP s L f
  · have E : Hid (codeF s L f = 4) := by show _ = _; unfold codeF; rw [hr]; rfl
    have E2 : Hid (afterF s L f = ⟨[], []⟩) := by show _ = _; unfold afterF; rw [E.out]; rfl
    replace hr := Lib.hid hr
    obtain ⟨k0, k1⟩ := blk2 w 25 25 #[.slice A1 s.values.length c1, .slice A2 s.heap.length c2] #[.slice none 0 0, .slice none 0 0]
    go_enter Tryz.func12, Tryz.ntmps12
    go_wp2_with fail
    refine (runProgram_no _ s A c L f _ (hS.out.below bel) (hV.out.below bel) hlen hsm.out hr.out).mono ?_
    rintro e w1 ⟨rfl, hB1⟩
    have hB := bgo (w := w) bel hB1
    (replace k0 := k0.next hB1; replace qk0 := k0.cell; replace rk0 := k0.frozen; replace lk0 := k0.lt; replace k1 := k1.next hB1; replace qk1 := k1.cell; replace rk1 := k1.frozen; replace lk1 := k1.lt)
    clear hB1
    go_wp2_with fail
    refine bodyPost_ret (v := .tuple #[.agg #[.slice none 0 0, .slice none 0 0], .int .i64 4]) (by simp [results, Tryz.results12, go_sem, qk1, lk1]) rfl ⟨_, by rw [E.out], ?_, bel⟩
    rw [E2.out]
    exact hZ.out _
  obtain ⟨h1, h2, h3, n, rfl, hn⟩ := runsP_yes hr
  have E : Hid (codeF s L (n : Int) = (L.run s n).2.1) := by show _ = _; unfold codeF; rw [hr]; rfl
  have E2 : Hid (afterF s L (n : Int) = if (L.run s n).2.1 = 0 then (L.run s n).1 else ⟨[], []⟩) := by show _ = _; unfold afterF; rw [E.out]; rfl
  have hok := Cms.run_ok L s n h1
  obtain ⟨P, hP⟩ : ∃ P, P = L.run s n := ⟨_, rfl⟩
  obtain ⟨k0, k1⟩ := blk2 w 25 25 #[.slice A1 s.values.length c1, .slice A2 s.heap.length c2] #[.slice none 0 0, .slice none 0 0]
  have hrun := runProgram_yes (.agg #[.slice A1 s.values.length c1, .slice A2 s.heap.length c2]) s A c L n ((w.alloc (.cells #[.slice A1 s.values.length c1, .slice A2 s.heap.length c2] 25)).alloc (.cells #[.slice none 0 0, .slice none 0 0] 25)) (hS.out.below bel) (hV.out.below bel) (by simp; omega) hlen hsm.out h1 h2 h3 hn
  rw [← hP] at E E2 hok hrun
  obtain ⟨s2, c2', f2⟩ := P
  simp only at E E2 hok hrun
  obtain ⟨-, k2, k3, k4⟩ := hok
  replace hrun := Lib.hid hrun
  replace hP := Lib.hid hP
  clear hr h1 h2 h3
  go_enter Tryz.func12, Tryz.ntmps12
  go_wp2_with fail
  refine hrun.out.mono ?_
  rintro e w1 ⟨fv, hv, rfl, o, hB1⟩
  have hB := bgo (w := w) bel hB1
  have hz1 := hB1.size
  simp only [World.size_alloc] at hz1
  (replace k0 := k0.next hB1; replace qk0 := k0.cell; replace rk0 := k0.frozen; replace lk0 := k0.lt; replace k1 := k1.next hB1; replace qk1 := k1.cell; replace rk1 := k1.frozen; replace lk1 := k1.lt)
  clear hB1
  obtain ⟨fv', hv', e, o1, o2, dj⟩ := o
  injection e with e; injection e with e; injection e with ea eb; injection eb with eb; subst ea eb
  obtain ⟨F, e1, rfl, -⟩ := o1.reads
  obtain ⟨G, e2, rfl, -⟩ := o2.reads
  replace o1 := Lib.hid (o1.lower (base' := w.heap.size) (by simp; omega))
  replace o2 := Lib.hid (o2.lower (base' := w.heap.size) (by simp; omega))
  replace dj := Lib.hid dj
  have KB := Lib.hid k1
  clear hrun
  by_cases hc : c2' = 0
  · subst hc
    have E3 : Hid (afterF s L (n : Int) = s2) := by show _ = _; rw [E2.out, if_pos rfl]
    clear E2
    go_wp2_with fail
    refine bodyPost_ret (v := .tuple #[.agg #[.slice F s2.values.length e1, .slice G s2.heap.length e2], .int .i64 0]) (by simp [results, Tryz.results12, go_sem, qk1, lk1]) rfl ⟨_, by rw [E.out], ?_, ?_⟩
    · rw [E3.out]
      refine ⟨_, _, rfl, ?_, ?_, dj.out⟩
      · exact ((o1.out.setT KB.out (by decide) 0 _).setT (KB.out.set_ 0 _) (by decide) 1 _).below (bbox (Below.refl _ _) _)
      · exact ((o2.out.setT KB.out (by decide) 0 _).setT (KB.out.set_ 0 _) (by decide) 1 _).below (bbox (Below.refl _ _) _)
    · exact bbox ((hB.setCell (p := ⟨w.heap.size + 1, 0, none⟩) (by simp) _).setCell (p := ⟨w.heap.size + 1, 1, none⟩) (by simp) _) _
  · have E3 : Hid (afterF s L (n : Int) = ⟨[], []⟩) := by show _ = _; rw [E2.out, if_neg hc]
    have hcb : (c2' != 0) = true := by simpa using hc
    clear E2
    go_wp2_with fail
    refine bodyPost_ret (v := .tuple #[.agg #[.slice none 0 0, .slice none 0 0], .int .i64 c2']) (by simp [results, Tryz.results12, go_sem, qk1, lk1]) rfl ⟨_, by rw [E.out], ?_, ?_⟩
    · rw [E3.out]
      exact hZ.out _
    · exact bbox ((hB.setCell (p := ⟨w.heap.size + 1, 0, none⟩) (by simp) _).setCell (p := ⟨w.heap.size + 1, 1, none⟩) (by simp) _) _
--@
end Go.Proofs.YteogcababfenfaaGreat

/- Running programs: the spec's basic commands. -/
namespace Go.Proofs.YteogcababfenfaaGreat
open Go Go.RowKit Go.Proofs

theorem Blk.drewY {w : World} {g : Nat} {t : TypeId} {cs : Array Value} (h : Blk w g t cs) : Blk w.drew g t cs := h
theorem zeroO (w : World) {B : Nat} : StateO w B (.agg #[.slice none 0 0, .slice none 0 0]) ⟨[], []⟩ := ⟨_, _, rfl, IntsO.nil _ _, IntsO.nil _ _, fun g hg => by cases hg⟩
def basS (P : Ste × Int) : Ste := if P.2 = 0 then P.1 else ⟨[], []⟩
--@ spec.AllocCell
set_option maxRecDepth 100000 in
set_option maxHeartbeats 3200000 in
theorem c_spec_AllocX {lo hi : Nat} (v : Value) (s : Ste) (w : World) (h : StateV w lo hi v s) (hs : s.valid = true) :
    Calls Tryz.prog 126 #[v] w fun e w' => ((freeK s.heap = none ∧ e = .returned (.tuple #[.agg #[.slice none 0 0, .slice none 0 0], .int .i64 0, .bool false])) ∨ (∃ (k : Nat) (r : Value), freeK s.heap = some k ∧ e = .returned (.tuple #[r, .int .i64 ((k : Int) + 1), .bool true]) ∧ StateO w' w.heap.size r ⟨s.values, s.heap.set k 0⟩)) ∧ Below w.heap.size w w' := by
  have hV := Lib.hid h
  obtain ⟨A1, c1, A2, c2, rfl, -, -⟩ := h
  have HS := Lib.hid hs
  have H8 := Lib.hid (Ste.valid_len hs)
  clear hs
  go_enter Tryz.func126, Tryz.ntmps126
  obtain ⟨k0, k1⟩ := blk2 w tSt tSt #[.slice A1 s.values.length c1, .slice A2 s.heap.length c2] #[.slice none 0 0, .slice none 0 0]
  have hB : Below w.heap.size w ((w.alloc (.cells #[.slice A1 s.values.length c1, .slice A2 s.heap.length c2] tSt)).alloc (.cells #[.slice none 0 0, .slice none 0 0] tSt)) := bel
  go_wp2_with fail
  go_loopw [5] (fun i wr => ∃ k : Nat, k ≤ 8 ∧ i = .int .i64 ((k : Int) + 1) ∧ Hid (∀ j : Nat, j < k → allocB s.heap ((j : Int) + 1) = true) ∧ Blk wr w.heap.size tSt #[.slice A1 s.values.length c1, .slice A2 s.heap.length c2] ∧ Blk wr (w.heap.size + 1) tSt #[.slice none 0 0, .slice none 0 0] ∧ Hid (Below w.heap.size w wr)) (fun i _ => 10 - (intOf i).toNat)
  case atStart => exact ⟨0, by omega, rfl, Lib.hid (fun j hj => by omega), k0, k1, hB⟩
  case round =>
    clear k0 k1 hB
    obtain ⟨k, hk, rfl, HALL, k0, k1, HB⟩ := hrel
    have qk0 := k0.cell
    have rk0 := k0.frozen
    have lk0 := k0.lt
    have qk1 := k1.cell
    have rk1 := k1.frozen
    have lk1 := k1.lt
    have hsz := HB.out.size
    by_cases hlt : k < 8
    · have hki : (k : Int) + 1 ≤ 8 := by omega
      go_wp2_with fail
      refine (c_spec_StateValid _ s _ (hV.out.below HB.out)).mono ?_
      rintro e w1 ⟨rfl, hB1⟩
      rw [HS.out]
      have hB2 : Below w.heap.size w w1 := bgo HB.out hB1
      (replace k0 := k0.next hB1; replace qk0 := k0.cell; replace rk0 := k0.frozen; replace lk0 := k0.lt; replace k1 := k1.next hB1; replace qk1 := k1.cell; replace rk1 := k1.frozen; replace lk1 := k1.lt)
      clear hB1
      go_wp2_with fail
      refine (c_spec_l2Has _ s _ _ (hV.out.below hB2) H8.out.2).mono ?_
      rintro e w2 ⟨rfl, hB3'⟩
      have hB3 : Below w.heap.size w w2 := bgo hB2 hB3'
      (replace k0 := k0.next hB3'; replace qk0 := k0.cell; replace rk0 := k0.frozen; replace lk0 := k0.lt; replace k1 := k1.next hB3'; replace qk1 := k1.cell; replace rk1 := k1.frozen; replace lk1 := k1.lt)
      clear hB3'
      cases ha : allocB s.heap ((k : Int) + 1)
      · have HF := Lib.hid (freeK_some hlt ha HALL.out)
        clear ha HALL
        go_wp2_with fail
        refine (c_l2Copy _ s _ (hV.out.below hB3)).mono ?_
        rintro e w4 ⟨r, rfl, o, hB4⟩
        have hz := hB3.size
        (replace hB3 := bgo hB3 hB4; replace k0 := k0.next hB4; replace qk0 := k0.cell; replace rk0 := k0.frozen; replace lk0 := k0.lt; replace k1 := k1.next hB4; replace qk1 := k1.cell; replace rk1 := k1.frozen; replace lk1 := k1.lt)
        clear hB4
        obtain ⟨fv, av, rfl, o1, o2, dj⟩ := o
        obtain ⟨F, e1, rfl, -⟩ := o1.reads
        obtain ⟨G, e2, rfl, -⟩ := o2.reads
        have hnl : (k : Int) < (s.heap.length : Int) := by have := H8.out.2; omega
        obtain ⟨g, cur, -, rfl, hg, kg, hc, hset⟩ := (o2.lower (base' := w.heap.size) hz).cell_ (k := k) (by omega)
        have q := kg.cell k
        rw [hc] at q
        obtain ⟨y, hy⟩ : ∃ y, y = s.heap[k]'(by omega) := ⟨_, rfl⟩
        rw [← hy] at q
        have f := kg.frozen k
        have hgl := kg.lt
        have HSET := Lib.hid (hset 0)
        have O1 := Lib.hid (o1.lower (base' := w.heap.size) hz)
        have HD := Lib.hid dj
        have hne : w.heap.size + 1 ≠ g := k1.ne_ kg (by decide)
        clear hset o1 o2 dj hc hy
        go_wp2_with fail
        have k6 := k1.far (p := ⟨g, k, none⟩) hne (.int .i64 0)
        refine bodyPost_ret (v := .tuple #[.agg #[.slice F s.values.length e1, .slice (some ⟨g, 0, none⟩) s.heap.length e2], .int .i64 ((k : Int) + 1), .bool true]) (by simp [results, Tryz.results126, go_sem, qk1, lk1]) rfl ⟨Or.inr ⟨k, _, HF.out, rfl, ⟨_, _, rfl, ?_, ?_, HD.out⟩⟩, ?_⟩
        · exact (((O1.out.set_ne (q := ⟨g, k, none⟩) (fun e => HD.out g e rfl) (.int .i64 0)).setT k6 (by decide) 0 _).setT (k6.set_ 0 _) (by decide) 1 _).below (bbox (Below.refl _ _) _)
        · exact ((HSET.out.setT k6 (by decide) 0 _).setT (k6.set_ 0 _) (by decide) 1 _).below (bbox (Below.refl _ _) _)
        · exact bbox (((hB3.setCell (p := ⟨g, k, none⟩) hg _).setCell (p := ⟨w.heap.size + 1, 0, none⟩) (by simp only; omega) _).setCell (p := ⟨w.heap.size + 1, 1, none⟩) (by simp only; omega) _) _
      · have HA2 : Hid (∀ j : Nat, j < k + 1 → allocB s.heap ((j : Int) + 1) = true) := fun j hj => by
          rcases Nat.lt_or_ge j k with h | h
          · exact HALL.out j h
          · obtain rfl : j = k := by omega
            exact ha
        clear ha HALL
        go_wp2_with fail
        go_round
        case rel => exact ⟨k + 1, by omega, by go_num, HA2, k0, k1, hB3⟩
        case measure => simp [intOf]; omega
    · obtain rfl : k = 8 := by omega
      have hB := HB.out
      have HF := Lib.hid (freeK_none HALL.out)
      clear HALL
      go_wp2_with fail
      refine bodyPost_ret (v := .tuple #[.agg #[.slice none 0 0, .slice none 0 0], .int .i64 0, .bool false]) (by simp [results, Tryz.results126, go_sem, qk1]) rfl ⟨Or.inl ⟨HF.out, rfl⟩, bel⟩
--@ spec.l9Basic
set_option maxRecDepth 100000 in
set_option maxHeartbeats 3200000 in
theorem sbasic_set {lo hi : Nat} (v : Value) (s : Ste) (w : World) (m : Nat) (b : Int) (hm : m < 4) (hb : 0 ≤ b ∧ b ≤ 8) (t : Fct) (vF vA vB vE : Value) (h : StateV w lo hi v s) (hs : s.valid = true) :
    Calls Tryz.prog 85 #[v, .agg #[.int .i64 1, .int .i64 ((m : Int) + 1), .int .i64 b, .bool t.eq, .int .i64 t.a, .int .i64 t.b, vF, vA, vB, vE]] w fun e w' => ∃ r, e = .returned (.tuple #[r, .int .i64 (basicF s 1 ((m : Int) + 1) b).2]) ∧ StateO w' w.heap.size r (basS (basicF s 1 ((m : Int) + 1) b)) ∧ Below w.heap.size w w' := by
  have E : Hid (basicF s 1 ((m : Int) + 1) b = (⟨s.values.set m (tval s.values b), s.heap⟩, 0)) := by
    show _ = _
    unfold basicF
    rw [if_pos rfl, show ((m : Int) + 1 - 1).toNat = m by omega]
  have HB := Lib.hid hb
  have hm4 : (m : Int) < 4 := by omega
  clear hb
  have hV := Lib.hid h
  obtain ⟨A1, c1, A2, c2, rfl, h1, h2⟩ := h
  have h8 := Lib.hid (Ste.valid_len hs)
  have HS := Lib.hid hs
  have V1 := Lib.hid h1
  have V2 := Lib.hid h2
  obtain ⟨x, hx⟩ : ∃ x, x = tval s.values ((m : Int) + 1) := ⟨_, rfl⟩
  obtain ⟨y, hy⟩ : ∃ x, x = tval s.values b := ⟨_, rfl⟩
  have hxv : 0 ≤ x ∧ x ≤ 8 := by rw [hx]; exact tval_le (Ste.all_vals hs) _
  have hyv : 0 ≤ y ∧ y ≤ 8 := by rw [hy]; exact tval_le (Ste.all_vals hs) _
  replace hx := Lib.hid hx
  replace hy := Lib.hid hy
  clear hs h1 h2
  obtain ⟨k0, k1, k2⟩ := blk3 w tSt tC tSt #[.slice A1 s.values.length c1, .slice A2 s.heap.length c2] #[.int .i64 1, .int .i64 ((m : Int) + 1), .int .i64 b, .bool t.eq, .int .i64 t.a, .int .i64 t.b, vF, vA, vB, vE] #[.slice none 0 0, .slice none 0 0]
  go_enter Tryz.func85, Tryz.ntmps85
  go_wp2_with fail
  refine (c_l2Copy _ s _ (hV.out.below bel)).mono ?_
  rintro e w1 ⟨r, rfl, o, hB1⟩
  have hB := bgo (w := w) bel hB1
  have hz1 := hB1.size
  simp only [World.size_alloc] at hz1
  (replace k0 := k0.next hB1; replace qk0 := k0.cell; replace rk0 := k0.frozen; replace lk0 := k0.lt; replace k1 := k1.next hB1; replace qk1 := k1.cell; replace rk1 := k1.frozen; replace lk1 := k1.lt; replace k2 := k2.next hB1; replace qk2 := k2.cell; replace rk2 := k2.frozen; replace lk2 := k2.lt)
  clear hB1
  obtain ⟨fv, av, rfl, o1, o2, dj⟩ := o
  obtain ⟨F, e1, rfl, -⟩ := o1.reads
  obtain ⟨G, e2, rfl, -⟩ := o2.reads
  replace o1 := Lib.hid (o1.lower (base' := w.heap.size) (by simp; omega))
  replace o2 := Lib.hid (o2.lower (base' := w.heap.size) (by simp; omega))
  replace dj := Lib.hid dj
  go_wp2_with fail
  refine (c_spec_l1Value A1 c1 s.values ((m : Int) + 1) _ (V1.out.below (bbox hB _)) (by omega) (by rw [h8.out.1]; exact (by omega))).mono ?_
  rintro e w2 ⟨rfl, rfl⟩
  rw [← hx.out]
  obtain ⟨X, hX⟩ : ∃ X, X = w1.alloc (.cells #[.slice F s.values.length e1, .slice G s.heap.length e2] tSt) := ⟨_, rfl⟩
  replace hB : Below w.heap.size w X := by rw [hX]; exact bbox hB _
  replace k0 : Blk X w.heap.size tSt #[.slice A1 s.values.length c1, .slice A2 s.heap.length c2] := by rw [hX]; exact k0.alloc _
  replace k1 : Blk X (w.heap.size + 1) tC #[.int .i64 1, .int .i64 ((m : Int) + 1), .int .i64 b, .bool t.eq, .int .i64 t.a, .int .i64 t.b, vF, vA, vB, vE] := by rw [hX]; exact k1.alloc _
  replace k2 : Blk X (w.heap.size + 1 + 1) tSt #[.slice none 0 0, .slice none 0 0] := by rw [hX]; exact k2.alloc _
  have k3 : Blk X w1.heap.size tSt #[.slice F s.values.length e1, .slice G s.heap.length e2] := by rw [hX]; exact Blk.new _ _ _
  replace o1 : Hid (IntsO X w.heap.size (.slice F s.values.length e1) s.values) := by rw [hX]; exact o1.out.below (bbox (Below.refl _ _) _)
  replace o2 : Hid (IntsO X w.heap.size (.slice G s.heap.length e2) s.heap) := by rw [hX]; exact o2.out.below (bbox (Below.refl _ _) _)
  rw [← hX]
  clear hX
  (replace qk0 := k0.cell; replace rk0 := k0.frozen; replace lk0 := k0.lt; replace qk1 := k1.cell; replace rk1 := k1.frozen; replace lk1 := k1.lt; replace qk2 := k2.cell; replace rk2 := k2.frozen; replace lk2 := k2.lt; replace qk3 := k3.cell; replace rk3 := k3.frozen; replace lk3 := k3.lt)
  go_wp2_with fail
  refine (c_spec_l1Value A1 c1 s.values b _ (V1.out.below hB) HB.out.1 (by rw [h8.out.1]; exact HB.out.2)).mono ?_
  rintro e w2 ⟨rfl, rfl⟩
  rw [← hy.out]
  have E2 : Hid (basS (basicF s 1 ((m : Int) + 1) b) = ⟨s.values.set m y, s.heap⟩) := by show _ = _; rw [E.out, hy.out]; rfl
  have hvl := h8.out.1
  obtain ⟨gv, cur, -, rfl, hgv, kg, hc, hset⟩ := o1.out.cell_ (k := m) (by omega)
  have q := kg.cell m
  rw [hc] at q
  obtain ⟨z, hz⟩ : ∃ z, z = s.values[m]'(by omega) := ⟨_, rfl⟩
  rw [← hz] at q
  have fq := kg.frozen m
  have hgvl := kg.lt
  have hne2 : w.heap.size + 1 + 1 ≠ gv := k2.ne_ kg (by decide)
  have hne3 : w1.heap.size ≠ gv := k3.ne_ kg (by decide)
  have HSET := Lib.hid (hset y)
  have hml : (m : Int) < (s.values.length : Int) := by omega
  have hwm : IntKind.i64.wrap (m : Int) = (m : Int) := IntWalk.i64_in _ (by omega)
  clear hset hc hz hvl
  clear hwm
  go_wp2_with fail
  have K2 := k2.far (p := ⟨gv, m, none⟩) hne2 (.int .i64 y)
  refine bodyPost_ret (v := .tuple #[.agg #[.slice (some ⟨gv, 0, none⟩) s.values.length e1, .slice G s.heap.length e2], .int .i64 0]) (by simp [results, Tryz.results85, go_sem, qk2, lk2]) rfl ⟨_, by rw [E.out], ?_, ?_⟩
  · rw [E2.out]
    exact ⟨_, _, rfl, ((HSET.out.setT K2 (by decide) 0 _).setT (K2.set_ 0 _) (by decide) 1 _), (((o2.out.set_ne (q := ⟨gv, m, none⟩) (dj.out gv rfl) _).setT K2 (by decide) 0 _).setT (K2.set_ 0 _) (by decide) 1 _), dj.out⟩
  · exact ((hB.setCell (p := ⟨gv, m, none⟩) hgv _).setCell (p := ⟨w.heap.size + 1 + 1, 0, none⟩) (by simp only; omega) _).setCell (p := ⟨w.heap.size + 1 + 1, 1, none⟩) (by simp only; omega) _
--@ spec.l9Basic
set_option maxRecDepth 100000 in
set_option maxHeartbeats 3200000 in
theorem sbasic_load {lo hi : Nat} (v : Value) (s : Ste) (w : World) (m : Nat) (b : Int) (hm : m < 4) (hb : 0 ≤ b ∧ b ≤ 8) (t : Fct) (vF vA vB vE : Value) (h : StateV w lo hi v s) (hs : s.valid = true) :
    Calls Tryz.prog 85 #[v, .agg #[.int .i64 2, .int .i64 ((m : Int) + 1), .int .i64 b, .bool t.eq, .int .i64 t.a, .int .i64 t.b, vF, vA, vB, vE]] w fun e w' => ∃ r, e = .returned (.tuple #[r, .int .i64 (basicF s 2 ((m : Int) + 1) b).2]) ∧ StateO w' w.heap.size r (basS (basicF s 2 ((m : Int) + 1) b)) ∧ Below w.heap.size w w' := by
  have HB := Lib.hid hb
  have hm4 : (m : Int) < 4 := by omega
  clear hb
  have hV := Lib.hid h
  obtain ⟨A1, c1, A2, c2, rfl, h1, h2⟩ := h
  have h8 := Lib.hid (Ste.valid_len hs)
  have HS := Lib.hid hs
  have V1 := Lib.hid h1
  have V2 := Lib.hid h2
  obtain ⟨x, hx⟩ : ∃ x, x = tval s.values ((m : Int) + 1) := ⟨_, rfl⟩
  obtain ⟨y, hy⟩ : ∃ x, x = tval s.values b := ⟨_, rfl⟩
  have hxv : 0 ≤ x ∧ x ≤ 8 := by rw [hx]; exact tval_le (Ste.all_vals hs) _
  have hyv : 0 ≤ y ∧ y ≤ 8 := by rw [hy]; exact tval_le (Ste.all_vals hs) _
  replace hx := Lib.hid hx
  replace hy := Lib.hid hy
  clear hs h1 h2
  obtain ⟨k0, k1, k2⟩ := blk3 w tSt tC tSt #[.slice A1 s.values.length c1, .slice A2 s.heap.length c2] #[.int .i64 2, .int .i64 ((m : Int) + 1), .int .i64 b, .bool t.eq, .int .i64 t.a, .int .i64 t.b, vF, vA, vB, vE] #[.slice none 0 0, .slice none 0 0]
  go_enter Tryz.func85, Tryz.ntmps85
  go_wp2_with fail
  refine (c_l2Copy _ s _ (hV.out.below bel)).mono ?_
  rintro e w1 ⟨r, rfl, o, hB1⟩
  have hB := bgo (w := w) bel hB1
  have hz1 := hB1.size
  simp only [World.size_alloc] at hz1
  (replace k0 := k0.next hB1; replace qk0 := k0.cell; replace rk0 := k0.frozen; replace lk0 := k0.lt; replace k1 := k1.next hB1; replace qk1 := k1.cell; replace rk1 := k1.frozen; replace lk1 := k1.lt; replace k2 := k2.next hB1; replace qk2 := k2.cell; replace rk2 := k2.frozen; replace lk2 := k2.lt)
  clear hB1
  obtain ⟨fv, av, rfl, o1, o2, dj⟩ := o
  obtain ⟨F, e1, rfl, -⟩ := o1.reads
  obtain ⟨G, e2, rfl, -⟩ := o2.reads
  replace o1 := Lib.hid (o1.lower (base' := w.heap.size) (by simp; omega))
  replace o2 := Lib.hid (o2.lower (base' := w.heap.size) (by simp; omega))
  replace dj := Lib.hid dj
  go_wp2_with fail
  refine (c_spec_l1Value A1 c1 s.values ((m : Int) + 1) _ (V1.out.below (bbox hB _)) (by omega) (by rw [h8.out.1]; exact (by omega))).mono ?_
  rintro e w2 ⟨rfl, rfl⟩
  rw [← hx.out]
  obtain ⟨X, hX⟩ : ∃ X, X = w1.alloc (.cells #[.slice F s.values.length e1, .slice G s.heap.length e2] tSt) := ⟨_, rfl⟩
  replace hB : Below w.heap.size w X := by rw [hX]; exact bbox hB _
  replace k0 : Blk X w.heap.size tSt #[.slice A1 s.values.length c1, .slice A2 s.heap.length c2] := by rw [hX]; exact k0.alloc _
  replace k1 : Blk X (w.heap.size + 1) tC #[.int .i64 2, .int .i64 ((m : Int) + 1), .int .i64 b, .bool t.eq, .int .i64 t.a, .int .i64 t.b, vF, vA, vB, vE] := by rw [hX]; exact k1.alloc _
  replace k2 : Blk X (w.heap.size + 1 + 1) tSt #[.slice none 0 0, .slice none 0 0] := by rw [hX]; exact k2.alloc _
  have k3 : Blk X w1.heap.size tSt #[.slice F s.values.length e1, .slice G s.heap.length e2] := by rw [hX]; exact Blk.new _ _ _
  replace o1 : Hid (IntsO X w.heap.size (.slice F s.values.length e1) s.values) := by rw [hX]; exact o1.out.below (bbox (Below.refl _ _) _)
  replace o2 : Hid (IntsO X w.heap.size (.slice G s.heap.length e2) s.heap) := by rw [hX]; exact o2.out.below (bbox (Below.refl _ _) _)
  rw [← hX]
  clear hX
  (replace qk0 := k0.cell; replace rk0 := k0.frozen; replace lk0 := k0.lt; replace qk1 := k1.cell; replace rk1 := k1.frozen; replace lk1 := k1.lt; replace qk2 := k2.cell; replace rk2 := k2.frozen; replace lk2 := k2.lt; replace qk3 := k3.cell; replace rk3 := k3.frozen; replace lk3 := k3.lt)
  go_wp2_with fail
  refine (c_spec_l1Value A1 c1 s.values b _ (V1.out.below hB) HB.out.1 (by rw [h8.out.1]; exact HB.out.2)).mono ?_
  rintro e w2 ⟨rfl, rfl⟩
  rw [← hy.out]
  go_wp2_with fail
  refine (c_spec_l2Has _ s y _ (hV.out.below hB) h8.out.2).mono ?_
  rintro e w2 ⟨rfl, hB2⟩
  have hX := k3.lt
  replace o1 := Lib.hid (o1.out.below hB2)
  replace o2 := Lib.hid (o2.out.below hB2)
  (replace hB := bgo hB hB2; replace k0 := k0.next hB2; replace qk0 := k0.cell; replace rk0 := k0.frozen; replace lk0 := k0.lt; replace k1 := k1.next hB2; replace qk1 := k1.cell; replace rk1 := k1.frozen; replace lk1 := k1.lt; replace k2 := k2.next hB2; replace qk2 := k2.cell; replace rk2 := k2.frozen; replace lk2 := k2.lt; replace k3 := k3.next hB2; replace qk3 := k3.cell; replace rk3 := k3.frozen; replace lk3 := k3.lt)
  clear hB2
  cases ha : allocB s.heap y
  · have E : Hid (basicF s 2 ((m : Int) + 1) b = (s, 1)) := by
      show _ = _
      unfold basicF
      rw [if_neg (by decide), if_pos rfl, ← hy.out, ha]; rfl
    have E2 : Hid (basS (basicF s 2 ((m : Int) + 1) b) = ⟨[], []⟩) := by show _ = _; rw [E.out]; rfl
    clear ha
    go_wp2_with fail
    refine bodyPost_ret (v := .tuple #[.agg #[.slice none 0 0, .slice none 0 0], .int .i64 1]) (by simp [results, Tryz.results85, go_sem, qk2, lk2]) rfl ⟨_, by rw [E.out], ?_, ?_⟩
    · rw [E2.out]; exact zeroO _
    · first
        | exact bel
        | (exact (((hB).setCell (p := ⟨w.heap.size + 1 + 1, 0, none⟩) (by simp only; omega) _).setCell (p := ⟨w.heap.size + 1 + 1, 1, none⟩) (by simp only; omega) _))
        | (exact bbox (((hB).setCell (p := ⟨w.heap.size + 1 + 1, 0, none⟩) (by simp only; omega) _).setCell (p := ⟨w.heap.size + 1 + 1, 1, none⟩) (by simp only; omega) _) _)
  have hya := allocB_addr ha
  obtain ⟨n, rfl⟩ : ∃ n : Nat, y = (n : Int) + 1 := ⟨(y - 1).toNat, by omega⟩
  have E : Hid (basicF s 2 ((m : Int) + 1) b = (⟨s.values.set m (cont s.heap ((n : Int) + 1)), s.heap⟩, 0)) := by
    show _ = _
    unfold basicF
    rw [if_neg (by decide), if_pos rfl, ← hy.out, ha, if_pos rfl, show ((m : Int) + 1 - 1).toNat = m by omega]
  have hn8 : n < 8 := by omega
  obtain ⟨u, hu⟩ : ∃ u, u = cont s.heap ((n : Int) + 1) := ⟨_, rfl⟩
  have hug : u = s.heap[n]'(by have := h8.out.2; omega) := by
    rw [hu, cont, if_pos (by simp [addrB]; omega), show ((n : Int) + 1 - 1).toNat = n by omega, List.getElem?_eq_getElem (by have := h8.out.2; omega)]; rfl
  have E2 : Hid (basS (basicF s 2 ((m : Int) + 1) b) = ⟨s.values.set m u, s.heap⟩) := by show _ = _; rw [E.out, hu]; rfl
  have hnl : (n : Int) < (s.heap.length : Int) := by have := h8.out.2; omega
  obtain ⟨bh, oh, rfl, ph⟩ := (V2.out.below hB).at (k := n) (by omega)
  rw [← hug] at ph
  replace hu := Lib.hid hu
  replace hug := Lib.hid hug
  clear ha
  have hvl := h8.out.1
  obtain ⟨gv, cur, -, rfl, hgv, kg, hc, hset⟩ := o1.out.cell_ (k := m) (by omega)
  have q := kg.cell m
  rw [hc] at q
  obtain ⟨z, hz⟩ : ∃ z, z = s.values[m]'(by omega) := ⟨_, rfl⟩
  rw [← hz] at q
  have fq := kg.frozen m
  have hgvl := kg.lt
  have hne2 : w.heap.size + 1 + 1 ≠ gv := k2.ne_ kg (by decide)
  have hne3 : w1.heap.size ≠ gv := k3.ne_ kg (by decide)
  have HSET := Lib.hid (hset u)
  have hml : (m : Int) < (s.values.length : Int) := by omega
  have hwm : IntKind.i64.wrap (m : Int) = (m : Int) := IntWalk.i64_in _ (by omega)
  clear hset hc hz hvl
  have hwn : IntKind.i64.wrap (n : Int) = (n : Int) := IntWalk.i64_in _ (by omega)
  go_wp2_with fail
  refine wp_region_noPanic ?_
  refine wp_region_last' (S := (fun w' => (∀ j, w'.cell? ⟨w.heap.size, j, none⟩ = #[Value.slice A1 s.values.length c1, .slice (some ⟨bh, oh, none⟩) s.heap.length c2][j]?) ∧ (∀ j, w'.cell? ⟨w.heap.size + 1, j, none⟩ = #[.int .i64 2, .int .i64 ((m : Int) + 1), .int .i64 b, .bool t.eq, .int .i64 t.a, .int .i64 t.b, vF, vA, vB, vE][j]?) ∧ (∀ j, w'.cell? ⟨w1.heap.size, j, none⟩ = #[Value.slice (some ⟨gv, 0, none⟩) s.values.length e1, .slice G s.heap.length e2][j]?) ∧ w'.cell? ⟨bh, oh + n, none⟩ = some (.int .i64 u) ∧ w'.cell? ⟨gv, m, none⟩ = some (.int .i64 z) ∧ w'.frozen? ⟨gv, m, none⟩ = false)) (by simp) (by kernel_rfl) (by kernel_rfl) (⟨k0.cell, k1.cell, k3.cell, ph, q, fq⟩) (fun hHeld => ?_)
  simp only [List.dropLast, List.getLast, nopOf, List.cons_append, List.nil_append, List.length_cons, List.length_nil, Nat.zero_add, Nat.reduceAdd]
  refine wpAnyH_take (i := 0) (v := ?_) rfl (by kernel_rfl) (by kernel_rfl) (by kernel_rfl) (fun _ _ _ h => h) (Or.inl ⟨by rfl, fun w hSw => ?_⟩) hHeld ?_
  rotate_left
  · ((try dsimp only at hSw); go_split_ands; go_simp; (try with_reducible rfl))
  try simp only [Act.put, List.getElem_toArray, List.getElem_cons_zero, List.getElem_cons_succ, List.setIfInBounds_toArray, List.set_cons_zero, List.set_cons_succ]
  refine wpAnyH_take (i := 1) (v := ?_) rfl (by kernel_rfl) (by kernel_rfl) (by kernel_rfl) (fun _ _ _ h => h) (Or.inl ⟨by rfl, fun w hSw => ?_⟩) hHeld ?_
  rotate_left
  · ((try dsimp only at hSw); go_split_ands; go_simp; (try with_reducible rfl))
  try simp only [Act.put, List.getElem_toArray, List.getElem_cons_zero, List.getElem_cons_succ, List.setIfInBounds_toArray, List.set_cons_zero, List.set_cons_succ]
  refine wpAnyH_take (i := 2) (v := ?_) rfl (by kernel_rfl) (by kernel_rfl) (by kernel_rfl) (fun _ _ _ h => h) (Or.inl ⟨by rfl, fun w hSw => ?_⟩) hHeld ?_
  rotate_left
  · ((try dsimp only at hSw); go_split_ands; go_simp; (try with_reducible rfl))
  try simp only [Act.put, List.getElem_toArray, List.getElem_cons_zero, List.getElem_cons_succ, List.setIfInBounds_toArray, List.set_cons_zero, List.set_cons_succ]
  refine wpAnyH_take (i := 3) (v := ?_) rfl (by kernel_rfl) (by kernel_rfl) (by kernel_rfl) (fun _ _ _ h => h) (Or.inl ⟨by rfl, fun w hSw => ?_⟩) hHeld ?_
  rotate_left
  · ((try dsimp only at hSw); go_split_ands; go_simp; (try with_reducible rfl))
  try simp only [Act.put, List.getElem_toArray, List.getElem_cons_zero, List.getElem_cons_succ, List.setIfInBounds_toArray, List.set_cons_zero, List.set_cons_succ]
  refine wpAnyH_take (i := 4) (v := ?_) rfl (by kernel_rfl) (by kernel_rfl) (by kernel_rfl) (fun _ _ _ h => h) (Or.inl ⟨by rfl, fun w hSw => ?_⟩) hHeld ?_
  rotate_left
  · ((try dsimp only at hSw); go_split_ands; go_simp; (try with_reducible rfl))
  try simp only [Act.put, List.getElem_toArray, List.getElem_cons_zero, List.getElem_cons_succ, List.setIfInBounds_toArray, List.set_cons_zero, List.set_cons_succ]
  refine wpAnyH_take (i := 5) (v := ?_) rfl (by kernel_rfl) (by kernel_rfl) (by kernel_rfl) (fun _ _ _ h => h) (Or.inl ⟨by rfl, fun w hSw => ?_⟩) hHeld ?_
  rotate_left
  · ((try dsimp only at hSw); go_split_ands; go_simp; (try with_reducible rfl))
  try simp only [Act.put, List.getElem_toArray, List.getElem_cons_zero, List.getElem_cons_succ, List.setIfInBounds_toArray, List.set_cons_zero, List.set_cons_succ]
  refine wpAnyH_take (i := 6) (v := ?_) rfl (by kernel_rfl) (by kernel_rfl) (by kernel_rfl) (fun _ _ _ h => h) (Or.inl ⟨by rfl, fun w hSw => ?_⟩) hHeld ?_
  rotate_left
  · ((try dsimp only at hSw); go_split_ands; go_simp; (try with_reducible rfl))
  try simp only [Act.put, List.getElem_toArray, List.getElem_cons_zero, List.getElem_cons_succ, List.setIfInBounds_toArray, List.set_cons_zero, List.set_cons_succ]
  refine wpAnyH_take (i := 7) (v := ?_) rfl (by kernel_rfl) (by kernel_rfl) (by kernel_rfl) (fun _ _ _ h => h) (Or.inl ⟨by rfl, fun w hSw => ?_⟩) hHeld ?_
  rotate_left
  · ((try dsimp only at hSw); go_split_ands; go_simp; (try with_reducible rfl))
  try simp only [Act.put, List.getElem_toArray, List.getElem_cons_zero, List.getElem_cons_succ, List.setIfInBounds_toArray, List.set_cons_zero, List.set_cons_succ]
  refine wpAnyH_take (i := 8) (v := ?_) rfl (by kernel_rfl) (by kernel_rfl) (by kernel_rfl) (fun _ _ _ h => h) (Or.inl ⟨by rfl, fun w hSw => ?_⟩) hHeld ?_
  rotate_left
  · ((try dsimp only at hSw); go_split_ands; go_simp; (try with_reducible rfl))
  try simp only [Act.put, List.getElem_toArray, List.getElem_cons_zero, List.getElem_cons_succ, List.setIfInBounds_toArray, List.set_cons_zero, List.set_cons_succ]
  refine wpAnyH_take (i := 9) (v := ?_) rfl (by kernel_rfl) (by kernel_rfl) (by kernel_rfl) (fun _ _ _ h => h) (Or.inl ⟨by rfl, fun w hSw => ?_⟩) hHeld ?_
  rotate_left
  · ((try dsimp only at hSw); go_split_ands; go_simp; (try with_reducible rfl))
  try simp only [Act.put, List.getElem_toArray, List.getElem_cons_zero, List.getElem_cons_succ, List.setIfInBounds_toArray, List.set_cons_zero, List.set_cons_succ]
  refine wpAnyH_take (i := 10) (v := ?_) rfl (by kernel_rfl) (by kernel_rfl) (by kernel_rfl) (fun _ _ _ h => h) (Or.inl ⟨by rfl, fun w hSw => ?_⟩) hHeld ?_
  rotate_left
  · ((try dsimp only at hSw); go_split_ands; go_simp; (try with_reducible rfl))
  try simp only [Act.put, List.getElem_toArray, List.getElem_cons_zero, List.getElem_cons_succ, List.setIfInBounds_toArray, List.set_cons_zero, List.set_cons_succ]
  refine wpAnyH_take (i := 11) (v := ?_) rfl (by kernel_rfl) (by kernel_rfl) (by kernel_rfl) (fun _ _ _ h => h) (Or.inl ⟨by rfl, fun w hSw => ?_⟩) hHeld ?_
  rotate_left
  · ((try dsimp only at hSw); go_split_ands; go_simp; (try with_reducible rfl))
  try simp only [Act.put, List.getElem_toArray, List.getElem_cons_zero, List.getElem_cons_succ, List.setIfInBounds_toArray, List.set_cons_zero, List.set_cons_succ]
  refine wpAnyH_ready (rs := [12]) (by kernel_rfl) (by simp) ?_
  refine AllReadyH.cons rfl (fun K hK => ?_) AllReadyH.nil
  go_simp
  refine hK.out _ _ (⟨k0.cell, k1.cell, k3.cell, ph, q, fq⟩) (fun hHeld => ?_)
  clear hK K
  refine wpAnyH_done (by kernel_rfl) ?_ _
  unfold lastQ
  go_simp
  refine NoPanic.normal ?_
  obtain ⟨X2, hX2⟩ : ∃ W, W = (w2.setCell ⟨gv, m, none⟩ (.int .i64 u)).drew := ⟨_, rfl⟩
  rw [← hX2]
  have hBd : Below w.heap.size w X2 := by rw [hX2]; exact (hB.setCell (p := ⟨gv, m, none⟩) hgv _).drew
  have kd2 : Blk X2 (w.heap.size + 1 + 1) tSt #[.slice none 0 0, .slice none 0 0] := by rw [hX2]; exact (k2.far (p := ⟨gv, m, none⟩) hne2 _).drewY
  have kd3 : Blk X2 w1.heap.size tSt #[.slice (some ⟨gv, 0, none⟩) s.values.length e1, .slice G s.heap.length e2] := by rw [hX2]; exact (k3.far (p := ⟨gv, m, none⟩) hne3 _).drewY
  have HSETd : Hid (IntsO X2 w.heap.size (.slice (some ⟨gv, 0, none⟩) s.values.length e1) (s.values.set m u)) := by rw [hX2]; exact HSET.out
  have od2 : Hid (IntsO X2 w.heap.size (.slice G s.heap.length e2) s.heap) := by rw [hX2]; exact o2.out.set_ne (q := ⟨gv, m, none⟩) (dj.out gv rfl) _
  clear hwm hwn ph q fq hHeld hX2 HSET o1 o2 hB k2 k3 qk0 rk0 lk0 qk1 rk1 lk1 qk2 rk2 lk2 qk3 rk3 lk3 k0 k1 kg hgvl
  have qk2 := kd2.cell
  have rk2 := kd2.frozen
  have lk2 := kd2.lt
  have qk3 := kd3.cell
  have lk3 := kd3.lt
  go_wp2_with fail
  refine bodyPost_ret (v := .tuple #[.agg #[.slice (some ⟨gv, 0, none⟩) s.values.length e1, .slice G s.heap.length e2], .int .i64 0]) (by simp [results, Tryz.results85, go_sem, qk2, lk2]) rfl ⟨_, by rw [E.out], ?_, ?_⟩
  · rw [E2.out]
    exact ⟨_, _, rfl, ((HSETd.out.setT kd2 (by decide) 0 _).setT (kd2.set_ 0 _) (by decide) 1 _), ((od2.out.setT kd2 (by decide) 0 _).setT (kd2.set_ 0 _) (by decide) 1 _), dj.out⟩
  · exact (hBd.setCell (p := ⟨w.heap.size + 1 + 1, 0, none⟩) (by simp only; omega) _).setCell (p := ⟨w.heap.size + 1 + 1, 1, none⟩) (by simp only; omega) _
--@ spec.l9Basic
set_option maxRecDepth 100000 in
set_option maxHeartbeats 3200000 in
theorem sbasic_store {lo hi : Nat} (v : Value) (s : Ste) (w : World) (a : Int) (b : Int) (ha : 0 ≤ a ∧ a ≤ 8) (hb : 0 ≤ b ∧ b ≤ 8) (t : Fct) (vF vA vB vE : Value) (h : StateV w lo hi v s) (hs : s.valid = true) :
    Calls Tryz.prog 85 #[v, .agg #[.int .i64 3, .int .i64 a, .int .i64 b, .bool t.eq, .int .i64 t.a, .int .i64 t.b, vF, vA, vB, vE]] w fun e w' => ∃ r, e = .returned (.tuple #[r, .int .i64 (basicF s 3 a b).2]) ∧ StateO w' w.heap.size r (basS (basicF s 3 a b)) ∧ Below w.heap.size w w' := by
  have HA := Lib.hid ha
  have HB : Hid (0 ≤ (b : Int) ∧ b ≤ (8 : Int)) := hb
  clear ha hb
  have hV := Lib.hid h
  obtain ⟨A1, c1, A2, c2, rfl, h1, h2⟩ := h
  have h8 := Lib.hid (Ste.valid_len hs)
  have HS := Lib.hid hs
  have V1 := Lib.hid h1
  have V2 := Lib.hid h2
  obtain ⟨x, hx⟩ : ∃ x, x = tval s.values a := ⟨_, rfl⟩
  obtain ⟨y, hy⟩ : ∃ x, x = tval s.values b := ⟨_, rfl⟩
  have hxv : 0 ≤ x ∧ x ≤ 8 := by rw [hx]; exact tval_le (Ste.all_vals hs) _
  have hyv : 0 ≤ y ∧ y ≤ 8 := by rw [hy]; exact tval_le (Ste.all_vals hs) _
  replace hx := Lib.hid hx
  replace hy := Lib.hid hy
  clear hs h1 h2
  obtain ⟨k0, k1, k2⟩ := blk3 w tSt tC tSt #[.slice A1 s.values.length c1, .slice A2 s.heap.length c2] #[.int .i64 3, .int .i64 a, .int .i64 b, .bool t.eq, .int .i64 t.a, .int .i64 t.b, vF, vA, vB, vE] #[.slice none 0 0, .slice none 0 0]
  go_enter Tryz.func85, Tryz.ntmps85
  go_wp2_with fail
  refine (c_l2Copy _ s _ (hV.out.below bel)).mono ?_
  rintro e w1 ⟨r, rfl, o, hB1⟩
  have hB := bgo (w := w) bel hB1
  have hz1 := hB1.size
  simp only [World.size_alloc] at hz1
  (replace k0 := k0.next hB1; replace qk0 := k0.cell; replace rk0 := k0.frozen; replace lk0 := k0.lt; replace k1 := k1.next hB1; replace qk1 := k1.cell; replace rk1 := k1.frozen; replace lk1 := k1.lt; replace k2 := k2.next hB1; replace qk2 := k2.cell; replace rk2 := k2.frozen; replace lk2 := k2.lt)
  clear hB1
  obtain ⟨fv, av, rfl, o1, o2, dj⟩ := o
  obtain ⟨F, e1, rfl, -⟩ := o1.reads
  obtain ⟨G, e2, rfl, -⟩ := o2.reads
  replace o1 := Lib.hid (o1.lower (base' := w.heap.size) (by simp; omega))
  replace o2 := Lib.hid (o2.lower (base' := w.heap.size) (by simp; omega))
  replace dj := Lib.hid dj
  go_wp2_with fail
  refine (c_spec_l1Value A1 c1 s.values a _ (V1.out.below (bbox hB _)) HA.out.1 (by rw [h8.out.1]; exact HA.out.2)).mono ?_
  rintro e w2 ⟨rfl, rfl⟩
  rw [← hx.out]
  obtain ⟨X, hX⟩ : ∃ X, X = w1.alloc (.cells #[.slice F s.values.length e1, .slice G s.heap.length e2] tSt) := ⟨_, rfl⟩
  replace hB : Below w.heap.size w X := by rw [hX]; exact bbox hB _
  replace k0 : Blk X w.heap.size tSt #[.slice A1 s.values.length c1, .slice A2 s.heap.length c2] := by rw [hX]; exact k0.alloc _
  replace k1 : Blk X (w.heap.size + 1) tC #[.int .i64 3, .int .i64 a, .int .i64 b, .bool t.eq, .int .i64 t.a, .int .i64 t.b, vF, vA, vB, vE] := by rw [hX]; exact k1.alloc _
  replace k2 : Blk X (w.heap.size + 1 + 1) tSt #[.slice none 0 0, .slice none 0 0] := by rw [hX]; exact k2.alloc _
  have k3 : Blk X w1.heap.size tSt #[.slice F s.values.length e1, .slice G s.heap.length e2] := by rw [hX]; exact Blk.new _ _ _
  replace o1 : Hid (IntsO X w.heap.size (.slice F s.values.length e1) s.values) := by rw [hX]; exact o1.out.below (bbox (Below.refl _ _) _)
  replace o2 : Hid (IntsO X w.heap.size (.slice G s.heap.length e2) s.heap) := by rw [hX]; exact o2.out.below (bbox (Below.refl _ _) _)
  rw [← hX]
  clear hX
  (replace qk0 := k0.cell; replace rk0 := k0.frozen; replace lk0 := k0.lt; replace qk1 := k1.cell; replace rk1 := k1.frozen; replace lk1 := k1.lt; replace qk2 := k2.cell; replace rk2 := k2.frozen; replace lk2 := k2.lt; replace qk3 := k3.cell; replace rk3 := k3.frozen; replace lk3 := k3.lt)
  go_wp2_with fail
  refine (c_spec_l1Value A1 c1 s.values b _ (V1.out.below hB) HB.out.1 (by rw [h8.out.1]; exact HB.out.2)).mono ?_
  rintro e w2 ⟨rfl, rfl⟩
  rw [← hy.out]
  go_wp2_with fail
  refine (c_spec_l2Has _ s x _ (hV.out.below hB) h8.out.2).mono ?_
  rintro e w2 ⟨rfl, hB2⟩
  have hX := k3.lt
  replace o1 := Lib.hid (o1.out.below hB2)
  replace o2 := Lib.hid (o2.out.below hB2)
  (replace hB := bgo hB hB2; replace k0 := k0.next hB2; replace qk0 := k0.cell; replace rk0 := k0.frozen; replace lk0 := k0.lt; replace k1 := k1.next hB2; replace qk1 := k1.cell; replace rk1 := k1.frozen; replace lk1 := k1.lt; replace k2 := k2.next hB2; replace qk2 := k2.cell; replace rk2 := k2.frozen; replace lk2 := k2.lt; replace k3 := k3.next hB2; replace qk3 := k3.cell; replace rk3 := k3.frozen; replace lk3 := k3.lt)
  clear hB2
  cases ha : allocB s.heap x
  · have E : Hid (basicF s 3 a b = (s, 1)) := by
      show _ = _
      unfold basicF
      rw [if_neg (by decide), if_neg (by decide), if_pos rfl, ← hx.out, ha]; rfl
    have E2 : Hid (basS (basicF s 3 a b) = ⟨[], []⟩) := by show _ = _; rw [E.out]; rfl
    clear ha
    go_wp2_with fail
    refine bodyPost_ret (v := .tuple #[.agg #[.slice none 0 0, .slice none 0 0], .int .i64 1]) (by simp [results, Tryz.results85, go_sem, qk2, lk2]) rfl ⟨_, by rw [E.out], ?_, ?_⟩
    · rw [E2.out]; exact zeroO _
    · first
        | exact bel
        | (exact (((hB).setCell (p := ⟨w.heap.size + 1 + 1, 0, none⟩) (by simp only; omega) _).setCell (p := ⟨w.heap.size + 1 + 1, 1, none⟩) (by simp only; omega) _))
        | (exact bbox (((hB).setCell (p := ⟨w.heap.size + 1 + 1, 0, none⟩) (by simp only; omega) _).setCell (p := ⟨w.heap.size + 1 + 1, 1, none⟩) (by simp only; omega) _) _)
  have hxa := allocB_addr ha
  obtain ⟨m, rfl⟩ : ∃ m : Nat, x = (m : Int) + 1 := ⟨(x - 1).toNat, by omega⟩
  have E : Hid (basicF s 3 a b = (⟨s.values, s.heap.set m y⟩, 0)) := by
    show _ = _
    unfold basicF
    rw [if_neg (by decide), if_neg (by decide), if_pos rfl, ← hx.out, ← hy.out, ha, if_pos rfl, show ((m : Int) + 1 - 1).toNat = m by omega]
  have E2 : Hid (basS (basicF s 3 a b) = ⟨s.values, s.heap.set m y⟩) := by show _ = _; rw [E.out]; rfl
  clear ha
  have hvl := h8.out.2
  obtain ⟨gv, cur, -, rfl, hgv, kg, hc, hset⟩ := o2.out.cell_ (k := m) (by omega)
  have q := kg.cell m
  rw [hc] at q
  obtain ⟨z, hz⟩ : ∃ z, z = s.heap[m]'(by omega) := ⟨_, rfl⟩
  rw [← hz] at q
  have fq := kg.frozen m
  have hgvl := kg.lt
  have hne2 : w.heap.size + 1 + 1 ≠ gv := k2.ne_ kg (by decide)
  have hne3 : w1.heap.size ≠ gv := k3.ne_ kg (by decide)
  have HSET := Lib.hid (hset y)
  have hml : (m : Int) < (s.heap.length : Int) := by omega
  have hwm : IntKind.i64.wrap (m : Int) = (m : Int) := IntWalk.i64_in _ (by omega)
  clear hset hc hz hvl
  clear hwm
  go_wp2_with fail
  have K2 := k2.far (p := ⟨gv, m, none⟩) hne2 (.int .i64 y)
  refine bodyPost_ret (v := .tuple #[.agg #[.slice F s.values.length e1, .slice (some ⟨gv, 0, none⟩) s.heap.length e2], .int .i64 0]) (by simp [results, Tryz.results85, go_sem, qk2, lk2]) rfl ⟨_, by rw [E.out], ?_, ?_⟩
  · rw [E2.out]
    exact ⟨_, _, rfl, (((o1.out.set_ne (q := ⟨gv, m, none⟩) (fun e => dj.out gv e rfl) _).setT K2 (by decide) 0 _).setT (K2.set_ 0 _) (by decide) 1 _), ((HSET.out.setT K2 (by decide) 0 _).setT (K2.set_ 0 _) (by decide) 1 _), dj.out⟩
  · exact ((hB.setCell (p := ⟨gv, m, none⟩) hgv _).setCell (p := ⟨w.heap.size + 1 + 1, 0, none⟩) (by simp only; omega) _).setCell (p := ⟨w.heap.size + 1 + 1, 1, none⟩) (by simp only; omega) _
--@ spec.l9Basic
set_option maxRecDepth 100000 in
set_option maxHeartbeats 3200000 in
theorem sbasic_free {lo hi : Nat} (v : Value) (s : Ste) (w : World) (a : Int) (ha : 0 ≤ a ∧ a ≤ 8) (t : Fct) (vF vA vB vE : Value) (h : StateV w lo hi v s) (hs : s.valid = true) :
    Calls Tryz.prog 85 #[v, .agg #[.int .i64 5, .int .i64 a, .int .i64 0, .bool t.eq, .int .i64 t.a, .int .i64 t.b, vF, vA, vB, vE]] w fun e w' => ∃ r, e = .returned (.tuple #[r, .int .i64 (basicF s 5 a 0).2]) ∧ StateO w' w.heap.size r (basS (basicF s 5 a 0)) ∧ Below w.heap.size w w' := by
  have HA := Lib.hid ha
  have HB : Hid (0 ≤ (0 : Int) ∧ (0 : Int) ≤ (8 : Int)) := ⟨by omega, by omega⟩
  clear ha
  have hV := Lib.hid h
  obtain ⟨A1, c1, A2, c2, rfl, h1, h2⟩ := h
  have h8 := Lib.hid (Ste.valid_len hs)
  have HS := Lib.hid hs
  have V1 := Lib.hid h1
  have V2 := Lib.hid h2
  obtain ⟨x, hx⟩ : ∃ x, x = tval s.values a := ⟨_, rfl⟩
  obtain ⟨y, hy⟩ : ∃ x, x = tval s.values 0 := ⟨_, rfl⟩
  have hxv : 0 ≤ x ∧ x ≤ 8 := by rw [hx]; exact tval_le (Ste.all_vals hs) _
  have hyv : 0 ≤ y ∧ y ≤ 8 := by rw [hy]; exact tval_le (Ste.all_vals hs) _
  replace hx := Lib.hid hx
  replace hy := Lib.hid hy
  clear hs h1 h2
  obtain ⟨k0, k1, k2⟩ := blk3 w tSt tC tSt #[.slice A1 s.values.length c1, .slice A2 s.heap.length c2] #[.int .i64 5, .int .i64 a, .int .i64 0, .bool t.eq, .int .i64 t.a, .int .i64 t.b, vF, vA, vB, vE] #[.slice none 0 0, .slice none 0 0]
  go_enter Tryz.func85, Tryz.ntmps85
  go_wp2_with fail
  refine (c_l2Copy _ s _ (hV.out.below bel)).mono ?_
  rintro e w1 ⟨r, rfl, o, hB1⟩
  have hB := bgo (w := w) bel hB1
  have hz1 := hB1.size
  simp only [World.size_alloc] at hz1
  (replace k0 := k0.next hB1; replace qk0 := k0.cell; replace rk0 := k0.frozen; replace lk0 := k0.lt; replace k1 := k1.next hB1; replace qk1 := k1.cell; replace rk1 := k1.frozen; replace lk1 := k1.lt; replace k2 := k2.next hB1; replace qk2 := k2.cell; replace rk2 := k2.frozen; replace lk2 := k2.lt)
  clear hB1
  obtain ⟨fv, av, rfl, o1, o2, dj⟩ := o
  obtain ⟨F, e1, rfl, -⟩ := o1.reads
  obtain ⟨G, e2, rfl, -⟩ := o2.reads
  replace o1 := Lib.hid (o1.lower (base' := w.heap.size) (by simp; omega))
  replace o2 := Lib.hid (o2.lower (base' := w.heap.size) (by simp; omega))
  replace dj := Lib.hid dj
  go_wp2_with fail
  refine (c_spec_l1Value A1 c1 s.values a _ (V1.out.below (bbox hB _)) HA.out.1 (by rw [h8.out.1]; exact HA.out.2)).mono ?_
  rintro e w2 ⟨rfl, rfl⟩
  rw [← hx.out]
  obtain ⟨X, hX⟩ : ∃ X, X = w1.alloc (.cells #[.slice F s.values.length e1, .slice G s.heap.length e2] tSt) := ⟨_, rfl⟩
  replace hB : Below w.heap.size w X := by rw [hX]; exact bbox hB _
  replace k0 : Blk X w.heap.size tSt #[.slice A1 s.values.length c1, .slice A2 s.heap.length c2] := by rw [hX]; exact k0.alloc _
  replace k1 : Blk X (w.heap.size + 1) tC #[.int .i64 5, .int .i64 a, .int .i64 0, .bool t.eq, .int .i64 t.a, .int .i64 t.b, vF, vA, vB, vE] := by rw [hX]; exact k1.alloc _
  replace k2 : Blk X (w.heap.size + 1 + 1) tSt #[.slice none 0 0, .slice none 0 0] := by rw [hX]; exact k2.alloc _
  have k3 : Blk X w1.heap.size tSt #[.slice F s.values.length e1, .slice G s.heap.length e2] := by rw [hX]; exact Blk.new _ _ _
  replace o1 : Hid (IntsO X w.heap.size (.slice F s.values.length e1) s.values) := by rw [hX]; exact o1.out.below (bbox (Below.refl _ _) _)
  replace o2 : Hid (IntsO X w.heap.size (.slice G s.heap.length e2) s.heap) := by rw [hX]; exact o2.out.below (bbox (Below.refl _ _) _)
  rw [← hX]
  clear hX
  (replace qk0 := k0.cell; replace rk0 := k0.frozen; replace lk0 := k0.lt; replace qk1 := k1.cell; replace rk1 := k1.frozen; replace lk1 := k1.lt; replace qk2 := k2.cell; replace rk2 := k2.frozen; replace lk2 := k2.lt; replace qk3 := k3.cell; replace rk3 := k3.frozen; replace lk3 := k3.lt)
  go_wp2_with fail
  refine (c_spec_l1Value A1 c1 s.values 0 _ (V1.out.below hB) HB.out.1 (by rw [h8.out.1]; exact HB.out.2)).mono ?_
  rintro e w2 ⟨rfl, rfl⟩
  rw [← hy.out]
  go_wp2_with fail
  refine (c_spec_l2Has _ s x _ (hV.out.below hB) h8.out.2).mono ?_
  rintro e w2 ⟨rfl, hB2⟩
  have hX := k3.lt
  replace o1 := Lib.hid (o1.out.below hB2)
  replace o2 := Lib.hid (o2.out.below hB2)
  (replace hB := bgo hB hB2; replace k0 := k0.next hB2; replace qk0 := k0.cell; replace rk0 := k0.frozen; replace lk0 := k0.lt; replace k1 := k1.next hB2; replace qk1 := k1.cell; replace rk1 := k1.frozen; replace lk1 := k1.lt; replace k2 := k2.next hB2; replace qk2 := k2.cell; replace rk2 := k2.frozen; replace lk2 := k2.lt; replace k3 := k3.next hB2; replace qk3 := k3.cell; replace rk3 := k3.frozen; replace lk3 := k3.lt)
  clear hB2
  cases ha : allocB s.heap x
  · have E : Hid (basicF s 5 a 0 = (s, 1)) := by
      show _ = _
      unfold basicF
      rw [if_neg (by decide), if_neg (by decide), if_neg (by decide), if_neg (by decide), ← hx.out, ha]; rfl
    have E2 : Hid (basS (basicF s 5 a 0) = ⟨[], []⟩) := by show _ = _; rw [E.out]; rfl
    clear ha
    go_wp2_with fail
    refine bodyPost_ret (v := .tuple #[.agg #[.slice none 0 0, .slice none 0 0], .int .i64 1]) (by simp [results, Tryz.results85, go_sem, qk2, lk2]) rfl ⟨_, by rw [E.out], ?_, ?_⟩
    · rw [E2.out]; exact zeroO _
    · first
        | exact bel
        | (exact (((hB).setCell (p := ⟨w.heap.size + 1 + 1, 0, none⟩) (by simp only; omega) _).setCell (p := ⟨w.heap.size + 1 + 1, 1, none⟩) (by simp only; omega) _))
        | (exact bbox (((hB).setCell (p := ⟨w.heap.size + 1 + 1, 0, none⟩) (by simp only; omega) _).setCell (p := ⟨w.heap.size + 1 + 1, 1, none⟩) (by simp only; omega) _) _)
  have hxa := allocB_addr ha
  obtain ⟨m, rfl⟩ : ∃ m : Nat, x = (m : Int) + 1 := ⟨(x - 1).toNat, by omega⟩
  have E : Hid (basicF s 5 a 0 = (⟨s.values, s.heap.set m (-1)⟩, 0)) := by
    show _ = _
    unfold basicF
    rw [if_neg (by decide), if_neg (by decide), if_neg (by decide), if_neg (by decide), ← hx.out, ha, if_pos rfl, show ((m : Int) + 1 - 1).toNat = m by omega]
  have E2 : Hid (basS (basicF s 5 a 0) = ⟨s.values, s.heap.set m (-1)⟩) := by show _ = _; rw [E.out]; rfl
  clear ha
  have hvl := h8.out.2
  obtain ⟨gv, cur, -, rfl, hgv, kg, hc, hset⟩ := o2.out.cell_ (k := m) (by omega)
  have q := kg.cell m
  rw [hc] at q
  obtain ⟨z, hz⟩ : ∃ z, z = s.heap[m]'(by omega) := ⟨_, rfl⟩
  rw [← hz] at q
  have fq := kg.frozen m
  have hgvl := kg.lt
  have hne2 : w.heap.size + 1 + 1 ≠ gv := k2.ne_ kg (by decide)
  have hne3 : w1.heap.size ≠ gv := k3.ne_ kg (by decide)
  have HSET := Lib.hid (hset (-1))
  have hml : (m : Int) < (s.heap.length : Int) := by omega
  have hwm : IntKind.i64.wrap (m : Int) = (m : Int) := IntWalk.i64_in _ (by omega)
  clear hset hc hz hvl
  clear hwm
  go_wp2_with fail
  have K2 := k2.far (p := ⟨gv, m, none⟩) hne2 (.int .i64 (-1))
  refine bodyPost_ret (v := .tuple #[.agg #[.slice F s.values.length e1, .slice (some ⟨gv, 0, none⟩) s.heap.length e2], .int .i64 0]) (by simp [results, Tryz.results85, go_sem, qk2, lk2]) rfl ⟨_, by rw [E.out], ?_, ?_⟩
  · rw [E2.out]
    exact ⟨_, _, rfl, (((o1.out.set_ne (q := ⟨gv, m, none⟩) (fun e => dj.out gv e rfl) _).setT K2 (by decide) 0 _).setT (K2.set_ 0 _) (by decide) 1 _), ((HSET.out.setT K2 (by decide) 0 _).setT (K2.set_ 0 _) (by decide) 1 _), dj.out⟩
  · exact ((hB.setCell (p := ⟨gv, m, none⟩) hgv _).setCell (p := ⟨w.heap.size + 1 + 1, 0, none⟩) (by simp only; omega) _).setCell (p := ⟨w.heap.size + 1 + 1, 1, none⟩) (by simp only; omega) _
--@ spec.l9Basic
set_option maxRecDepth 100000 in
set_option maxHeartbeats 3200000 in
theorem sbasic_new {lo hi : Nat} (v : Value) (s : Ste) (w : World) (m : Nat) (hm : m < 4) (t : Fct) (vF vA vB vE : Value) (h : StateV w lo hi v s) (hs : s.valid = true) :
    Calls Tryz.prog 85 #[v, .agg #[.int .i64 4, .int .i64 ((m : Int) + 1), .int .i64 0, .bool t.eq, .int .i64 t.a, .int .i64 t.b, vF, vA, vB, vE]] w fun e w' => ∃ r, e = .returned (.tuple #[r, .int .i64 (basicF s 4 ((m : Int) + 1) 0).2]) ∧ StateO w' w.heap.size r (basS (basicF s 4 ((m : Int) + 1) 0)) ∧ Below w.heap.size w w' := by
  have hm4 : (m : Int) < 4 := by omega
  have hV := Lib.hid h
  obtain ⟨A1, c1, A2, c2, rfl, h1, h2⟩ := h
  have h8 := Lib.hid (Ste.valid_len hs)
  have HS := Lib.hid hs
  have V1 := Lib.hid h1
  have V2 := Lib.hid h2
  obtain ⟨x, hx⟩ : ∃ x, x = tval s.values ((m : Int) + 1) := ⟨_, rfl⟩
  obtain ⟨y, hy⟩ : ∃ x, x = tval s.values 0 := ⟨_, rfl⟩
  have hxv : 0 ≤ x ∧ x ≤ 8 := by rw [hx]; exact tval_le (Ste.all_vals hs) _
  have hyv : 0 ≤ y ∧ y ≤ 8 := by rw [hy]; exact tval_le (Ste.all_vals hs) _
  replace hx := Lib.hid hx
  replace hy := Lib.hid hy
  clear hs h1 h2
  obtain ⟨k0, k1, k2⟩ := blk3 w tSt tC tSt #[.slice A1 s.values.length c1, .slice A2 s.heap.length c2] #[.int .i64 4, .int .i64 ((m : Int) + 1), .int .i64 0, .bool t.eq, .int .i64 t.a, .int .i64 t.b, vF, vA, vB, vE] #[.slice none 0 0, .slice none 0 0]
  go_enter Tryz.func85, Tryz.ntmps85
  go_wp2_with fail
  refine (c_l2Copy _ s _ (hV.out.below bel)).mono ?_
  rintro e w1 ⟨r, rfl, o, hB1⟩
  have hB := bgo (w := w) bel hB1
  have hz1 := hB1.size
  simp only [World.size_alloc] at hz1
  (replace k0 := k0.next hB1; replace qk0 := k0.cell; replace rk0 := k0.frozen; replace lk0 := k0.lt; replace k1 := k1.next hB1; replace qk1 := k1.cell; replace rk1 := k1.frozen; replace lk1 := k1.lt; replace k2 := k2.next hB1; replace qk2 := k2.cell; replace rk2 := k2.frozen; replace lk2 := k2.lt)
  clear hB1
  obtain ⟨fv, av, rfl, o1, o2, dj⟩ := o
  obtain ⟨F, e1, rfl, -⟩ := o1.reads
  obtain ⟨G, e2, rfl, -⟩ := o2.reads
  replace o1 := Lib.hid (o1.lower (base' := w.heap.size) (by simp; omega))
  replace o2 := Lib.hid (o2.lower (base' := w.heap.size) (by simp; omega))
  replace dj := Lib.hid dj
  go_wp2_with fail
  refine (c_spec_l1Value A1 c1 s.values ((m : Int) + 1) _ (V1.out.below (bbox hB _)) (by omega) (by rw [h8.out.1]; exact (by omega))).mono ?_
  rintro e w2 ⟨rfl, rfl⟩
  rw [← hx.out]
  obtain ⟨X, hX⟩ : ∃ X, X = w1.alloc (.cells #[.slice F s.values.length e1, .slice G s.heap.length e2] tSt) := ⟨_, rfl⟩
  replace hB : Below w.heap.size w X := by rw [hX]; exact bbox hB _
  replace k0 : Blk X w.heap.size tSt #[.slice A1 s.values.length c1, .slice A2 s.heap.length c2] := by rw [hX]; exact k0.alloc _
  replace k1 : Blk X (w.heap.size + 1) tC #[.int .i64 4, .int .i64 ((m : Int) + 1), .int .i64 0, .bool t.eq, .int .i64 t.a, .int .i64 t.b, vF, vA, vB, vE] := by rw [hX]; exact k1.alloc _
  replace k2 : Blk X (w.heap.size + 1 + 1) tSt #[.slice none 0 0, .slice none 0 0] := by rw [hX]; exact k2.alloc _
  have k3 : Blk X w1.heap.size tSt #[.slice F s.values.length e1, .slice G s.heap.length e2] := by rw [hX]; exact Blk.new _ _ _
  replace o1 : Hid (IntsO X w.heap.size (.slice F s.values.length e1) s.values) := by rw [hX]; exact o1.out.below (bbox (Below.refl _ _) _)
  replace o2 : Hid (IntsO X w.heap.size (.slice G s.heap.length e2) s.heap) := by rw [hX]; exact o2.out.below (bbox (Below.refl _ _) _)
  rw [← hX]
  clear hX
  (replace qk0 := k0.cell; replace rk0 := k0.frozen; replace lk0 := k0.lt; replace qk1 := k1.cell; replace rk1 := k1.frozen; replace lk1 := k1.lt; replace qk2 := k2.cell; replace rk2 := k2.frozen; replace lk2 := k2.lt; replace qk3 := k3.cell; replace rk3 := k3.frozen; replace lk3 := k3.lt)
  go_wp2_with fail
  refine (c_spec_l1Value A1 c1 s.values 0 _ (V1.out.below hB) (by omega) (by rw [h8.out.1]; exact (by omega))).mono ?_
  rintro e w2 ⟨rfl, rfl⟩
  rw [← hy.out]
  go_wp2_with fail
  refine (c_spec_AllocX _ s _ (hV.out.below hB) HS.out).mono ?_
  rintro e w2 ⟨hor, hB2⟩
  have hzX := hB.size
  (replace hB := bgo hB hB2; replace k0 := k0.next hB2; replace qk0 := k0.cell; replace rk0 := k0.frozen; replace lk0 := k0.lt; replace k1 := k1.next hB2; replace qk1 := k1.cell; replace rk1 := k1.frozen; replace lk1 := k1.lt; replace k2 := k2.next hB2; replace qk2 := k2.cell; replace rk2 := k2.frozen; replace lk2 := k2.lt; replace k3 := k3.next hB2; replace qk3 := k3.cell; replace rk3 := k3.frozen; replace lk3 := k3.lt)
  clear hB2
  rcases hor with ⟨hf, rfl⟩ | ⟨n, r, hf, rfl, o⟩
  · have E : Hid (basicF s 4 ((m : Int) + 1) 0 = (s, 2)) := by
      show _ = _
      unfold basicF
      rw [if_neg (by decide), if_neg (by decide), if_neg (by decide), if_pos rfl, hf]
    have E2 : Hid (basS (basicF s 4 ((m : Int) + 1) 0) = ⟨[], []⟩) := by show _ = _; rw [E.out]; rfl
    clear hf
    go_wp2_with fail
    refine bodyPost_ret (v := .tuple #[.agg #[.slice none 0 0, .slice none 0 0], .int .i64 2]) (by simp [results, Tryz.results85, go_sem, qk2, lk2]) rfl ⟨_, by rw [E.out], ?_, ?_⟩
    · rw [E2.out]; exact zeroO _
    · first
        | exact bel
        | (exact (((hB).setCell (p := ⟨w.heap.size + 1 + 1, 0, none⟩) (by simp only; omega) _).setCell (p := ⟨w.heap.size + 1 + 1, 1, none⟩) (by simp only; omega) _))
        | (exact bbox (((hB).setCell (p := ⟨w.heap.size + 1 + 1, 0, none⟩) (by simp only; omega) _).setCell (p := ⟨w.heap.size + 1 + 1, 1, none⟩) (by simp only; omega) _) _)
  have E : Hid (basicF s 4 ((m : Int) + 1) 0 = (⟨s.values.set m ((n : Int) + 1), s.heap.set n 0⟩, 0)) := by
    show _ = _
    unfold basicF
    rw [if_neg (by decide), if_neg (by decide), if_neg (by decide), if_pos rfl, hf, show ((m : Int) + 1 - 1).toNat = m by omega]
  have E2 : Hid (basS (basicF s 4 ((m : Int) + 1) 0) = ⟨s.values.set m ((n : Int) + 1), s.heap.set n 0⟩) := by show _ = _; rw [E.out]; rfl
  clear hf
  obtain ⟨nf, nh, rfl, p1, p2, dj2⟩ := o
  obtain ⟨NF, d1, rfl, -⟩ := p1.reads
  obtain ⟨NH, d2, rfl, -⟩ := p2.reads
  simp only [List.length_set] at p1 p2 dj2
  replace p1 := Lib.hid (p1.lower (base' := w.heap.size) (by omega))
  replace p2 := Lib.hid (p2.lower (base' := w.heap.size) (by omega))
  replace dj2 := Lib.hid dj2
  have hvl := h8.out.1
  obtain ⟨gv, cur, -, rfl, hgv, kg, hc, hset⟩ := p1.out.cell_ (k := m) (by first | omega | (simp; omega))
  have q := kg.cell m
  rw [hc] at q
  obtain ⟨z, hz⟩ : ∃ z, z = s.values[m]'(by omega) := ⟨_, rfl⟩
  rw [← hz] at q
  have fq := kg.frozen m
  have hgvl := kg.lt
  have hne2 : w.heap.size + 1 + 1 ≠ gv := k2.ne_ kg (by decide)
  have HSET := Lib.hid (hset ((n : Int) + 1))
  have hml : (m : Int) < (s.values.length : Int) := by omega
  clear hset hc hz hvl o1 o2
  go_wp2_with fail
  have K2 := k2.far (p := ⟨gv, m, none⟩) hne2 (.int .i64 ((n : Int) + 1))
  refine bodyPost_ret (v := .tuple #[.agg #[.slice (some ⟨gv, 0, none⟩) s.values.length d1, .slice NH s.heap.length d2], .int .i64 0]) (by simp [results, Tryz.results85, go_sem, qk2, lk2]) rfl ⟨_, by rw [E.out], ?_, ?_⟩
  · rw [E2.out]
    exact ⟨_, _, rfl, ((HSET.out.setT K2 (by decide) 0 _).setT (K2.set_ 0 _) (by decide) 1 _).below (bbox (Below.refl _ _) _), (((p2.out.set_ne (q := ⟨gv, m, none⟩) (dj2.out gv rfl) _).setT K2 (by decide) 0 _).setT (K2.set_ 0 _) (by decide) 1 _).below (bbox (Below.refl _ _) _), dj2.out⟩
  · exact bbox (((hB.setCell (p := ⟨gv, m, none⟩) hgv _).setCell (p := ⟨w.heap.size + 1 + 1, 0, none⟩) (by simp only; omega) _).setCell (p := ⟨w.heap.size + 1 + 1, 1, none⟩) (by simp only; omega) _) _
theorem c_spec_l9Basic {lo hi : Nat} (v : Value) (s : Ste) (w : World) (k a b : Int) (t : Fct) (vF vA vB vE : Value) (h : StateV w lo hi v s) (hs : s.valid = true) (hf : fieldsB k a b = true) :
    Calls Tryz.prog 85 #[v, .agg #[.int .i64 k, .int .i64 a, .int .i64 b, .bool t.eq, .int .i64 t.a, .int .i64 t.b, vF, vA, vB, vE]] w fun e w' => ∃ r, e = .returned (.tuple #[r, .int .i64 (basicF s k a b).2]) ∧ StateO w' w.heap.size r (basS (basicF s k a b)) ∧ Below w.heap.size w w' := by
  have hk := fieldsB_basic hf
  unfold fieldsB at hf
  have hP : ∀ {x : Int}, isProgB x = true → ∃ m : Nat, x = (m : Int) + 1 ∧ m < 4 := fun {x} h => by
    simp [isProgB] at h
    exact ⟨(x - 1).toNat, by omega, by omega⟩
  by_cases k1 : k = 1
  · subst k1
    rw [if_pos (Or.inl rfl), Bool.and_eq_true] at hf
    obtain ⟨m, rfl, hm⟩ := hP hf.1
    exact sbasic_set v s w m b hm (isTermB_iff.1 hf.2) t vF vA vB vE h hs
  by_cases k2 : k = 2
  · subst k2
    rw [if_pos (Or.inr rfl), Bool.and_eq_true] at hf
    obtain ⟨m, rfl, hm⟩ := hP hf.1
    exact sbasic_load v s w m b hm (isTermB_iff.1 hf.2) t vF vA vB vE h hs
  rw [if_neg (by omega)] at hf
  by_cases k3 : k = 3
  · subst k3
    rw [if_pos rfl, Bool.and_eq_true] at hf
    exact sbasic_store v s w a b (isTermB_iff.1 hf.1) (isTermB_iff.1 hf.2) t vF vA vB vE h hs
  rw [if_neg k3] at hf
  by_cases k4 : k = 4
  · subst k4
    rw [if_pos rfl, Bool.and_eq_true, decide_eq_true_eq] at hf
    obtain ⟨hf1, rfl⟩ := hf
    obtain ⟨m, rfl, hm⟩ := hP hf1
    exact sbasic_new v s w m hm t vF vA vB vE h hs
  rw [if_neg k4] at hf
  obtain rfl : k = 5 := by omega
  rw [if_pos rfl, Bool.and_eq_true, decide_eq_true_eq] at hf
  obtain ⟨hf1, rfl⟩ := hf
  exact sbasic_free v s w a (isTermB_iff.1 hf1) t vF vA vB vE h hs
--@
end Go.Proofs.YteogcababfenfaaGreat

/- Running programs: the spec's runs. -/
namespace Go.Proofs.YteogcababfenfaaGreat
open Go Go.RowKit Go.Proofs

def resS (P : Ste × Int × Nat) : Ste := if P.2.1 = 0 then P.1 else ⟨[], []⟩
theorem resS_ok (s : Ste) (f : Nat) : resS (s, 0, f) = s := rfl
theorem resS_no {s : Ste} {c : Int} {f : Nat} (h : c ≠ 0) : resS (s, c, f) = ⟨[], []⟩ := if_neg h
--@ spec.l1Hold
theorem c_hold1 {lo hi : Nat} (g : Nat) (t : Fct) (A : Option Addr) (c : Nat) (vs : List Int) (w : World) (hk : Blk w g tF #[.bool t.eq, .int .i64 t.a, .int .i64 t.b]) (h : IntsV w lo hi A vs) (ht : t.valid = true) (h8 : vs.length = 8) :
    Calls Tryz.prog 83 #[.slice (some ⟨g, 0, none⟩) 1 1, .slice A vs.length c] w fun e w' => e = .returned (.bool (t.holds vs)) ∧ Below w.heap.size w w' := by
  have hF : FactsV w g (g + 1) (some ⟨g, 0, none⟩) [t] :=
    ⟨⟨by simp, fun _ => ⟨g, 0, rfl, Nat.le_refl _, Nat.lt_succ_self _, fun j u hu => by rw [Nat.zero_add, hk.cell]; simpa using hu⟩⟩, by simp [Lim]⟩
  refine (c_spec_l1Hold (some ⟨g, 0, none⟩) A 1 c [t] vs w hF h (by simp [ht]) h8).mono ?_
  rintro e w' ⟨rfl, hB⟩
  exact ⟨by simp, hB⟩
--@ spec.l9Run
/-- commands run by the spec -/
def SRunOk (A : Option Addr) (c : Nat) (lo hi : Nat) (L : Cms) : Prop := ∀ (v : Value) (s : Ste) (f base : Nat) (D : Int) (w : World), D = f → StateO w base v s → base ≤ w.heap.size → s.valid = true → f ≤ 200 → CmsV w lo hi A L →
  Calls Tryz.prog 46 #[v, .slice A L.len c, .int .i64 D] w fun e w' => ∃ r, e = .returned (.tuple #[r, .int .i64 (L.run s f).2.1, .int .i64 ((L.run s f).2.2 : Int)]) ∧ StateO w' base r (resS (L.run s f)) ∧ Below w.heap.size w w'
--@ spec.l9Loop
set_option maxRecDepth 100000 in
set_option maxHeartbeats 3200000 in
theorem c_spec_l9Loop {lo hi : Nat} (v : Value) (s : Ste) (f base : Nat) (D : Int) (hD : D = f) (w : World) (a b : Int) (t : Fct) (vF vA : Value) (A3 A4 : Option Addr) (c3 c4 : Nat) (body els : Cms) (hO : StateO w base v s) (hbase : base ≤ w.heap.size) (hs : s.valid = true) (hf : f ≤ 199) (ht : t.valid = true)
    (hV3 : CmsV w lo hi A3 body) (IB : SRunOk A3 c3 lo hi body) :
    Calls Tryz.prog 84 #[v, .agg #[.int .i64 7, .int .i64 a, .int .i64 b, .bool t.eq, .int .i64 t.a, .int .i64 t.b, vF, vA, .slice A3 body.len c3, .slice A4 els.len c4], .int .i64 D] w fun e w' => ∃ r, e = .returned (.tuple #[r, .int .i64 (loopF body.run t (f + 1) s f).2.1, .int .i64 ((loopF body.run t (f + 1) s f).2.2 : Int)]) ∧ StateO w' base r (resS (loopF body.run t (f + 1) s f)) ∧ Below w.heap.size w w' := by
  subst hD
  obtain ⟨RB, hRB⟩ : ∃ R, R = body.run := ⟨_, rfl⟩
  have hok : RunOk RB := by rw [hRB]; exact Cms.run_ok body
  have hIB : Hid (∀ (v : Value) (s : Ste) (f base : Nat) (D : Int) (w : World), D = f → StateO w base v s → base ≤ w.heap.size → s.valid = true → f ≤ 200 → CmsV w lo hi A3 body →
      Calls Tryz.prog 46 #[v, .slice A3 body.len c3, .int .i64 D] w fun e w' => ∃ r, e = .returned (.tuple #[r, .int .i64 (RB s f).2.1, .int .i64 ((RB s f).2.2 : Int)]) ∧ StateO w' base r (resS (RB s f)) ∧ Below w.heap.size w w') := by rw [hRB]; exact IB
  rw [← hRB]
  clear IB hRB
  replace hok := Lib.hid hok
  replace hV3 := Lib.hid hV3
  replace ht := Lib.hid ht
  replace hs := Lib.hid hs
  obtain ⟨LH, hLH⟩ : ∃ x, x = loopF RB t (f + 1) s f := ⟨_, rfl⟩
  rw [← hLH]
  replace hLH := Lib.hid hLH
  obtain ⟨fv, hv, rfl, o1, o2, dj⟩ := hO
  obtain ⟨F, e1, rfl, -⟩ := o1.reads
  obtain ⟨G, e2, rfl, -⟩ := o2.reads
  obtain ⟨k0, k1, k2⟩ := blk3 w tSt tC tSt #[.slice F s.values.length e1, .slice G s.heap.length e2] #[.int .i64 7, .int .i64 a, .int .i64 b, .bool t.eq, .int .i64 t.a, .int .i64 t.b, vF, vA, .slice A3 body.len c3, .slice A4 els.len c4] #[.slice none 0 0, .slice none 0 0]
  replace o1 := Lib.hid o1
  replace o2 := Lib.hid o2
  replace dj := Lib.hid dj
  go_enter Tryz.func84, Tryz.ntmps84
  go_wp2_with fail
  go_loopw [2] (fun x wx => ∃ (n f1 : Nat) (s1 : Ste) (F : Option Addr) (e1 : Nat) (G : Option Addr) (e2 : Nat), x = .int .i64 (f1 : Int) ∧ f1 < n ∧ f1 ≤ 199 ∧ Hid (s1.valid = true) ∧ Hid (LH = loopF RB t n s1 f1) ∧
    Blk wx w.heap.size tSt #[.slice F s1.values.length e1, .slice G s1.heap.length e2] ∧ Blk wx (w.heap.size + 1) tC #[.int .i64 7, .int .i64 a, .int .i64 b, .bool t.eq, .int .i64 t.a, .int .i64 t.b, vF, vA, .slice A3 body.len c3, .slice A4 els.len c4] ∧ Blk wx (w.heap.size + 1 + 1) tSt #[.slice none 0 0, .slice none 0 0] ∧
    Hid (IntsO wx base (.slice F s1.values.length e1) s1.values) ∧ Hid (IntsO wx base (.slice G s1.heap.length e2) s1.heap) ∧ Hid (∀ x, (Value.slice F s1.values.length e1).ownBlock = some x → (Value.slice G s1.heap.length e2).ownBlock ≠ some x) ∧ Hid (Below w.heap.size w wx)) (fun x _ => (intOf x).toNat)
  case atStart => exact ⟨f + 1, f, s, F, e1, G, e2, rfl, by omega, by omega, hs, hLH, k0, k1, k2, Lib.hid (o1.out.below bel), Lib.hid (o2.out.below bel), dj, Lib.hid bel⟩
  case round =>
    clear k0 k1 k2 o1 o2 dj
    obtain ⟨n, f1, s1, F, e1, G, e2, rfl, hn, hgk, HS1, HL, k0, k1, k2, o1, o2, dj, HB⟩ := hrel
    obtain ⟨n, rfl⟩ : ∃ m, n = m + 1 := ⟨n - 1, by omega⟩
    have hsz := HB.out.size
    have h81 := Lib.hid (Ste.valid_len HS1.out).1
    obtain ⟨th, hth⟩ : ∃ x, x = t.holds s1.values := ⟨_, rfl⟩
    have HL2 := HL.out
    rw [loopF, ← hth] at HL2
    replace HL2 := Lib.hid HL2
    replace hth := Lib.hid hth
    clear HL
    (replace qk0 := k0.cell; replace rk0 := k0.frozen; replace lk0 := k0.lt; replace qk1 := k1.cell; replace rk1 := k1.frozen; replace lk1 := k1.lt; replace qk2 := k2.cell; replace rk2 := k2.frozen; replace lk2 := k2.lt)
    go_wp2_with fail
    refine (c_hold1 wr.heap.size t F e1 s1.values _ (Blk.new _ _ _) ((o1.out.readsI.2).below bel) ht.out h81.out).mono ?_
    rintro e w2 ⟨rfl, hBx⟩
    rw [← hth.out]
    have hW2 : Below wr.heap.size wr w2 := bgo (bbox (Below.refl _ _) _) hBx
    have hB2 := bgo HB.out hW2
    have hz2 := hW2.size
    replace o1 := Lib.hid (o1.out.below hW2)
    replace o2 := Lib.hid (o2.out.below hW2)
    (replace k0 := k0.next hW2; replace qk0 := k0.cell; replace rk0 := k0.frozen; replace lk0 := k0.lt; replace k1 := k1.next hW2; replace qk1 := k1.cell; replace rk1 := k1.frozen; replace lk1 := k1.lt; replace k2 := k2.next hW2; replace qk2 := k2.cell; replace rk2 := k2.frozen; replace lk2 := k2.lt)
    clear hBx hW2
    cases th
    · have HL3 : Hid (LH = (s1, 0, f1)) := HL2.out
      have KB := Lib.hid k2
      clear HL2
      go_wp2_with fail
      refine bodyPost_ret (v := .tuple #[.agg #[.slice F s1.values.length e1, .slice G s1.heap.length e2], .int .i64 0, .int .i64 (f1 : Int)]) (by simp [results, Tryz.results84, go_sem, qk2, lk2]) rfl ⟨_, by rw [HL3.out], ?_, ?_⟩
      · rw [HL3.out, resS_ok]
        exact ⟨_, _, rfl, ((o1.out.setT KB.out (by decide) 0 _).setT (KB.out.set_ 0 _) (by decide) 1 _), ((o2.out.setT KB.out (by decide) 0 _).setT (KB.out.set_ 0 _) (by decide) 1 _), dj.out⟩
      · exact (hB2.setCell (p := ⟨w.heap.size + 1 + 1, 0, none⟩) (by simp only; omega) _).setCell (p := ⟨w.heap.size + 1 + 1, 1, none⟩) (by simp only; omega) _
    obtain ⟨P, hP⟩ : ∃ P, P = RB s1 f1 := ⟨_, rfl⟩
    obtain ⟨s2, c2, f2⟩ := P
    have hk := hok.out s1 f1 HS1.out
    have HL3 := HL2.out
    rw [if_pos rfl, ← hP] at HL3
    rw [← hP] at hk
    obtain ⟨hk1, hk2, hk3, hk4⟩ := hk
    simp only at hk1 hk2 hk3 hk4 HL3
    have hIB' := hIB.out (.agg #[.slice F s1.values.length e1, .slice G s1.heap.length e2]) s1 f1 base (f1 : Int) w2 rfl ⟨_, _, rfl, o1.out, o2.out, dj.out⟩ (by omega) HS1.out (by omega) (hV3.out.below hB2)
    rw [← hP] at hIB'
    simp only at hIB'
    replace hIB' := Lib.hid hIB'
    replace HL3 := Lib.hid HL3
    replace hk1 := Lib.hid hk1
    clear HL2 hP
    go_wp2_with fail
    refine hIB'.out.mono ?_
    rintro e w3 ⟨r, rfl, oR, hBx⟩
    have hB3 := bgo hB2 hBx
    have hz3 := hBx.size
    (replace k0 := k0.next hBx; replace qk0 := k0.cell; replace rk0 := k0.frozen; replace lk0 := k0.lt; replace k1 := k1.next hBx; replace qk1 := k1.cell; replace rk1 := k1.frozen; replace lk1 := k1.lt; replace k2 := k2.next hBx; replace qk2 := k2.cell; replace rk2 := k2.frozen; replace lk2 := k2.lt)
    clear hBx o1 o2 dj hIB'
    by_cases hc : c2 = 0
    · subst hc
      rw [resS_ok] at oR
      obtain ⟨fv, hv, rfl, o1, o2, dj⟩ := oR
      obtain ⟨F2, d1, rfl, -⟩ := o1.reads
      obtain ⟨G2, d2, rfl, -⟩ := o2.reads
      replace o1 := Lib.hid o1
      replace o2 := Lib.hid o2
      replace dj := Lib.hid dj
      have HL4 := HL3.out
      rw [if_neg (by omega)] at HL4
      rcases Nat.eq_zero_or_pos f2 with hz | hpos
      · subst hz
        rw [if_pos (by omega)] at HL4
        replace HL4 := Lib.hid HL4
        clear HL3
        go_wp2_with fail
        refine bodyPost_ret (v := .tuple #[.agg #[.slice none 0 0, .slice none 0 0], .int .i64 3, .int .i64 0]) (by simp [results, Tryz.results84, go_sem, qk2, lk2]) rfl ⟨_, by rw [HL4.out]; rfl, ?_, ?_⟩
        · rw [HL4.out, resS_no (by decide)]; exact zeroO _
        · exact bbox ((hB3.setCell (p := ⟨w.heap.size + 1 + 1, 0, none⟩) (by simp only; omega) _).setCell (p := ⟨w.heap.size + 1 + 1, 1, none⟩) (by simp only; omega) _) _
      · rw [if_neg (by omega)] at HL4
        replace HL4 := Lib.hid HL4
        have hf2 : ¬ ((f2 : Int) < 1) := by omega
        have kk0 := Lib.hid k0
        have kk1 := Lib.hid k1
        have kk2 := Lib.hid k2
        clear HL3
        go_wp2_with fail
        go_round
        case rel => exact ⟨n, f2 - 1, s2, F2, d1, G2, d2, by congr 1; omega, by omega, by omega, hk1, HL4, ((kk0.out.set_ 0 _).set_ 1 _).alloc _, ((kk1.out.far (p := ⟨w.heap.size, 0, none⟩) (by simp) _).far (p := ⟨w.heap.size, 1, none⟩) (by simp) _).alloc _, ((kk2.out.far (p := ⟨w.heap.size, 0, none⟩) (by simp; omega) _).far (p := ⟨w.heap.size, 1, none⟩) (by simp; omega) _).alloc _,
          Lib.hid (((o1.out.setT kk0.out (by decide) 0 _).setT (kk0.out.set_ 0 _) (by decide) 1 _).below (bbox (Below.refl _ _) _)), Lib.hid (((o2.out.setT kk0.out (by decide) 0 _).setT (kk0.out.set_ 0 _) (by decide) 1 _).below (bbox (Below.refl _ _) _)), dj, Lib.hid (bbox ((hB3.setCell (p := ⟨w.heap.size, 0, none⟩) (Nat.le_refl _) _).setCell (p := ⟨w.heap.size, 1, none⟩) (Nat.le_refl _) _) _)⟩
        case measure => simp [intOf]; omega
    · have HL4 := HL3.out
      rw [if_pos hc] at HL4
      replace HL4 := Lib.hid HL4
      have hcb : (c2 != 0) = true := by simpa using hc
      obtain ⟨fv, hv, rfl, o1, o2, dj⟩ := oR
      obtain ⟨F2, d1, rfl, -⟩ := o1.reads
      obtain ⟨G2, d2, rfl, -⟩ := o2.reads
      clear HL3 o1 o2 dj
      go_wp2_with fail
      refine bodyPost_ret (v := .tuple #[.agg #[.slice none 0 0, .slice none 0 0], .int .i64 c2, .int .i64 (f2 : Int)]) (by simp [results, Tryz.results84, go_sem, qk2, lk2]) rfl ⟨_, by rw [HL4.out], ?_, ?_⟩
      · rw [HL4.out, resS_no hc]; exact zeroO _
      · exact bbox ((hB3.setCell (p := ⟨w.heap.size + 1 + 1, 0, none⟩) (by simp only; omega) _).setCell (p := ⟨w.heap.size + 1 + 1, 1, none⟩) (by simp only; omega) _) _
--@ spec.l9Run
set_option maxRecDepth 100000 in
set_option maxHeartbeats 6400000 in
theorem l9Run_go : ∀ (N : Nat) (L : Cms), L.sz < N → ∀ (A : Option Addr) (c d lo hi : Nat), L.len ≤ 1049600 → L.small 1049600 → L.shape d = true → SRunOk A c lo hi L := by
  intro N
  induction N with
  | zero => intro L h; omega
  | succ N IH =>
    intro L hsz A c d lo hi hlen hsm hsh v s f base D w hD hO hbase hs hf hV
    subst hD
    replace IH := Lib.hid IH
    replace hsm := Lib.hid hsm
    replace hsz := Lib.hid hsz
    replace hsh := Lib.hid hsh
    obtain ⟨n, hn⟩ : ∃ n, n = L.len := ⟨_, rfl⟩
    rw [← hn]
    rw [← hn] at hlen
    replace hn := Lib.hid hn
    replace hV := Lib.hid hV
    replace hs := Lib.hid hs
    obtain ⟨LH, hLH⟩ : ∃ x, x = L.run s f := ⟨_, rfl⟩
    rw [← hLH]
    replace hLH := Lib.hid hLH
    obtain ⟨fv, hv, rfl, o1, o2, dj⟩ := hO
    obtain ⟨F, e1, rfl, -⟩ := o1.reads
    obtain ⟨G, e2, rfl, -⟩ := o2.reads
    obtain ⟨k0, k1⟩ := blk2 w tSt tSt #[.slice F s.values.length e1, .slice G s.heap.length e2] #[.slice none 0 0, .slice none 0 0]
    replace o1 := Lib.hid o1
    replace o2 := Lib.hid o2
    replace dj := Lib.hid dj
    go_enter Tryz.func46, Tryz.ntmps46
    go_wp2_with fail
    go_loopw [2, 9] (fun x i wx => ∃ (j f1 : Nat) (s1 : Ste) (F : Option Addr) (e1 : Nat) (G : Option Addr) (e2 : Nat), i = .int .i64 (j : Int) ∧ x = .int .i64 (f1 : Int) ∧ j ≤ n ∧ f1 ≤ 200 ∧ Hid (s1.valid = true) ∧ Hid (LH = (L.drop j).run s1 f1) ∧
      Blk wx w.heap.size tSt #[.slice F s1.values.length e1, .slice G s1.heap.length e2] ∧ Blk wx (w.heap.size + 1) tSt #[.slice none 0 0, .slice none 0 0] ∧
      Hid (IntsO wx base (.slice F s1.values.length e1) s1.values) ∧ Hid (IntsO wx base (.slice G s1.heap.length e2) s1.heap) ∧ Hid (∀ x, (Value.slice F s1.values.length e1).ownBlock = some x → (Value.slice G s1.heap.length e2).ownBlock ≠ some x) ∧ Hid (Below w.heap.size w wx)) (fun _ i _ => n - (intOf i).toNat)
    case atStart => exact ⟨0, f, s, F, e1, G, e2, rfl, rfl, Nat.zero_le _, hf, hs, hLH, k0, k1, Lib.hid (o1.out.below bel), Lib.hid (o2.out.below bel), dj, Lib.hid bel⟩
    case round =>
      clear k0 k1 o1 o2 dj hs
      obtain ⟨j, f1, s1, F, e1, G, e2, rfl, rfl, hj, hf1, hs1, HR, k0, k1, o1, o2, dj, HB⟩ := hrel
      have hsz1 := HB.out.size
      by_cases hlt : j < n
      · have hpos : 0 < (L.drop j).len := by rw [Cms.drop_len, ← hn.out]; omega
        obtain ⟨k, a, b, t, i, body, els, r, eL⟩ := Cms.cons_of_len hpos
        obtain ⟨bl, o, rfl, -, -, hAt⟩ := (hV.out.below HB.out) (by rw [← hn.out]; omega)
        have hD := hAt.drop j
        have hSm := Cms.small_drop j hsm.out
        have hZ := Cms.sz_drop j L
        have hDs := Cms.drop_succ j L eL
        have hshj := Cms.shape_drop j hsh.out
        have HR' := HR.out
        rw [eL] at hD hSm hZ HR' hshj
        obtain ⟨⟨p0, p1, p2, p3, p4, p5⟩, ⟨A6, c6, p6, g6⟩, ⟨A7, c7, p7, g7⟩, ⟨A3, c3, p8, g8⟩, ⟨A4, c4, p9, g9⟩, -⟩ := hD
        obtain ⟨s1', s2', s3, s4, s5, s6, -⟩ := hSm
        simp only [Cms.sz] at hZ
        have hbs : body.sz < N := by have := hsz.out; omega
        have hes : els.sz < N := by have := hsz.out; omega
        have gB : Hid (CmsV wr lo hi A3 body) := g8
        have gE : Hid (CmsV wr lo hi A4 els) := g9
        rw [Cms.shape] at hshj
        simp only [Bool.and_eq_true] at hshj
        obtain ⟨-, hfv, hsb, hse, -⟩ := hshj
        have hIB := Lib.hid (IH.out body hbs A3 c3 (d - 1) lo hi s3 s5 hsb)
        have hIE := Lib.hid (IH.out els hes A4 c4 (d - 1) lo hi s4 s6 hse)
        have hok := cmdF_ok (Cms.run_ok body) (Cms.run_ok els) k a b t s1 f1 hs1.out
        rw [Cms.run, ← hDs] at HR'
        obtain ⟨P, hP⟩ : ∃ P, P = cmdF k a b t body.run els.run s1 f1 := ⟨_, rfl⟩
        rw [← hP] at hok HR'
        obtain ⟨s2, c2, f2⟩ := P
        obtain ⟨hk1, hk2, hk3, hk4⟩ := hok
        simp only at hk1 hk2 hk3 hk4 HR'
        replace HR' := Lib.hid HR'
        replace hk1 := Lib.hid hk1
        replace hP := Lib.hid hP
        replace hfv := Lib.hid hfv
        clear hZ hpos hAt g6 g7 g8 g9 HR hDs eL hsb hse s1' s2' s5 s6 hbs hes
        (replace qk0 := k0.cell; replace rk0 := k0.frozen; replace lk0 := k0.lt; replace qk1 := k1.cell; replace rk1 := k1.frozen; replace lk1 := k1.lt)
        by_cases hz : f1 = 0
        · have E : Hid (LH = (s1, 3, f1)) := by
            have h1 := hP.out
            unfold cmdF at h1
            rw [if_pos (by omega)] at h1
            injection h1 with h1 h2; injection h2 with h2 h3
            have := HR'.out
            rw [h1, h2, h3, if_pos (by decide)] at this
            exact this
          have hzi : (f1 : Int) < 1 := by omega
          clear hz hP HR'
          go_wp2_with fail
          refine bodyPost_ret (v := .tuple #[.agg #[.slice none 0 0, .slice none 0 0], .int .i64 3, .int .i64 (f1 : Int)]) (by simp [results, Tryz.results46, go_sem, qk1, lk1]) rfl ⟨_, by rw [E.out], ?_, ?_⟩
          · rw [E.out, resS_no (by decide)]; exact zeroO _
          · first
              | exact bbox ((HB.out.setCell (p := ⟨w.heap.size + 1, 0, none⟩) (by simp only; omega) _).setCell (p := ⟨w.heap.size + 1, 1, none⟩) (by simp only; omega) _) _
              | exact (((bbox HB.out _).setCell (p := ⟨w.heap.size + 1, 0, none⟩) (by simp only; omega) _).setCell (p := ⟨w.heap.size + 1, 1, none⟩) (by simp only; omega) _)
        obtain ⟨f0, hf0⟩ : ∃ m, f1 = m + 1 := ⟨f1 - 1, by omega⟩
        have hP2 : Hid ((s2, c2, f2) = cmdR k a b t body.run els.run s1 f0) := by
          show _ = _
          rw [hP.out, hf0]
          unfold cmdF
          rw [if_neg (by omega)]; rfl
        have hfp : ¬ ((f1 : Int) < 1) := by omega
        have hD0 : (f1 : Int) - 1 = (f0 : Int) := by omega
        replace hD0 := Lib.hid hD0
        replace hf0 := Lib.hid hf0
        clear hP hz
        have h81 := Lib.hid (Ste.valid_len hs1.out).1
        by_cases k6 : k = 6
        · subst k6
          have htv := Lib.hid (fval6 hfv.out)
          obtain ⟨th, hth⟩ : ∃ x, x = t.holds s1.values := ⟨_, rfl⟩
          have hP3 := hP2.out
          rw [cmdR6, ← hth] at hP3
          replace hth := Lib.hid hth
          replace hP3 := Lib.hid hP3
          clear hP2 hfv
          go_wp2_with fail
          refine (c_hold1 (wr.heap.size + 1) t F e1 s1.values _ (Blk.newE (by simp)) ((o1.out.readsI.2).below bel) htv.out h81.out).mono ?_
          rintro e w2 ⟨rfl, hBx⟩
          rw [← hth.out]
          have hW2 : Below wr.heap.size wr w2 := bgo (bbox (bbox (Below.refl _ _) _) _) hBx
          have kc : Blk w2 wr.heap.size tC #[.int .i64 6, .int .i64 a, .int .i64 b, .bool t.eq, .int .i64 t.a, .int .i64 t.b, .slice A6 i.facts.length c6, .slice A7 i.atoms.length c7, .slice A3 body.len c3, .slice A4 els.len c4] := Blk.next blks hBx
          have hB2 := bgo HB.out hW2
          have hz2 := hW2.size
          have gB2 := Lib.hid (gB.out.below hW2)
          have gE2 := Lib.hid (gE.out.below hW2)
          replace o1 := Lib.hid (o1.out.below hW2)
          replace o2 := Lib.hid (o2.out.below hW2)
          (replace k0 := k0.next hW2; replace qk0 := k0.cell; replace rk0 := k0.frozen; replace lk0 := k0.lt; replace k1 := k1.next hW2; replace qk1 := k1.cell; replace rk1 := k1.frozen; replace lk1 := k1.lt)
          clear hBx hW2 p0 p1 p2 p3 p4 p5 p6 p7 p8 p9 gB gE
          have qc := kc.cell
          have lc := kc.lt
          cases th
          · have HC := hIE.out (.agg #[.slice F s1.values.length e1, .slice G s1.heap.length e2]) s1 f0 base ((f1 : Int) - 1) w2 hD0.out ⟨_, _, rfl, o1.out, o2.out, dj.out⟩ (by omega) hs1.out (by have := hf0.out; omega) gE2.out
            rw [show els.run s1 f0 = (s2, c2, f2) from by rw [hP3.out]; rfl] at HC
            simp only at HC
            replace HC := Lib.hid HC
            clear hP3 kc
            go_wp2_with fail
            refine HC.out.mono ?_
            rintro e w3 ⟨r, rfl, oR, hBx⟩
            have hB3 := bgo hB2 hBx
            have hz3 := hBx.size
            replace k0 := k0.next hBx
            replace k1 := k1.next hBx
            (replace qk0 := k0.cell; replace rk0 := k0.frozen; replace lk0 := k0.lt; replace qk1 := k1.cell; replace rk1 := k1.frozen; replace lk1 := k1.lt)
            clear hBx HC o1 o2 dj
            by_cases hc : c2 = 0
            · subst hc
              rw [resS_ok] at oR
              obtain ⟨fv, hv, rfl, o1, o2, dj⟩ := oR
              obtain ⟨F2, d1, rfl, -⟩ := o1.reads
              obtain ⟨G2, d2, rfl, -⟩ := o2.reads
              replace o1 := Lib.hid o1
              replace o2 := Lib.hid o2
              replace dj := Lib.hid dj
              have HL4 := HR'.out
              rw [if_neg (by omega)] at HL4
              replace HL4 := Lib.hid HL4
              have kk0 := Lib.hid k0
              have kk1 := Lib.hid k1
              clear HR'
              go_wp2_with fail
              go_round
              case rel => exact ⟨j + 1, f2, s2, F2, d1, G2, d2, by go_num, rfl, by omega, by omega, hk1, HL4, ((kk0.out.set_ 0 _).set_ 1 _), ((kk1.out.far (p := ⟨w.heap.size, 0, none⟩) (by simp) _).far (p := ⟨w.heap.size, 1, none⟩) (by simp) _),
                Lib.hid (((o1.out.setT kk0.out (by decide) 0 _).setT (kk0.out.set_ 0 _) (by decide) 1 _)), Lib.hid (((o2.out.setT kk0.out (by decide) 0 _).setT (kk0.out.set_ 0 _) (by decide) 1 _)), dj, Lib.hid ((hB3.setCell (p := ⟨w.heap.size, 0, none⟩) (Nat.le_refl _) _).setCell (p := ⟨w.heap.size, 1, none⟩) (Nat.le_refl _) _)⟩
              case measure => simp [intOf]; omega
            · have HL4 := HR'.out
              rw [if_pos hc] at HL4
              replace HL4 := Lib.hid HL4
              have hcb : (c2 != 0) = true := by simpa using hc
              obtain ⟨fv, hv, rfl, o1, o2, dj⟩ := oR
              obtain ⟨F2, d1, rfl, -⟩ := o1.reads
              obtain ⟨G2, d2, rfl, -⟩ := o2.reads
              clear HR' o1 o2 dj
              go_wp2_with fail
              refine bodyPost_ret (v := .tuple #[.agg #[.slice none 0 0, .slice none 0 0], .int .i64 c2, .int .i64 (f2 : Int)]) (by simp [results, Tryz.results46, go_sem, qk1, lk1]) rfl ⟨_, by rw [HL4.out], ?_, ?_⟩
              · rw [HL4.out, resS_no hc]; exact zeroO _
              · exact (((hB3.setCell (p := ⟨w.heap.size, 0, none⟩) (Nat.le_refl _) _).setCell (p := ⟨w.heap.size, 1, none⟩) (Nat.le_refl _) _).setCell (p := ⟨w.heap.size + 1, 0, none⟩) (by simp only; omega) _).setCell (p := ⟨w.heap.size + 1, 1, none⟩) (by simp only; omega) _
          · have HC := hIB.out (.agg #[.slice F s1.values.length e1, .slice G s1.heap.length e2]) s1 f0 base ((f1 : Int) - 1) w2 hD0.out ⟨_, _, rfl, o1.out, o2.out, dj.out⟩ (by omega) hs1.out (by have := hf0.out; omega) gB2.out
            rw [show body.run s1 f0 = (s2, c2, f2) from by rw [hP3.out]; rfl] at HC
            simp only at HC
            replace HC := Lib.hid HC
            clear hP3 kc
            go_wp2_with fail
            refine HC.out.mono ?_
            rintro e w3 ⟨r, rfl, oR, hBx⟩
            have hB3 := bgo hB2 hBx
            have hz3 := hBx.size
            replace k0 := k0.next hBx
            replace k1 := k1.next hBx
            (replace qk0 := k0.cell; replace rk0 := k0.frozen; replace lk0 := k0.lt; replace qk1 := k1.cell; replace rk1 := k1.frozen; replace lk1 := k1.lt)
            clear hBx HC o1 o2 dj
            by_cases hc : c2 = 0
            · subst hc
              rw [resS_ok] at oR
              obtain ⟨fv, hv, rfl, o1, o2, dj⟩ := oR
              obtain ⟨F2, d1, rfl, -⟩ := o1.reads
              obtain ⟨G2, d2, rfl, -⟩ := o2.reads
              replace o1 := Lib.hid o1
              replace o2 := Lib.hid o2
              replace dj := Lib.hid dj
              have HL4 := HR'.out
              rw [if_neg (by omega)] at HL4
              replace HL4 := Lib.hid HL4
              have kk0 := Lib.hid k0
              have kk1 := Lib.hid k1
              clear HR'
              go_wp2_with fail
              go_round
              case rel => exact ⟨j + 1, f2, s2, F2, d1, G2, d2, by go_num, rfl, by omega, by omega, hk1, HL4, ((kk0.out.set_ 0 _).set_ 1 _), ((kk1.out.far (p := ⟨w.heap.size, 0, none⟩) (by simp) _).far (p := ⟨w.heap.size, 1, none⟩) (by simp) _),
                Lib.hid (((o1.out.setT kk0.out (by decide) 0 _).setT (kk0.out.set_ 0 _) (by decide) 1 _)), Lib.hid (((o2.out.setT kk0.out (by decide) 0 _).setT (kk0.out.set_ 0 _) (by decide) 1 _)), dj, Lib.hid ((hB3.setCell (p := ⟨w.heap.size, 0, none⟩) (Nat.le_refl _) _).setCell (p := ⟨w.heap.size, 1, none⟩) (Nat.le_refl _) _)⟩
              case measure => simp [intOf]; omega
            · have HL4 := HR'.out
              rw [if_pos hc] at HL4
              replace HL4 := Lib.hid HL4
              have hcb : (c2 != 0) = true := by simpa using hc
              obtain ⟨fv, hv, rfl, o1, o2, dj⟩ := oR
              obtain ⟨F2, d1, rfl, -⟩ := o1.reads
              obtain ⟨G2, d2, rfl, -⟩ := o2.reads
              clear HR' o1 o2 dj
              go_wp2_with fail
              refine bodyPost_ret (v := .tuple #[.agg #[.slice none 0 0, .slice none 0 0], .int .i64 c2, .int .i64 (f2 : Int)]) (by simp [results, Tryz.results46, go_sem, qk1, lk1]) rfl ⟨_, by rw [HL4.out], ?_, ?_⟩
              · rw [HL4.out, resS_no hc]; exact zeroO _
              · exact (((hB3.setCell (p := ⟨w.heap.size, 0, none⟩) (Nat.le_refl _) _).setCell (p := ⟨w.heap.size, 1, none⟩) (Nat.le_refl _) _).setCell (p := ⟨w.heap.size + 1, 0, none⟩) (by simp only; omega) _).setCell (p := ⟨w.heap.size + 1, 1, none⟩) (by simp only; omega) _
        by_cases k7 : k = 7
        · subst k7
          have htv := Lib.hid (fval7 hfv.out)
          have HC := c_spec_l9Loop (lo := lo) (hi := hi) (.agg #[.slice F s1.values.length e1, .slice G s1.heap.length e2]) s1 f0 base ((f1 : Int) - 1) hD0.out (wr.alloc (.cells #[.int .i64 7, .int .i64 a, .int .i64 b, .bool t.eq, .int .i64 t.a, .int .i64 t.b, .slice A6 i.facts.length c6, .slice A7 i.atoms.length c7, .slice A3 body.len c3, .slice A4 els.len c4] tC)) a b t (.slice A6 i.facts.length c6) (.slice A7 i.atoms.length c7) A3 A4 c3 c4 body els ⟨_, _, rfl, o1.out.below bel, o2.out.below bel, dj.out⟩ (by first | omega | (simp; omega)) hs1.out (by have := hf0.out; omega) htv.out (gB.out.below bel) hIB.out
          rw [show loopF body.run t (f0 + 1) s1 f0 = (s2, c2, f2) from by rw [hP2.out]; rfl] at HC
          simp only at HC
          replace HC := Lib.hid HC
          have hB2 : Below w.heap.size w (wr.alloc (.cells #[.int .i64 7, .int .i64 a, .int .i64 b, .bool t.eq, .int .i64 t.a, .int .i64 t.b, .slice A6 i.facts.length c6, .slice A7 i.atoms.length c7, .slice A3 body.len c3, .slice A4 els.len c4] tC)) := bbox HB.out _
          have hz2 : wr.heap.size ≤ (wr.alloc (.cells #[.int .i64 7, .int .i64 a, .int .i64 b, .bool t.eq, .int .i64 t.a, .int .i64 t.b, .slice A6 i.facts.length c6, .slice A7 i.atoms.length c7, .slice A3 body.len c3, .slice A4 els.len c4] tC)).heap.size := by simp
          replace k0 := k0.alloc (.cells #[.int .i64 7, .int .i64 a, .int .i64 b, .bool t.eq, .int .i64 t.a, .int .i64 t.b, .slice A6 i.facts.length c6, .slice A7 i.atoms.length c7, .slice A3 body.len c3, .slice A4 els.len c4] tC)
          replace k1 := k1.alloc (.cells #[.int .i64 7, .int .i64 a, .int .i64 b, .bool t.eq, .int .i64 t.a, .int .i64 t.b, .slice A6 i.facts.length c6, .slice A7 i.atoms.length c7, .slice A3 body.len c3, .slice A4 els.len c4] tC)
          clear hP2 hfv k6
          go_wp2_with fail
          refine HC.out.mono ?_
          rintro e w3 ⟨r, rfl, oR, hBx⟩
          have hB3 := bgo hB2 hBx
          have hz3 := hBx.size
          replace k0 := k0.next hBx
          replace k1 := k1.next hBx
          (replace qk0 := k0.cell; replace rk0 := k0.frozen; replace lk0 := k0.lt; replace qk1 := k1.cell; replace rk1 := k1.frozen; replace lk1 := k1.lt)
          clear hBx HC o1 o2 dj
          by_cases hc : c2 = 0
          · subst hc
            rw [resS_ok] at oR
            obtain ⟨fv, hv, rfl, o1, o2, dj⟩ := oR
            obtain ⟨F2, d1, rfl, -⟩ := o1.reads
            obtain ⟨G2, d2, rfl, -⟩ := o2.reads
            replace o1 := Lib.hid o1
            replace o2 := Lib.hid o2
            replace dj := Lib.hid dj
            have HL4 := HR'.out
            rw [if_neg (by omega)] at HL4
            replace HL4 := Lib.hid HL4
            have kk0 := Lib.hid k0
            have kk1 := Lib.hid k1
            clear HR'
            go_wp2_with fail
            go_round
            case rel => exact ⟨j + 1, f2, s2, F2, d1, G2, d2, by go_num, rfl, by omega, by omega, hk1, HL4, ((kk0.out.set_ 0 _).set_ 1 _), ((kk1.out.far (p := ⟨w.heap.size, 0, none⟩) (by simp) _).far (p := ⟨w.heap.size, 1, none⟩) (by simp) _),
              Lib.hid (((o1.out.setT kk0.out (by decide) 0 _).setT (kk0.out.set_ 0 _) (by decide) 1 _)), Lib.hid (((o2.out.setT kk0.out (by decide) 0 _).setT (kk0.out.set_ 0 _) (by decide) 1 _)), dj, Lib.hid ((hB3.setCell (p := ⟨w.heap.size, 0, none⟩) (Nat.le_refl _) _).setCell (p := ⟨w.heap.size, 1, none⟩) (Nat.le_refl _) _)⟩
            case measure => simp [intOf]; omega
          · have HL4 := HR'.out
            rw [if_pos hc] at HL4
            replace HL4 := Lib.hid HL4
            have hcb : (c2 != 0) = true := by simpa using hc
            obtain ⟨fv, hv, rfl, o1, o2, dj⟩ := oR
            obtain ⟨F2, d1, rfl, -⟩ := o1.reads
            obtain ⟨G2, d2, rfl, -⟩ := o2.reads
            clear HR' o1 o2 dj
            go_wp2_with fail
            refine bodyPost_ret (v := .tuple #[.agg #[.slice none 0 0, .slice none 0 0], .int .i64 c2, .int .i64 (f2 : Int)]) (by simp [results, Tryz.results46, go_sem, qk1, lk1]) rfl ⟨_, by rw [HL4.out], ?_, ?_⟩
            · rw [HL4.out, resS_no hc]; exact zeroO _
            · exact (((hB3.setCell (p := ⟨w.heap.size, 0, none⟩) (Nat.le_refl _) _).setCell (p := ⟨w.heap.size, 1, none⟩) (Nat.le_refl _) _).setCell (p := ⟨w.heap.size + 1, 0, none⟩) (by simp only; omega) _).setCell (p := ⟨w.heap.size + 1, 1, none⟩) (by simp only; omega) _
        have hfb := fval_basic k6 k7 hfv.out
        have hP3 := hP2.out
        rw [cmdRb k6 k7] at hP3
        have eb : basicF s1 k a b = (s2, c2) := by
          injection hP3 with h1 h2; injection h2 with h2 h3
          rw [h1, h2]
        have ef : Hid (f2 = f0) := by injection hP3 with h1 h2; injection h2 with h2 h3
        have HC := c_spec_l9Basic (lo := base) (hi := wr.heap.size + 1) (.agg #[.slice F s1.values.length e1, .slice G s1.heap.length e2]) s1 (wr.alloc (.cells #[.int .i64 k, .int .i64 a, .int .i64 b, .bool t.eq, .int .i64 t.a, .int .i64 t.b, .slice A6 i.facts.length c6, .slice A7 i.atoms.length c7, .slice A3 body.len c3, .slice A4 els.len c4] tC)) k a b t (.slice A6 i.facts.length c6) (.slice A7 i.atoms.length c7) (.slice A3 body.len c3) (.slice A4 els.len c4) ⟨_, _, _, _, rfl, ((o1.out.readsI.2).below bel).mono (Nat.le_refl _) (by omega), ((o2.out.readsI.2).below bel).mono (Nat.le_refl _) (by omega)⟩ hs1.out hfb
        rw [eb, show basS (s2, c2) = resS (s2, c2, f2) from rfl] at HC
        simp only at HC
        replace HC := Lib.hid HC
        have hB2 : Below w.heap.size w (wr.alloc (.cells #[.int .i64 k, .int .i64 a, .int .i64 b, .bool t.eq, .int .i64 t.a, .int .i64 t.b, .slice A6 i.facts.length c6, .slice A7 i.atoms.length c7, .slice A3 body.len c3, .slice A4 els.len c4] tC)) := bbox HB.out _
        have hz2 : wr.heap.size ≤ (wr.alloc (.cells #[.int .i64 k, .int .i64 a, .int .i64 b, .bool t.eq, .int .i64 t.a, .int .i64 t.b, .slice A6 i.facts.length c6, .slice A7 i.atoms.length c7, .slice A3 body.len c3, .slice A4 els.len c4] tC)).heap.size := by simp
        replace k0 := k0.alloc (.cells #[.int .i64 k, .int .i64 a, .int .i64 b, .bool t.eq, .int .i64 t.a, .int .i64 t.b, .slice A6 i.facts.length c6, .slice A7 i.atoms.length c7, .slice A3 body.len c3, .slice A4 els.len c4] tC)
        replace k1 := k1.alloc (.cells #[.int .i64 k, .int .i64 a, .int .i64 b, .bool t.eq, .int .i64 t.a, .int .i64 t.b, .slice A6 i.facts.length c6, .slice A7 i.atoms.length c7, .slice A3 body.len c3, .slice A4 els.len c4] tC)
        clear hP2 hP3 eb hfv hfb
        go_wp2_with fail
        refine HC.out.mono ?_
        rintro e w3 ⟨r, rfl, oR, hBx⟩
        have hB3 := bgo hB2 hBx
        have hz3 := hBx.size
        replace oR := oR.lower (base' := base) (by omega)
        replace k0 := k0.next hBx
        replace k1 := k1.next hBx
        (replace qk0 := k0.cell; replace rk0 := k0.frozen; replace lk0 := k0.lt; replace qk1 := k1.cell; replace rk1 := k1.frozen; replace lk1 := k1.lt)
        clear hBx HC o1 o2 dj
        by_cases hc : c2 = 0
        · subst hc
          rw [resS_ok] at oR
          obtain ⟨fv, hv, rfl, o1, o2, dj⟩ := oR
          obtain ⟨F2, d1, rfl, -⟩ := o1.reads
          obtain ⟨G2, d2, rfl, -⟩ := o2.reads
          replace o1 := Lib.hid o1
          replace o2 := Lib.hid o2
          replace dj := Lib.hid dj
          have HL4 := HR'.out
          rw [if_neg (by omega)] at HL4
          replace HL4 := Lib.hid HL4
          have kk0 := Lib.hid k0
          have kk1 := Lib.hid k1
          clear HR'
          go_wp2_with fail
          go_round
          case rel => exact ⟨j + 1, f2, s2, F2, d1, G2, d2, by go_num, (by have h1 := ef.out; have h2 := hD0.out; congr 1; omega), by omega, by omega, hk1, HL4, ((kk0.out.set_ 0 _).set_ 1 _), ((kk1.out.far (p := ⟨w.heap.size, 0, none⟩) (by simp) _).far (p := ⟨w.heap.size, 1, none⟩) (by simp) _),
            Lib.hid (((o1.out.setT kk0.out (by decide) 0 _).setT (kk0.out.set_ 0 _) (by decide) 1 _)), Lib.hid (((o2.out.setT kk0.out (by decide) 0 _).setT (kk0.out.set_ 0 _) (by decide) 1 _)), dj, Lib.hid ((hB3.setCell (p := ⟨w.heap.size, 0, none⟩) (Nat.le_refl _) _).setCell (p := ⟨w.heap.size, 1, none⟩) (Nat.le_refl _) _)⟩
          case measure => simp [intOf]; omega
        · have HL4 := HR'.out
          rw [if_pos hc] at HL4
          replace HL4 := Lib.hid HL4
          have hcb : (c2 != 0) = true := by simpa using hc
          obtain ⟨fv, hv, rfl, o1, o2, dj⟩ := oR
          obtain ⟨F2, d1, rfl, -⟩ := o1.reads
          obtain ⟨G2, d2, rfl, -⟩ := o2.reads
          clear HR' o1 o2 dj
          go_wp2_with fail
          refine bodyPost_ret (v := .tuple #[.agg #[.slice none 0 0, .slice none 0 0], .int .i64 c2, .int .i64 ((f1 : Int) - 1)]) (by simp [results, Tryz.results46, go_sem, qk1, lk1]) rfl ⟨_, by rw [HL4.out]; rw [show ((f1 : Int) - 1) = (f2 : Int) from by have h1 := ef.out; have h2 := hD0.out; omega], ?_, ?_⟩
          · rw [HL4.out, resS_no hc]; exact zeroO _
          · exact (((hB3.setCell (p := ⟨w.heap.size, 0, none⟩) (Nat.le_refl _) _).setCell (p := ⟨w.heap.size, 1, none⟩) (Nat.le_refl _) _).setCell (p := ⟨w.heap.size + 1, 0, none⟩) (by simp only; omega) _).setCell (p := ⟨w.heap.size + 1, 1, none⟩) (by simp only; omega) _
      · have h2 := HR.out
        obtain rfl : j = n := by omega
        have e1' : L.drop j = .nil := by rw [hn.out]; exact Cms.drop_all L
        rw [e1'] at h2
        have E : Hid (LH = (s1, 0, f1)) := h2
        have KB := Lib.hid k1
        (replace qk0 := k0.cell; replace rk0 := k0.frozen; replace lk0 := k0.lt; replace qk1 := k1.cell; replace rk1 := k1.frozen; replace lk1 := k1.lt)
        clear HR h2
        go_wp2_with fail
        refine bodyPost_ret (v := .tuple #[.agg #[.slice F s1.values.length e1, .slice G s1.heap.length e2], .int .i64 0, .int .i64 (f1 : Int)]) (by simp [results, Tryz.results46, go_sem, qk1, lk1]) rfl ⟨_, by rw [E.out], ?_, ?_⟩
        · rw [E.out, resS_ok]
          exact ⟨_, _, rfl, ((o1.out.setT KB.out (by decide) 0 _).setT (KB.out.set_ 0 _) (by decide) 1 _), ((o2.out.setT KB.out (by decide) 0 _).setT (KB.out.set_ 0 _) (by decide) 1 _), dj.out⟩
        · exact (HB.out.setCell (p := ⟨w.heap.size + 1, 0, none⟩) (by simp only; omega) _).setCell (p := ⟨w.heap.size + 1, 1, none⟩) (by simp only; omega) _
--@
end Go.Proofs.YteogcababfenfaaGreat
