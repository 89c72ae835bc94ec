/- Running programs: spec.RunProgram, RunSteps; the words for the laws. -/
import Derived.Test.YteogcababfenfaaGreatMRunF
import Derived.Test.YteogcababfenfaaGreatMCmdW
import Derived.Test.YteogcababfenfaaGreatMCmdK
import Derived.Test.YteogcababfenfaaGreatMCells
set_option linter.unusedSimpArgs false
set_option linter.unusedVariables false
namespace Go.Proofs.YteogcababfenfaaGreat
open Go Go.RowKit Go.Proofs

--@ spec.l9Fits
set_option maxHeartbeats 1600000 in
theorem c_spec_l9Fits {lo hi lo' hi' : Nat} (v : Value) (s : Ste) (A : Option Addr) (c : Nat) (L : Cms) (f : Int) (w : World) (h : StateV w lo hi v s) (hV : CmsV w lo' hi' A L) (hlen : L.len ≤ 1049600) (hsm : L.small 1049600) (hz : L.sz ≤ 1049600) :
    Calls Tryz.prog 45 #[v, .slice A L.len c, .int .i64 f] w fun e w' => e = .returned (.bool (runsP s L f)) ∧ Below w.heap.size w w' := by
  have hS := Lib.hid h
  obtain ⟨A1, c1, A2, c2, rfl, -, -⟩ := h
  replace hV := Lib.hid hV
  replace hsm := Lib.hid hsm
  obtain ⟨sv, hsv⟩ : ∃ x, x = s.valid := ⟨_, rfl⟩
  obtain ⟨pv, hpv⟩ : ∃ x, x = L.prog := ⟨_, rfl⟩
  obtain ⟨R, hR⟩ : ∃ x, x = runsP s L f := ⟨_, rfl⟩
  rw [← hR]
  have hR' : R = (sv && (pv && decide (0 ≤ f ∧ f ≤ 200))) := by rw [hR, hsv, hpv]; rfl
  replace hsv := Lib.hid hsv
  replace hpv := Lib.hid hpv
  replace hR' := Lib.hid hR'
  clear hR
  go_enter Tryz.func45, Tryz.ntmps45
  go_wp2_with fail
  refine (c_spec_StateValid _ s _ (hS.out.below bel)).mono ?_
  rintro e w1 ⟨rfl, hB1⟩
  rw [← hsv.out]
  have hB := bgo (w := w) bel hB1
  clear hB1
  cases sv
  · go_wp2_with fail
    go_ret
    exact ⟨ret_bool (by rw [hR'.out]; rfl), bel⟩
  go_wp2_with fail
  refine (c_spec_ProgramValid L A c _ (hV.out.below hB) hlen hsm.out hz).mono ?_
  rintro e w2 ⟨rfl, hB2⟩
  rw [← hpv.out]
  have hBB := bgo hB hB2
  clear hB2 hB
  cases pv
  · go_wp2_with fail
    go_ret
    exact ⟨ret_bool (by rw [hR'.out]; rfl), bel⟩
  by_cases f0 : 0 ≤ f
  · by_cases f2 : f ≤ 200
    all_goals
      go_wp2_with fail
      go_ret
      exact ⟨ret_bool (by rw [hR'.out]; simp [f0, f2]), bel⟩
  · go_wp2_with fail
    go_ret
    exact ⟨ret_bool (by rw [hR'.out]; simp; omega), bel⟩

--@ spec.RunSteps
--@ spec.RunProgram
set_option maxRecDepth 100000 in
set_option maxHeartbeats 3200000 in
theorem c_spec_RunProgram {lo hi lo' hi' : Nat} (v : Value) (s : Ste) (A : Option Addr) (c : Nat) (L : Cms) (f : Int) (w : World) (h : StateV w lo hi v s) (hV : CmsV w lo' hi' A L) (hlen : L.len ≤ 1049600) (hsm : L.small 1049600) (hz : L.sz ≤ 1049600) :
    Calls Tryz.prog 16 #[v, .slice A L.len c, .int .i64 f] w fun e w' => ∃ r, e = .returned (.tuple #[r, .int .i64 (codeF s L f)]) ∧ StateO w' w.heap.size r (afterF s L f) ∧ Below w.heap.size w w' := by
  have hS := Lib.hid h
  obtain ⟨A1, c1, A2, c2, rfl, -, -⟩ := h
  replace hV := Lib.hid hV
  replace hsm := Lib.hid hsm
  obtain ⟨k0, k1⟩ := blk2 w 25 25 #[.slice A1 s.values.length c1, .slice A2 s.heap.length c2] #[.slice none 0 0, .slice none 0 0]
  cases hr : runsP s L f
  · have E : Hid (codeF s L f = 4) := by show _ = _; unfold codeF; rw [hr]; rfl
    have E2 : Hid (afterF s L f = ⟨[], []⟩) := by show _ = _; unfold afterF; rw [E.out]; rfl
    replace hr := Lib.hid hr
    go_enter Tryz.func16, Tryz.ntmps16
    go_wp2_with fail
    refine (c_spec_l9Fits _ s A c L f _ (hS.out.below bel) (hV.out.below bel) hlen hsm.out hz).mono ?_
    rintro e w1 ⟨rfl, hB1⟩
    rw [hr.out]
    have hB := bgo (w := w) bel hB1
    (replace k0 := k0.next hB1; replace qk0 := k0.cell; replace rk0 := k0.frozen; replace lk0 := k0.lt; replace k1 := k1.next hB1; replace qk1 := k1.cell; replace rk1 := k1.frozen; replace lk1 := k1.lt)
    clear hB1
    go_wp2_with fail
    refine bodyPost_ret (v := .tuple #[.agg #[.slice none 0 0, .slice none 0 0], .int .i64 4]) (by simp [results, Tryz.results16, go_sem, qk1, lk1]) rfl ⟨_, by rw [E.out], ?_, bel⟩
    rw [E2.out]
    exact zeroO _
  obtain ⟨h1, h2, h3, n, rfl, hn⟩ := runsP_yes hr
  have E : Hid (codeF s L (n : Int) = (L.run s n).2.1) := by show _ = _; unfold codeF; rw [hr]; rfl
  have E2 : Hid (afterF s L (n : Int) = resS (L.run s n)) := by show _ = _; unfold afterF; rw [E.out]; rfl
  have hrun := l9Run_go _ L (Nat.lt_succ_self _) A c 4 lo' hi' hlen hsm.out h3
  obtain ⟨P, hP⟩ : ∃ P, P = L.run s n := ⟨_, rfl⟩
  rw [← hP] at E E2
  obtain ⟨c2', hc2⟩ : ∃ x, x = P.2.1 := ⟨_, rfl⟩
  obtain ⟨f2, hf2⟩ : ∃ x, x = P.2.2 := ⟨_, rfl⟩
  obtain ⟨s2, hs2⟩ : ∃ x, x = resS P := ⟨_, rfl⟩
  rw [← hc2] at E
  rw [← hs2] at E2
  replace hrun := Lib.hid hrun
  replace hr := Lib.hid hr
  replace h1 := Lib.hid h1
  replace hP := Lib.hid hP
  replace hc2 := Lib.hid hc2
  replace hf2 := Lib.hid hf2
  replace hs2 := Lib.hid hs2
  clear h2 h3
  go_enter Tryz.func16, Tryz.ntmps16
  go_wp2_with fail
  refine (c_spec_l9Fits _ s A c L (n : Int) _ (hS.out.below bel) (hV.out.below bel) hlen hsm.out hz).mono ?_
  rintro e w1 ⟨rfl, hB1⟩
  rw [hr.out]
  have hB := bgo (w := w) bel hB1
  (replace k0 := k0.next hB1; replace qk0 := k0.cell; replace rk0 := k0.frozen; replace lk0 := k0.lt; replace k1 := k1.next hB1; replace qk1 := k1.cell; replace rk1 := k1.frozen; replace lk1 := k1.lt)
  clear hB1
  go_wp2_with fail
  refine (c_l2Copy _ s _ (hS.out.below hB)).mono ?_
  rintro e w2 ⟨r, rfl, o, hB2⟩
  have hz0 := hB.size
  have hz1 := hB2.size
  (replace hB := bgo hB hB2; replace k0 := k0.next hB2; replace qk0 := k0.cell; replace rk0 := k0.frozen; replace lk0 := k0.lt; replace k1 := k1.next hB2; replace qk1 := k1.cell; replace rk1 := k1.frozen; replace lk1 := k1.lt)
  clear hB2
  have hl := hrun.out r s n w1.heap.size (n : Int) w2 rfl o hz1 h1.out hn (hV.out.below hB)
  rw [← hP.out, ← hc2.out, ← hf2.out, ← hs2.out] at hl
  obtain ⟨fv, hv, rfl, o1, o2, -⟩ := o
  obtain ⟨F, e1, rfl, -⟩ := o1.reads
  obtain ⟨G, e2, rfl, -⟩ := o2.reads
  replace hl := Lib.hid hl
  clear o1 o2 hrun
  go_wp2_with fail
  refine hl.out.mono ?_
  rintro e w3 ⟨r, rfl, o, hB3⟩
  (replace hB := bgo hB hB3; replace k0 := k0.next hB3; replace qk0 := k0.cell; replace rk0 := k0.frozen; replace lk0 := k0.lt; replace k1 := k1.next hB3; replace qk1 := k1.cell; replace rk1 := k1.frozen; replace lk1 := k1.lt)
  clear hB3
  obtain ⟨fv, hv, rfl, o1, o2, dj⟩ := o
  obtain ⟨F2, d1, rfl, -⟩ := o1.reads
  obtain ⟨G2, d2, rfl, -⟩ := o2.reads
  replace o1 := Lib.hid (o1.lower (base' := w.heap.size) hz0)
  replace o2 := Lib.hid (o2.lower (base' := w.heap.size) hz0)
  replace dj := Lib.hid dj
  have KB := Lib.hid k1
  clear hl
  go_wp2_with fail
  refine bodyPost_ret (v := .tuple #[.agg #[.slice F2 s2.values.length d1, .slice G2 s2.heap.length d2], .int .i64 c2']) (by simp [results, Tryz.results16, go_sem, qk1, lk1]) rfl ⟨_, by rw [E.out], ?_, ?_⟩
  · rw [E2.out]
    exact ⟨_, _, rfl, ((o1.out.setT KB.out (by decide) 0 _).setT (KB.out.set_ 0 _) (by decide) 1 _).below (bbox (Below.refl _ _) _), ((o2.out.setT KB.out (by decide) 0 _).setT (KB.out.set_ 0 _) (by decide) 1 _).below (bbox (Below.refl _ _) _), dj.out⟩
  · exact bbox ((hB.setCell (p := ⟨w.heap.size + 1, 0, none⟩) (by simp) _).setCell (p := ⟨w.heap.size + 1, 1, none⟩) (by simp) _) _
--@ impl.RunSteps
--@ spec.RunSteps
--@ impl.RunProgram
theorem k_impl_RunProgram {lo hi lo' : Nat} (v : Value) (s : Ste) (A : Option Addr) (c : Nat) (L : Cms) (f : Int) (w : World) (h : StateV w lo hi v s) (hV : CmsW w lo' w.heap.size A L) : Calls Tryz.prog 12 #[v, .slice A L.len c, .int .i64 f] w fun e w' => ∃ r, e = .returned (.tuple #[r, .int .i64 (codeF s L f)]) ∧ StateO w' w.heap.size r (afterF s L f) ∧ Below w.heap.size w w' :=
  c_impl_RunProgram v s A c L f w h hV.1 (Nat.le_refl _) hV.len hV.small
--@ spec.RunProgram
theorem k_spec_RunProgram {lo hi lo' : Nat} (v : Value) (s : Ste) (A : Option Addr) (c : Nat) (L : Cms) (f : Int) (w : World) (h : StateV w lo hi v s) (hV : CmsW w lo' w.heap.size A L) : Calls Tryz.prog 16 #[v, .slice A L.len c, .int .i64 f] w fun e w' => ∃ r, e = .returned (.tuple #[r, .int .i64 (codeF s L f)]) ∧ StateO w' w.heap.size r (afterF s L f) ∧ Below w.heap.size w w' :=
  c_spec_RunProgram v s A c L f w h hV.1 hV.len hV.small hV.sz
--@
end Go.Proofs.YteogcababfenfaaGreat

/- Contracts: equal states (impl.StateSame). -/
namespace Go.Proofs.YteogcababfenfaaGreat
open Go Go.RowKit Go.Proofs
attribute [local go_sem ↓] Go.wp_at_zero Go.wp_at_succ
--@ impl.sameInts
set_option maxHeartbeats 1600000 in
theorem c_impl_sameInts {lo hi lo' hi' : Nat} (A A' : Option Addr) (c c' : Nat) (fs gs : List Int) (w : World) (h : IntsV w lo hi A fs) (h' : IntsV w lo' hi' A' gs) : Calls Tryz.prog 50 #[.slice A fs.length c, .slice A' gs.length c'] w fun e w' => e = .returned (.bool (decide (fs = gs))) ∧ w = w' := by
  have hl := h.le
  have hl' := h'.le
  have H := Lib.hid h
  have H' := Lib.hid h'
  clear h h'
  by_cases hn : fs.length = gs.length
  · have hn' : ((fs.length : Int) != (gs.length : Int)) = false := by simp [hn]
    have HN := Lib.hid hn
    clear hn
    go_enter Tryz.func50, Tryz.ntmps50
    go_wp2_with fail
    clear hn'
    go_loop [14] (fun i => ∃ k : Nat, k ≤ fs.length ∧ i = .int .i64 k ∧ Hid (decide (fs = gs) = decide (fs.drop k = gs.drop k))) (fun i => fs.length - (intOf i).toNat)
    case atStart => exact ⟨0, Nat.zero_le _, rfl, by show _ = _; simp⟩
    case round =>
      obtain ⟨k, hk, rfl, HA⟩ := hrel
      by_cases hlt : k < fs.length
      · have hlt' : k < gs.length := by have := HN.out; omega
        obtain ⟨b, off, rfl, g0⟩ := H.out.at hlt
        obtain ⟨b', off', rfl, j0⟩ := H'.out.at hlt'
        have HD := Lib.hid (drop_eq fs gs k hlt hlt')
        have hki : (k : Int) < (fs.length : Int) := by omega
        have hki' : (k : Int) < (gs.length : Int) := by omega
        obtain ⟨f, hf⟩ : ∃ f, f = fs[k] := ⟨_, rfl⟩
        obtain ⟨g, hg⟩ : ∃ g, g = gs[k] := ⟨_, rfl⟩
        rw [← hf] at g0 HD
        rw [← hg] at j0 HD
        clear hf hg
        by_cases f1 : f = g
        · have E : Hid (decide (f = g) = true) := by show _ = _; rw [decide_eq_true_eq]; exact f1
          rw [f1] at g0
          clear f1
          go_wp2_with fail
          go_round
          case rel => exact ⟨k + 1, by omega, by go_num, by show _ = _; rw [HA.out, HD.out, E.out]; rfl⟩
          case measure => simp [intOf]; omega
        · have E : Hid (decide (f = g) = false) := by show _ = _; rw [decide_eq_false_iff_not]; exact f1
          have e1 : (f != g) = true := by simpa using f1
          clear f1
          go_wp2_with fail
          go_ret
          exact ⟨ret_bool (by rw [HA.out, HD.out, E.out]; rfl), rfl⟩
      · obtain rfl : k = fs.length := by omega
        have E : Hid (decide (fs = gs) = true) := by show _ = _; rw [HA.out, List.drop_length, HN.out, List.drop_length]; simp
        go_wp2_with fail
        go_ret
        exact ⟨ret_bool E.out.symm, rfl⟩
  · have hn' : ((fs.length : Int) != (gs.length : Int)) = true := by simp; omega
    have E : Hid (decide (fs = gs) = false) := by show _ = _; rw [decide_eq_false_iff_not]; exact fun e => hn (by rw [e])
    clear hn
    go_enter Tryz.func50, Tryz.ntmps50
    go_wp2_with fail
    go_ret
    exact ⟨ret_bool E.out.symm, rfl⟩

--@ impl.StateSame
set_option maxHeartbeats 1600000 in
theorem c_impl_StateSameT {lo hi lo' hi' : Nat} (v v' : Value) (s : Ste) (w : World) (h : StateV w lo hi v s) (h' : StateV w lo' hi' v' s) : Calls Tryz.prog 19 #[v, v'] w fun e w' => e = .returned (.bool true) ∧ Below w.heap.size w w' := by
  obtain ⟨A1, c1, A2, c2, rfl, h1, h2⟩ := h
  obtain ⟨A3, c3, A4, c4, rfl, h3, h4⟩ := h'
  have H1 := Lib.hid h1
  have H2 := Lib.hid h2
  have H3 := Lib.hid h3
  have H4 := Lib.hid h4
  clear h1 h2 h3 h4
  go_enter Tryz.func19, Tryz.ntmps19
  go_wp2_with fail
  refine (c_impl_sameInts A1 A3 c1 c3 s.values s.values _ (H1.out.below bel) (H3.out.below bel)).mono ?_
  rintro e w1 ⟨rfl, rfl⟩
  rw [decide_eq_true (Eq.refl s.values)]
  go_wp2_with fail
  refine (c_impl_sameInts A2 A4 c2 c4 s.heap s.heap _ (H2.out.below bel) (H4.out.below bel)).mono ?_
  rintro e w2 ⟨rfl, rfl⟩
  rw [decide_eq_true (Eq.refl s.heap)]
  go_wp2_with fail
  go_ret
  exact ⟨rfl, bel⟩
end Go.Proofs.YteogcababfenfaaGreat

/- Words for the laws of runs: the state, the program and further states lie in memory. -/
namespace Go.Proofs.YteogcababfenfaaGreat
open Go Go.RowKit Go.Proofs
/-- a state in slices, hidden -/
theorem StateO.open_ {w : World} {base : Nat} {r : Value} {s : Ste} (h : StateO w base r s) : ∃ V c H d, r = .agg #[.slice V s.values.length c, .slice H s.heap.length d] ∧ Hid (StateV w base w.heap.size (.agg #[.slice V s.values.length c, .slice H s.heap.length d]) s) := by
  have hr := h.reads
  obtain ⟨fv, av, rfl, o1, o2, -⟩ := h
  obtain ⟨V, c, rfl, -⟩ := o1.reads
  obtain ⟨H, d, rfl, -⟩ := o2.reads
  exact ⟨V, c, H, d, rfl, Lib.hid hr⟩
/-- a state in a variable -/
structure SB (W : World) (x : Nat) (V : Option Addr) (c : Nat) (H : Option Addr) (d : Nat) (s : Ste) : Prop where
  st : ∃ lo hi, StateV W lo hi (.agg #[.slice V s.values.length c, .slice H s.heap.length d]) s
  blk : Blk W x tSt #[.slice V s.values.length c, .slice H s.heap.length d]
/-- what lies below, and a program -/
structure PB (w W : World) (B : Option Addr) (L : Cms) : Prop where
  bel : Below w.heap.size w W
  prog : CmsW W w.heap.size W.heap.size B L
section
variable {w W W' : World} {x c d : Nat} {V H B : Option Addr} {s : Ste} {L : Cms}
theorem SB.next (h : SB W x V c H d s) (hB : Below W.heap.size W W') : SB W' x V c H d s := by
  obtain ⟨⟨lo, hi, h1⟩, h2⟩ := h
  exact ⟨⟨lo, hi, h1.below hB⟩, h2.next hB⟩
theorem PB.next (h : PB w W B L) (hB : Below W.heap.size W W') : PB w W' B L := ⟨bgo h.bel hB, (h.prog.below hB).mono (Nat.le_refl _) hB.size⟩
theorem SB.new {lo hi : Nat} (h : StateV W lo hi (.agg #[.slice V s.values.length c, .slice H s.heap.length d]) s) : SB (W.alloc (.cells #[.slice V s.values.length c, .slice H s.heap.length d] tSt)) W.heap.size V c H d s :=
  ⟨⟨lo, hi, h.below (bbox (Below.refl _ _) _)⟩, Blk.new _ _ _⟩
end
theorem r_impl {w W : World} {x c d n : Nat} {V H B : Option Addr} {s : Ste} {L : Cms} (f : Int) (hS : SB W x V c H d s) (hP : PB w W B L) :
    Calls Tryz.prog 12 #[.agg #[.slice V s.values.length c, .slice H s.heap.length d], .slice B L.len n, .int .i64 f] W fun e w' => ∃ V2 e2 H2 g2, e = .returned (.tuple #[.agg #[.slice V2 (afterF s L f).values.length e2, .slice H2 (afterF s L f).heap.length g2], .int .i64 (codeF s L f)]) ∧
      Hid (StateV w' W.heap.size w'.heap.size (.agg #[.slice V2 (afterF s L f).values.length e2, .slice H2 (afterF s L f).heap.length g2]) (afterF s L f)) ∧ Below W.heap.size W w' := by
  obtain ⟨lo, hi, h1⟩ := hS.st
  refine (k_impl_RunProgram _ s B n L f W h1 hP.prog).mono ?_
  rintro e w' ⟨r, rfl, o, hB⟩
  obtain ⟨V2, e2, H2, g2, rfl, hV⟩ := o.open_
  exact ⟨V2, e2, H2, g2, rfl, hV, hB⟩
--@ spec.RunProgram
theorem r_spec {w W : World} {x c d n : Nat} {V H B : Option Addr} {s : Ste} {L : Cms} (f : Int) (hS : SB W x V c H d s) (hP : PB w W B L) :
    Calls Tryz.prog 16 #[.agg #[.slice V s.values.length c, .slice H s.heap.length d], .slice B L.len n, .int .i64 f] W fun e w' => ∃ V2 e2 H2 g2, e = .returned (.tuple #[.agg #[.slice V2 (afterF s L f).values.length e2, .slice H2 (afterF s L f).heap.length g2], .int .i64 (codeF s L f)]) ∧
      Hid (StateV w' W.heap.size w'.heap.size (.agg #[.slice V2 (afterF s L f).values.length e2, .slice H2 (afterF s L f).heap.length g2]) (afterF s L f)) ∧ Below W.heap.size W w' := by
  obtain ⟨lo, hi, h1⟩ := hS.st
  refine (k_spec_RunProgram _ s B n L f W h1 hP.prog).mono ?_
  rintro e w' ⟨r, rfl, o, hB⟩
  obtain ⟨V2, e2, H2, g2, rfl, hV⟩ := o.open_
  exact ⟨V2, e2, H2, g2, rfl, hV, hB⟩
--@ impl.RunSteps
--@ spec.RunSteps
--@ impl.StateSame
theorem same_T {W : World} {x c d x' c' d' : Nat} {V H V' H' : Option Addr} {s t : Ste} (e : t = s) (hS : SB W x V c H d s) (hS' : SB W x' V' c' H' d' t) :
    Calls Tryz.prog 19 #[.agg #[.slice V s.values.length c, .slice H s.heap.length d], .agg #[.slice V' t.values.length c', .slice H' t.heap.length d']] W fun e w' => e = .returned (.bool true) ∧ Below W.heap.size W w' := by
  subst e
  obtain ⟨lo, hi, h1⟩ := hS.st
  obtain ⟨lo', hi', h1'⟩ := hS'.st
  exact c_impl_StateSameT _ _ _ W h1 h1'
--@
end Go.Proofs.YteogcababfenfaaGreat
