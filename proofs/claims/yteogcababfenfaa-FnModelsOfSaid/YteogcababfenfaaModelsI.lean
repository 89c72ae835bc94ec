/- Contracts: impl's ModelsOf. -/
import Derived.Test.YteogcababfenfaaModelsP
import Derived.Test.YteogcababfenfaaSteApp
import Derived.Test.YteogcababfenfaaGrowI
import Derived.LoopIn
set_option linter.unusedSimpArgs false
set_option linter.unusedVariables false
namespace Go.Proofs.Yteogcababfenfaa
open Go Go.RowKit Go.Proofs
attribute [local go_sem ↓] Go.wp_at_zero Go.wp_at_succ
attribute [local go_sem] Oper.semAt_some
--@ impl.ModelsOf
set_option maxRecDepth 100000 in
set_option maxHeartbeats 6400000 in
theorem c_impl_ModelsOf {lo hi : Nat} (v : Value) (a : Asn) (w : World) (h : AsnV w lo hi v a) (hhi : hi ≤ w.heap.size) :
    Calls Try.prog 11 #[v] w fun e w' => ∃ r, e = .returned r ∧ StesR w' w.heap.size r (modelsV a) ∧ Below w.heap.size w w' := by
  have hV := Lib.hid h
  obtain ⟨A1, c1, A2, c2, rfl, -, -⟩ := h
  refine (callsIn_wide (n := 3)).1 ?_
  (refine callsIn_of_wp_marks Try.func11 rfl trivial ?_ rfl; simp only [Try.ntmps11, List.size_toArray, List.length_cons, List.length_nil, Nat.reduceAdd, Nat.reduceSub, Array.replicate_succ, Array.replicate_zero, List.push_toArray, List.append_toArray, List.nil_append, List.cons_append])
  gi_wp2_with fail
  refine ⟨trivial, (callsIn_wide.2 (c_impl_AssertionValid _ a _ (hV.out.below bel))).mono ?_⟩
  rintro e w1 ⟨rfl, hB1⟩
  have k0 : Blk w1 w.heap.size tAs #[.slice A1 a.facts.length c1, .slice A2 a.atoms.length c2] := Blk.next blks hB1
  have hB : Below w.heap.size w w1 := bgo (w := w) bel hB1
  clear hB1
  have q0 := k0.cell
  have l0 := k0.lt
  cases hv : a.valid
  · gi_wp2_with fail
    refine ⟨.slice none 0 0, by simp [results, Try.f11, go_sem], _, rfl, ⟨⟨[], ?_⟩, modelsV_tot a⟩, hB⟩
    rw [show modelsV a = [] from by unfold modelsV casesV; rw [hv]; rfl]
    exact S2O.nil _ _
  have HV := Lib.hid hv
  clear hv
  gi_wp2_with fail
  refine ⟨trivial, (callsIn_wide.2 (c_impl_possibleCases A1 A2 c1 c2 a 0 _ (hV.out.below bel) (by decide))).mono ?_⟩
  rintro e w2 ⟨gA, gT, rfl, hA, hT, kA, kT, hB2⟩
  have kR : Blk w2 w1.heap.size 27 #[.slice none 0 0] := Blk.next blks hB2
  have kN : Blk w2 (w1.heap.size + 1) tI #[.int .i64 0] := Blk.next blks hB2
  have k02 : Blk w2 w.heap.size tAs #[.slice A1 a.facts.length c1, .slice A2 a.atoms.length c2] := (k0.next (bel)).next hB2
  have hBB : Below w.heap.size w w2 := bgo (w := w) bel hB2
  have hz := hB2.size
  have hz1 := hB.size
  simp only [World.size_alloc] at hz hA hT
  have hAw := hV.out.below hBB
  have hw01 : w.heap.size < w1.heap.size := l0
  clear hB2 k0 q0 l0 hB
  gi_wp2_with fail
  refine wp_rangeT (gf := 103) (lb := #[.pointer (some ⟨gA, 0, none⟩), .pointer (some ⟨gT, 0, none⟩)]) rfl (enters_of Try.func103 (by kernel_rfl) rfl)
    (c_seq (n₀ := w.heap.size) w2 HV.out (by decide) hAw hhi (by omega) kA kT) (fun h k => h.trans k) (Kept.putl (by omega)) (Below.refl _ _) (fun _ => rfl)
    (fun pre W => ∃ vs A c, S2O W w2.heap.size (.slice A (casesM a (pre.map Subtype.val)).length c) vs (casesM a (pre.map Subtype.val)) ∧ Blk W w1.heap.size 27 #[.slice A (casesM a (pre.map Subtype.val)).length c] ∧ Blk W (w1.heap.size + 1) tI #[.int .i64 (pre.length : Int)] ∧ Blk W w.heap.size tAs #[.slice A1 a.facts.length c1, .slice A2 a.atoms.length c2] ∧ pre.length < 4 ∧ Below w.heap.size w W)
    (fun c pre W => ∃ vs A d, c = .exit 0 ∧ pre.length = 4 ∧ S2O W w2.heap.size (.slice A (casesM a (pre.map Subtype.val)).length d) vs (casesM a (pre.map Subtype.val)) ∧ Blk W w1.heap.size 27 #[.slice A (casesM a (pre.map Subtype.val)).length d] ∧ Below w.heap.size w W)
    (fun s X Y row hs hg hr => by
      obtain ⟨vs, A, c, h1, h2, h3, h4, h5, h6⟩ := hs
      exact ⟨vs, A, c, h1.turn hg hr (by decide) (by decide), h2.turn hg hr (Or.inr (by omega)), h3.turn hg hr (Or.inr (by omega)), h4.turn hg hr (Or.inr (by omega)), h5, Below.turn h6 hg hr (by omega) h6.size⟩)
    (fun c s X Y row hs hg hr => by
      obtain ⟨vs, A, d, e1, e2, h1, h2, h6⟩ := hs
      exact ⟨vs, A, d, e1, e2, h1.turn hg hr (by decide) (by decide), h2.turn hg hr (Or.inr (by omega)), Below.turn h6 hg hr (by omega) h6.size⟩)
    ⟨[], none, 0, S2O.nil _ _, kR, kN, k02, by simp, hBB⟩ ?round ?done ?stop
  case round =>
    rintro l pre x W hl ⟨vs, A, c, hS, kR, kN, k0, hp4, hB⟩ hadm
    have hwz := hB.size
    have lR := kR.lt
    have lN := kN.lt
    clear hadm
    gi_wp2
    refine ⟨(KeepsOthers.alloc _ _).from _, Kept.alloc (by omega) _, fun o o' ho hc => ?_⟩
    have hlW := (Array.getElem?_eq_some_iff.1 ho).1
    rw [World.size_alloc] at hlW
    have kX := (Blk.new W tTc (case9 x.1)).putl o' ho hc
    replace kR := (kR.alloc (.cells (case9 x.1) tTc)).putl o' ho hc
    replace kN := (kN.alloc (.cells (case9 x.1) tTc)).putl o' ho hc
    replace k0 := (k0.alloc (.cells (case9 x.1) tTc)).putl o' ho hc
    have hK0 := Kept.put (T1 := tTc) (T2 := tAs) (n₀ := w.heap.size) o' (by omega) ho hc
    have hB' := (bbox hB (.cells (case9 x.1) tTc)).trans hK0.below
    have hS' : S2O ((W.alloc (.cells (case9 x.1) tTc)).putObj l o') w2.heap.size (.slice A (casesM a (pre.map Subtype.val)).length c) vs (casesM a (pre.map Subtype.val)) := (hS.below bel).turn (T := tTc) (B := l) (grownBy_putObj' _ l o') (fun r e => by cases e; exact ⟨Nat.le_refl _, o, ho, Or.inl hc⟩) (by decide) (by decide)
    clear ho hS hB
    obtain ⟨V, hVe⟩ : ∃ V, V = (W.alloc (.cells (case9 x.1) tTc)).putObj l o' := ⟨_, rfl⟩
    rw [← hVe] at kX kR kN k0 hB' hS' ⊢
    clear hVe hK0
    have hx9 := Lib.hid x.len
    have hmem := Lib.hid x.2
    have HS := Lib.hid hS'
    have HBV := Lib.hid hB'
    have el : (pre ++ [x]).map Subtype.val = pre.map Subtype.val ++ [x.1] := by simp
    have ell : (pre ++ [x]).length = pre.length + 1 := by simp
    have hle := casesM_le a (pre.map Subtype.val)
    simp only [List.length_map] at hle
    have es : casesM a ((pre ++ [x]).map Subtype.val) = casesM a (pre.map Subtype.val) ++ caseM a x.1 4 := by rw [el, casesM_snoc]
    clear el hS' hB'
    obtain ⟨X, hX⟩ : ∃ X, X = x.1 := ⟨_, rfl⟩
    rw [← hX] at kX hx9 hmem es
    obtain ⟨S0, hS0⟩ : ∃ S0, S0 = casesM a (pre.map Subtype.val) := ⟨_, rfl⟩
    rw [← hS0] at kR HS hle es
    obtain ⟨np, hnp⟩ : ∃ np, np = pre.length := ⟨_, rfl⟩
    rw [← hnp] at kN hle hp4 ell
    have ES := Lib.hid es
    have ELL := Lib.hid ell
    clear hX hS0 hnp es ell
    have lX := kX.lt
    gi_wp2_with fail
    gi_loopw [6] (fun m wr => ∃ (k : Nat) (vs : List Value) (A : Option Addr) (d : Nat), k ≤ 4 ∧ m = .int .i64 k ∧ Hid (S2O wr w2.heap.size (.slice A (S0 ++ caseM a X k).length d) vs (S0 ++ caseM a X k)) ∧ Blk wr w1.heap.size 27 #[.slice A (S0 ++ caseM a X k).length d] ∧ Blk wr (w1.heap.size + 1) tI #[.int .i64 (np : Int)] ∧ Blk wr w.heap.size tAs #[.slice A1 a.facts.length c1, .slice A2 a.atoms.length c2] ∧ Blk wr W.heap.size tTc (case9 X) ∧ Hid (KeepsOthers V wr) ∧ Hid (Kept tTc tAs w.heap.size V wr) ∧ Hid (Below w.heap.size w wr)) (fun m _ => 4 - (intOf m).toNat)
    case atStart => exact ⟨0, vs, A, c, Nat.zero_le _, rfl, by show S2O _ _ _ _ _; simpa [caseM] using HS.out, by simpa [caseM] using kR, kN, k0, kX, (KT.of (t := tTc) (Below.refl _ V)).keeps, Kept.refl _, HBV.out⟩
    case round =>
      clear kR kN k0 kX HS HBV
      obtain ⟨k, vs, A, d, hk, rfl, HS, kR, kN, k0, kX, HKO, HKE, HB⟩ := hrel
      have hzr := HB.out.size
      obtain ⟨p0, p1, p2, p3, p4, p5, p6, p7, p8⟩ := case9_cells kX
      have q0 := k0.cell
      have l0 := k0.lt
      have lXr := kX.lt
      have hzr2 : w2.heap.size ≤ wr.heap.size := by omega
      have qR := kR.cell
      have rR := kR.frozen
      have lRr := kR.lt
      have qN := kN.cell
      have rN := kN.frozen
      have lNr := kN.lt
      by_cases hlt : k < 4
      · have hki : (k : Int) < 4 := by omega
        gi_wp2_with fail
        refine ⟨trivial, (CallsIn.inRound l (callsIn_wide.2 (c_impl_variant _ a (caseS a 0) X k true _ (hV.out.below HB.out) HV.out (caseS_zero a 0) (caseS_terms HV.out 0) hmem.out hlt))).mono ?_⟩
        rintro e w3 ⟨r, t, rfl, o3, ht, hB3⟩
        have HT := Lib.hid ht
        have HO := Lib.hid o3
        obtain ⟨fv, av, rfl, n1, n2, -⟩ := o3
        obtain ⟨F, e1, rfl, -⟩ := n1.reads
        obtain ⟨G, e2, rfl, -⟩ := n2.reads
        have hbx : Below wr.heap.size wr (w3.alloc (.cells #[.slice F t.values.length e1, .slice G t.heap.length e2] tSt)) := bbox hB3 _
        have HOx := Lib.hid (HO.out.below (bbox (Below.refl _ _) (.cells #[.slice F t.values.length e1, .slice G t.heap.length e2] tSt)))
        have kSx : Blk (w3.alloc (.cells #[.slice F t.values.length e1, .slice G t.heap.length e2] tSt)) w3.heap.size tSt #[.slice F t.values.length e1, .slice G t.heap.length e2] := Blk.new _ _ _
        have kRx := kR.next hbx
        have kNx := kN.next hbx
        have k0x := k0.next hbx
        have kXx := kX.next hbx
        have HBx := Lib.hid (bgo HB.out hbx)
        have HSx := Lib.hid (HS.out.below hbx)
        have HKx := Lib.hid (HKO.out.trans (KT.of (t := tSt) hbx).keeps)
        have HEx := Lib.hid (HKE.out.trans (Kept.next hbx hzr))
        have HW := Lib.hid hbx
        have z3 := hB3.size
        clear HO n1 n2 hB3 ht hbx q0 l0 qR rR lRr qN rN lNr p0 p1 p2 p3 p4 p5 p6 p7 p8
        have HSUC := Lib.hid (caseM_succ a X k)
        cases hok : (varF a X k true).isSome
        · have HN : Hid (caseM a X (k + 1) = caseM a X k) := Lib.hid (by rw [HSUC.out, pick_no hok, List.append_nil])
          clear hok HT HSUC HOx
          gi_wp2_with fail
          refine ⟨trivial, ?_⟩
          gi_wp2_with fail
          go_round
          case rel => exact ⟨k + 1, vs, A, d, by omega, by go_num, by rw [HN.out]; exact HSx.out, by rw [HN.out]; exact kRx, kNx, k0x, kXx, HKx.out, HEx.out, HBx.out⟩
          case measure => simp [intOf]; omega
        have HT2 := Lib.hid (pick_yes (HT.out hok))
        clear hok HT
        have q0 := k0x.cell
        have l0 := k0x.lt
        have qS := kSx.cell
        have lS := kSx.lt
        gi_wp2_with fail
        refine ⟨trivial, (CallsIn.inRound l (callsIn_wide.2 (c_impl_Holds _ _ t a _ HOx.out.reads (hV.out.below HBx.out)))).mono ?_⟩
        rintro e w4 ⟨rfl, hB4⟩
        have HO4 := Lib.hid (HOx.out.below hB4)
        have kS4 := kSx.next hB4
        have kR4 := kRx.next hB4
        have kN4 := kNx.next hB4
        have k04 := k0x.next hB4
        have kX4 := kXx.next hB4
        have HB4 := Lib.hid (bgo HBx.out hB4)
        have HW4 := Lib.hid (bgo HW.out hB4)
        have HS4 := Lib.hid (HSx.out.below hB4)
        have HK4 := Lib.hid (HKx.out.trans (KT.of (t := tSt) hB4).keeps)
        have HE4 := Lib.hid (HEx.out.trans (Kept.next hB4 (by have := HBx.out.size; omega)))
        have z4 := hB4.size
        clear hB4 HOx kSx kRx kNx k0x kXx HBx HW HSx HKx HEx q0 l0 qS lS
        cases hh : holdsF t a
        · have HN : Hid (caseM a X (k + 1) = caseM a X k) := Lib.hid (by rw [HSUC.out, HT2.out, hh]; simp)
          clear hh HT2 HSUC HO4
          gi_wp2_with fail
          go_round
          case rel => exact ⟨k + 1, vs, A, d, by omega, by go_num, by rw [HN.out]; exact HS4.out, by rw [HN.out]; exact kR4, kN4, k04, kX4, HK4.out, HE4.out, HB4.out⟩
          case measure => simp [intOf]; omega
        have HN : Hid (caseM a X (k + 1) = caseM a X k ++ [t]) := Lib.hid (by rw [HSUC.out, HT2.out, hh, if_pos rfl])
        clear hh HT2 HSUC
        have qR := kR4.cell
        have rR := kR4.frozen
        have lR4 := kR4.lt
        have qS := kS4.cell
        have lS := kS4.lt
        have hw4 : w.heap.size ≤ w4.heap.size := HB4.out.size
        have hlen : (S0 ++ caseM a X k).length + 1 ≤ 1049600 := by have := caseM_le a X k; rw [List.length_append]; omega
        obtain ⟨SK, hSK⟩ : ∃ SK, SK = S0 ++ caseM a X k := ⟨_, rfl⟩
        have HN2 : Hid (S0 ++ caseM a X (k + 1) = SK ++ [t]) := Lib.hid (by rw [HN.out, hSK, List.append_assoc])
        rw [← hSK] at kR4 HS4 qR hlen HS
        clear hSK HN
        gi_wp2_with (gi_at_builtin; refine wpListIn_of (fun h => by obtain ⟨_, _, h⟩ := h; exact h) rfl rfl (wp_appS2 (w0 := wr) (base := w2.heap.size) _ _ rfl rfl HS.out (bbox HW4.out _) hzr2 (StateO.below HO4.out (bbox (Below.refl _ _) _)) (Blk.new w4 tSt _) rfl hlen ?_) (fun _ _ h => h); intro A' c' w6 hS6 hg6 hB6; have hrow := own_below HS4.out.row (bbox (Below.refl _ w4) (.cells #[.slice F t.values.length e1, .slice G t.heap.length e2] tSt)); have kR6 := (KT.app hrow hg6).blk (kR4.alloc _) (by decide); have kN6 := (KT.app hrow hg6).blk (kN4.alloc _) (by decide); have k06 := (KT.app hrow hg6).blk (k04.alloc _) (by decide); have kX6 := (KT.app hrow hg6).blk (kX4.alloc _) (by decide); have hKT := KT.trans (KT.of (t := tSt) (bbox (Below.refl _ w4) (.cells #[.slice F t.values.length e1, .slice G t.heap.length e2] tSt))) (KT.app hrow hg6); have HK6 := Lib.hid (HK4.out.trans hKT.keeps); have hB46 : Below w.heap.size w4 w6 := ((Below.refl w.heap.size w4).alloc hw4 _).trans (hB6.mono (by omega)); have HE6 := Lib.hid (HE4.out.trans (hKT.kept hB46 (by decide) (by decide))); have HB6 := Lib.hid (HB4.out.trans hB46); have HS6 := Lib.hid hS6; clear hg6 hB6 hKT hrow hB46 hS6; have qR6 := kR6.cell; have rR6 := kR6.frozen; have lR6 := kR6.lt)
        have hS7 : S2O (w6.setCell ⟨w1.heap.size, 0, none⟩ (.slice A' (SK.length + 1) c')) w2.heap.size (.slice A' (SK ++ [t]).length c') (vs ++ [.slice F t.values.length e1, .slice G t.heap.length e2]) (SK ++ [t]) := by
          have := HS6.out.setT kR6 (by decide) (by decide) 0 (.slice A' (SK.length + 1) c')
          simpa using this
        have kR7 : Blk (w6.setCell ⟨w1.heap.size, 0, none⟩ (.slice A' (SK.length + 1) c')) w1.heap.size 27 #[.slice A' (SK ++ [t]).length c'] := by
          have := kR6.set_ 0 (.slice A' (SK.length + 1) c')
          simpa using this
        go_round
        case rel => exact ⟨k + 1, _, A', c', by omega, by go_num, by rw [HN2.out]; exact hS7, by rw [HN2.out]; exact kR7, kN6.far (p := ⟨w1.heap.size, 0, none⟩) (by simp) _, k06.far (p := ⟨w1.heap.size, 0, none⟩) (by simp only; omega) _, kX6.far (p := ⟨w1.heap.size, 0, none⟩) (by simp only; omega) _, HK6.out.trans (KeepsOthers.setCell _ _ _), HE6.out.trans (Kept.set kR6 (by omega) (by decide) (by decide) 0 _), HB6.out.setCell (p := ⟨w1.heap.size, 0, none⟩) (by simp only; omega) _⟩
        case measure => simp [intOf]; omega
      · obtain rfl : k = 4 := by omega
        have zR := kR.far (p := ⟨w1.heap.size + 1, 0, none⟩) (by simp) (.int .i64 ((np : Int) + 1))
        have zN : Blk (wr.setCell ⟨w1.heap.size + 1, 0, none⟩ (.int .i64 ((np : Int) + 1))) (w1.heap.size + 1) tI #[.int .i64 (((np + 1 : Nat)) : Int)] := by
          have := kN.set_ 0 (.int .i64 ((np : Int) + 1))
          simpa using this
        have z0 := k0.far (p := ⟨w1.heap.size + 1, 0, none⟩) (by simp only; omega) (.int .i64 ((np : Int) + 1))
        have zS := HS.out.setb (p := ⟨w1.heap.size + 1, 0, none⟩) (by simp only; omega) (.int .i64 ((np : Int) + 1))
        have zK := (HKO.out.trans (KeepsOthers.setCell wr ⟨w1.heap.size + 1, 0, none⟩ (.int .i64 ((np : Int) + 1))))
        have zE := (HKE.out.trans (Kept.set kN (by omega) (by decide) (by decide) 0 (.int .i64 ((np : Int) + 1))))
        have zB := HB.out.setCell (p := ⟨w1.heap.size + 1, 0, none⟩) (by simp only; omega) (.int .i64 ((np : Int) + 1))
        have hnp4 : (np : Int) < 4 := by omega
        clear p0 p1 p2 p3 p4 p5 p6 p7 p8 q0 qR rR
        by_cases h3 : np = 3
        · subst h3
          gi_wp2_with fail
          refine ⟨zK.from _, vs, A, d, rfl, by rw [ELL.out], ?_, ?_, zB⟩
          · rw [ES.out]; exact zS
          · rw [ES.out]; exact zR
        · have hb : ((np : Int) + 1 == 4) = false := by simp; omega
          gi_wp2_with fail
          refine ⟨zK.from _, zE, vs, A, d, ?_, ?_, ?_, z0, by rw [ELL.out]; omega, zB⟩
          · rw [ES.out]; exact zS
          · rw [ES.out]; exact zR
          · rw [ELL.out]; exact zN
  case done =>
    rintro D ys W hD hYS ⟨vs, A, c, hS, kR, kN, k0, hp4, hB⟩ hK
    have em : modelsV a = casesM a (ys.map Subtype.val) := by
      have e1 : casesV a = ys.map Subtype.val := by rw [hYS]; unfold casesV; rw [if_pos HV.out]
      unfold modelsV
      rw [e1, List.take_of_length_le (by rw [List.length_map]; omega)]
    obtain ⟨Z, hZ⟩ : ∃ Z, Z = casesM a (ys.map Subtype.val) := ⟨_, rfl⟩
    rw [← hZ] at em hS kR
    have EM := Lib.hid em
    clear hZ em hYS
    have qR := kR.cell
    have lR := kR.lt
    gi_wp2
    refine ⟨by simp, .inl ⟨_, _, rfl, run_takeDeferred hK, ?_⟩⟩
    refine ⟨.slice A Z.length c, by simp [results, Try.f11, go_sem], _, rfl, ⟨⟨vs, ?_⟩, modelsV_tot a⟩, hB.trans (belowK_b (w := w) (Nat.le_refl _) W D _ _ (by omega) hK rfl rfl)⟩
    rw [EM.out]
    exact (hS.turn (T := tTc) (B := D) (grownBy_putObj' _ D _) (fun r e => by cases e; exact ⟨Nat.le_refl _, _, hK, Or.inl rfl⟩) (by decide) (by decide)).lower (by omega)
  case stop =>
    rintro D c pre W hD hPre ⟨vs, A, d, rfl, hp4, hS, kR, hB⟩ hK
    have em : modelsV a = casesM a (pre.map Subtype.val) := by
      have e1 : casesV a = cases a (caseS a 0) := by unfold casesV; rw [if_pos HV.out]
      unfold modelsV
      rw [e1]
      congr 1
      have h1 := List.prefix_iff_eq_take.1 hPre
      rw [List.length_map, hp4] at h1
      exact h1.symm
    obtain ⟨Z, hZ⟩ : ∃ Z, Z = casesM a (pre.map Subtype.val) := ⟨_, rfl⟩
    rw [← hZ] at em hS kR
    have EM := Lib.hid em
    clear hZ em hPre
    have qR := kR.cell
    have lR := kR.lt
    gi_wp2
    refine ⟨by simp, .inl ⟨_, _, rfl, run_takeDeferred hK, ?_⟩⟩
    refine ⟨.slice A Z.length d, by simp [results, Try.f11, go_sem], _, rfl, ⟨⟨vs, ?_⟩, modelsV_tot a⟩, hB.trans (belowK_b (w := w) (Nat.le_refl _) W D _ _ (by omega) hK rfl rfl)⟩
    rw [EM.out]
    exact (hS.turn (T := tTc) (B := D) (grownBy_putObj' _ D _) (fun r e => by cases e; exact ⟨Nat.le_refl _, _, hK, Or.inl rfl⟩) (by decide) (by decide)).lower (by omega)
--@
end Go.Proofs.Yteogcababfenfaa
