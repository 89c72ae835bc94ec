/- Programs: what impl gathers over all commands. -/
import Derived.Test.YtciabhddppdioaaGreatMVisP
import Derived.Test.YtciabhddppdioaaGreatCmdJ
import Derived.Test.YtciabhddppdioaaGreatMCmd
set_option linter.unusedSimpArgs false
set_option linter.unusedVariables false
namespace Go.Proofs.YtciabhddppdioaaGreat
open Go Go.RowKit Go.Proofs

abbrev tTS2 : Nat := 54
--@ impl.changedIn$1
set_option maxRecDepth 100000 in
set_option maxHeartbeats 1600000 in
theorem c_chClo (S g : Nat) (hS : S < 512) (k a b : Int) (t : Fct) (i : Asn) (A1 A2 A3 A4 : Option Addr) (c1 c2 c3 c4 : Nat) (body els : Cms) (w : World) (hK : Blk w g tTS2 #[.int .u16 (S : Nat)]) :
    Calls Tryz.prog 42 #[.agg #[.int .i64 k, .int .i64 a, .int .i64 b, .bool t.eq, .int .i64 t.a, .int .i64 t.b, .slice A1 i.facts.length c1, .slice A2 i.atoms.length c2, .slice A3 body.len c3, .slice A4 els.len c4], .pointer (some ⟨g, 0, none⟩)] w fun e w' => (∃ v, e = .returned v) ∧ Blk w' g tTS2 #[.int .u16 (chF S k a b t i : Nat)] ∧ Mk (fun x => x = g) w w' := by
  have hg := hK.lt
  have q0 := hK.cell 0
  have r0 := hK.frozen 0
  by_cases hk : k = 1 ∨ k = 2 ∨ k = 4
  · have HE := Lib.hid (show chF S k a b t i = tins S a from if_pos hk)
    replace hK := Lib.hid hK
    have hgne : g ≠ w.heap.size := by omega
    rcases hk with rfl | rfl | rfl
    all_goals
      go_enter Tryz.func42, Tryz.ntmps42
      go_wp2_with fail
      refine (c_impl_with S a _ hS).mono ?_
      rintro e w' ⟨rfl, rfl⟩
      go_wp2_with fail
      go_end0
      refine ⟨⟨_, rfl⟩, ?_, (((Mk.refl (fun x => x = g) _).set (x := ⟨g, 0, none⟩) rfl _).trans (Mk.below_ (bbox (Below.refl _ _) _)))⟩
      rw [HE.out]
      exact (hK.out.set_ 0 _).alloc _
  · have HE := Lib.hid (show chF S k a b t i = S from if_neg hk)
    replace hK := Lib.hid hK
    have k1 : (k == 1) = false := beq_false_of_ne fun e => hk (.inl e)
    have k2 : (k == 2) = false := beq_false_of_ne fun e => hk (.inr (.inl e))
    have k4 : (k == 4) = false := beq_false_of_ne fun e => hk (.inr (.inr e))
    clear hk
    go_enter Tryz.func42, Tryz.ntmps42
    go_wp2_with fail
    go_end0
    refine ⟨⟨_, rfl⟩, ?_, Mk.below_ (bbox (Below.refl _ _) _)⟩
    rw [HE.out]
    exact hK.out.alloc _
--@ impl.logicalIn$1
--@ impl.visitCommands
set_option maxRecDepth 100000 in
set_option maxHeartbeats 3200000 in
theorem visitCh_go : ∀ (N : Nat) (L : Cms), L.sz < N → ∀ (A : Option Addr) (c lo hi gS S : Nat) (w : World), CmsV w lo hi A L → L.len ≤ 1049600 → L.small 1049600 → hi ≤ gS → S < 512 → Blk w gS tTS2 #[.int .u16 (S : Nat)] →
    Calls Tryz.prog 41 #[.slice A L.len c, .func (.func 42) #[] #[.pointer (some ⟨gS, 0, none⟩)]] w fun e w' => (∃ v, e = .returned v) ∧ Blk w' gS tTS2 #[.int .u16 (L.fold chF S : Nat)] ∧ Mk (fun x => x = gS) w w' := by
  intro N
  induction N with
  | zero => intro L h; omega
  | succ N IH =>
    intro L hsz A c lo hi gS S w hV hlen hsm hgS hS hK
    replace IH := Lib.hid IH
    replace hsm := Lib.hid hsm
    replace hsz := Lib.hid hsz
    obtain ⟨n, hn⟩ : ∃ n, n = L.len := ⟨_, rfl⟩
    rw [← hn]
    rw [← hn] at hlen
    replace hn := Lib.hid hn
    have hgl := hK.lt
    replace hV := Lib.hid hV
    go_enter Tryz.func41, Tryz.ntmps41
    go_wp2_with fail
    go_loopw [8] (fun x wr => ∃ (j S1 : Nat), j ≤ n ∧ x = .int .i64 j ∧ S1 < 512 ∧ Hid (L.fold chF S = (L.drop j).fold chF S1) ∧ Blk wr gS tTS2 #[.int .u16 (S1 : Nat)] ∧ Mk (fun x => x = gS) w wr) (fun x _ => n - (intOf x).toNat)
    case atStart => exact ⟨0, S, Nat.zero_le _, rfl, hS, Lib.hid rfl, hK, Mk.refl _ _⟩
    case round =>
      clear hK
      obtain ⟨j, S1, hj, rfl, hS1, HR, kS, hM⟩ := hrel
      by_cases hlt : j < n
      · have hpos : 0 < (L.drop j).len := by rw [Cms.drop_len, ← hn.out]; omega
        obtain ⟨k, a, b, t, i, body, els, r, eL⟩ := Cms.cons_of_len hpos
        obtain ⟨bl, o, rfl, -, -, hAt⟩ := (hV.out.mk1 hM hgS hgl) (by rw [← hn.out]; omega)
        have hD := hAt.drop j
        have hS := Cms.small_drop j hsm.out
        have hZ := Cms.sz_drop j L
        have hDs := Cms.drop_succ j L eL
        have HR' := HR.out
        rw [eL] at hD hS hZ HR'
        obtain ⟨⟨p0, p1, p2, p3, p4, p5⟩, ⟨A6, c6, p6, g6⟩, ⟨A7, c7, p7, g7⟩, ⟨A8, c8, p8, g8⟩, ⟨A9, c9, p9, g9⟩, -⟩ := hD
        obtain ⟨s1, s2, s3, s4, s5, s6, -⟩ := hS
        simp only [Cms.sz] at hZ
        have hbs : body.sz < N := by have := hsz.out; omega
        have hes : els.sz < N := by have := hsz.out; omega
        have gA : Hid (AsnV wr lo hi (.agg #[.slice A6 i.facts.length c6, .slice A7 i.atoms.length c7]) i) := ⟨_, _, _, _, rfl, ⟨g6, s1⟩, ⟨g7, s2⟩⟩
        have gB : Hid (CmsV wr lo hi A8 body) := g8
        have gE : Hid (CmsV wr lo hi A9 els) := g9
        rw [Cms.fold, ← hDs] at HR'
        obtain ⟨S2, hS2⟩ : ∃ x, x = chF S1 k a b t i := ⟨_, rfl⟩
        have l2 : S2 < 512 := by rw [hS2]; exact chF_lt hS1 k a b t i
        obtain ⟨S3, hS3⟩ : ∃ x, x = body.fold chF S2 := ⟨_, rfl⟩
        have l3 : S3 < 512 := by rw [hS3]; exact Cms.fold_lt (fun S k a b t i h => chF_lt h k a b t i) body l2
        obtain ⟨S4, hS4⟩ : ∃ x, x = els.fold chF S3 := ⟨_, rfl⟩
        have l4 : S4 < 512 := by rw [hS4]; exact Cms.fold_lt (fun S k a b t i h => chF_lt h k a b t i) els l3
        rw [← hS2, ← hS3, ← hS4] at HR'
        replace HR' := Lib.hid HR'
        replace hS2 := Lib.hid hS2
        replace hS3 := Lib.hid hS3
        replace hS4 := Lib.hid hS4
        replace hbs := Lib.hid hbs
        replace hes := Lib.hid hes
        replace s5 := Lib.hid s5
        replace s6 := Lib.hid s6
        have hgl1 := kS.lt
        have hsne : wr.heap.size ≠ gS := by omega
        clear hZ hpos hAt g6 g7 g8 g9 HR hDs eL
        go_wp2_with fail
        refine (c_chClo S1 gS hS1 k a b t i A6 A7 A8 A9 c6 c7 c8 c9 body els _ (kS.alloc _)).mono ?_
        rintro e w1 ⟨⟨v1, rfl⟩, kS1, hM1⟩
        rw [← hS2.out] at kS1
        have hW : Mk (fun x => x = gS) wr w1 := (Mk.below_ (bbox (Below.refl _ _) _)).trans hM1
        have k0 : Blk w1 wr.heap.size tC #[.int .i64 k, .int .i64 a, .int .i64 b, .bool t.eq, .int .i64 t.a, .int .i64 t.b, .slice A6 i.facts.length c6, .slice A7 i.atoms.length c7, .slice A8 body.len c8, .slice A9 els.len c9] := hM1.blk (Blk.new _ _ _) hsne
        have q0 := k0.cell
        have l0 := k0.lt
        clear hM1 kS gA p0 p1 p2 p3 p4 p5 p6 p7 p8 p9
        go_wp2_with fail
        refine (IH.out body hbs.out A8 c8 lo hi gS S2 w1 (gB.out.mk1 hW hgS hgl1) s3 s5.out hgS l2 kS1).mono ?_
        rintro e w2 ⟨⟨v2, rfl⟩, kS2, hM2⟩
        rw [← hS3.out] at kS2
        replace hW := hW.trans hM2
        replace k0 := hM2.blk k0 hsne
        replace q0 := k0.cell
        replace l0 := k0.lt
        clear hM2 kS1
        go_wp2_with fail
        refine (IH.out els hes.out A9 c9 lo hi gS S3 w2 (gE.out.mk1 hW hgS hgl1) s4 s6.out hgS l3 kS2).mono ?_
        rintro e w3 ⟨⟨v3, rfl⟩, kS3, hM3⟩
        rw [← hS4.out] at kS3
        replace hW := hW.trans hM3
        clear hM3 kS2 k0 q0 l0
        go_wp2_with fail
        go_round
        case rel => exact ⟨j + 1, S4, by omega, by go_num, l4, HR', kS3, hM.trans hW⟩
        case measure => simp [intOf]; omega
      · go_wp2_with fail
        go_end0
        obtain rfl : j = n := by omega
        have e1 : L.drop j = .nil := by rw [hn.out]; exact Cms.drop_all L
        have h2 := HR.out
        rw [e1] at h2
        exact ⟨⟨_, rfl⟩, by rw [h2]; exact kS, hM⟩
--@ impl.visitCommands
--@ impl.changedIn
set_option maxHeartbeats 1600000 in
theorem c_impl_changedIn {lo hi : Nat} (L : Cms) (A : Option Addr) (c : Nat) (w : World) (hV : CmsV w lo hi A L) (hhi : hi ≤ w.heap.size) (hlen : L.len ≤ 1049600) (hsm : L.small 1049600) :
    Calls Tryz.prog 23 #[.slice A L.len c] w fun e w' => e = .returned (.int .u16 (L.fold chF 0 : Nat)) ∧ Below w.heap.size w w' := by
  replace hV := Lib.hid hV
  replace hsm := Lib.hid hsm
  go_enter Tryz.func23, Tryz.ntmps23
  go_wp2_with fail
  refine (visitCh_go _ L (Nat.lt_succ_self _) A c lo hi w.heap.size 0 _ (hV.out.below bel) hlen hsm.out hhi (by decide) (Blk.new _ _ _)).mono ?_
  rintro e w1 ⟨⟨v1, rfl⟩, kS, hM⟩
  have hB : Below w.heap.size w w1 := Below.trans (bbox (Below.refl _ _) _) (hM.below (fun k hk => by omega) (by simp))
  have q0 := kS.cell 0
  have l0 := kS.lt
  clear hM
  go_wp2_with fail
  go_ret
  exact ⟨rfl, hB⟩
--@ impl.logicalIn
--@ impl.ChangedTerms
set_option maxHeartbeats 1600000 in
theorem c_impl_ChangedTerms {lo hi : Nat} (L : Cms) (A : Option Addr) (c : Nat) (w : World) (hV : CmsV w lo hi A L) (hhi : hi ≤ w.heap.size) (hlen : L.len ≤ 1049600) (hsm : L.small 1049600) :
    Calls Tryz.prog 8 #[.slice A L.len c] w fun e w' => ∃ r, e = .returned r ∧ IntsO w' w.heap.size r (changedL L) ∧ Below w.heap.size w w' := by
  replace hV := Lib.hid hV
  replace hsm := Lib.hid hsm
  go_enter Tryz.func8, Tryz.ntmps8
  go_wp2_with fail
  refine (c_impl_ProgramValid L A c _ hV.out hlen hsm.out).mono ?_
  rintro e w1 ⟨rfl, hB1⟩
  cases hp : L.prog
  · have HE := Lib.hid (show changedL L = [] by unfold changedL; rw [hp]; rfl)
    clear hp
    go_wp2_with fail
    go_ret
    exact ⟨_, rfl, by rw [HE.out]; exact IntsO.nil _ _, hB1⟩
  have HE := Lib.hid (show changedL L = tlistL (L.fold chF 0) 9 by unfold changedL; rw [if_pos hp])
  clear hp
  have hz := hB1.size
  go_wp2_with fail
  refine (c_impl_changedIn L A c _ (hV.out.below hB1) (by omega) hlen hsm.out).mono ?_
  rintro e w2 ⟨rfl, hB2⟩
  have hB := bgo hB1 hB2
  have hz2 := hB2.size
  go_wp2_with fail
  refine (c_impl_termList _ _ (Cms.fold_lt (fun S k a b t i h => chF_lt h k a b t i) L (by decide))).mono ?_
  rintro e w3 ⟨r, rfl, o, hB3⟩
  go_wp2_with fail
  go_ret
  refine ⟨_, rfl, ?_, bgo hB hB3⟩
  rw [HE.out]
  exact o.lower (by omega)
--@ impl.LogicalTerms
--@
end Go.Proofs.YtciabhddppdioaaGreat
