/- What the reader draws: the arguments of KeepCells. -/
import Derived.Test.YteogcababfenfaaGreatDrawE
import Derived.Test.YteogcababfenfaaGreatMDrawV
import Derived.Test.YteogcababfenfaaGreatUsedS
set_option linter.unusedSimpArgs false
set_option linter.unusedVariables false
namespace Go.Proofs.YteogcababfenfaaGreat
open Go Go.RowKit Go.Proofs
attribute [local go_sem ↓] Go.wp_at_zero Go.wp_at_succ
--@ spec.UsedCells
set_option maxRecDepth 100000 in
set_option maxHeartbeats 1600000 in
theorem c_spec_UsedAny {lo hi : Nat} (v : Value) (s : Ste) (w : World) (h : StateV w lo hi v s) : Calls Tryz.prog 30 #[v] w fun e w' => ∃ r xs, e = .returned r ∧ IntsO w' w.heap.size r xs ∧ xs.length ≤ 8 ∧ Below w.heap.size w w' := by
  cases hs : s.valid
  · have hV := Lib.hid h
    obtain ⟨A1, c1, A2, c2, rfl, -, -⟩ := h
    have HS := Lib.hid hs
    clear hs
    go_enter Tryz.func30, Tryz.ntmps30
    have k0 : Blk ((w.alloc (.cells #[.slice A1 s.values.length c1, .slice A2 s.heap.length c2] tSt)).alloc (.cells #[] tI)) w.heap.size tSt #[.slice A1 s.values.length c1, .slice A2 s.heap.length c2] := blks
    have hB : Below w.heap.size w ((w.alloc (.cells #[.slice A1 s.values.length c1, .slice A2 s.heap.length c2] tSt)).alloc (.cells #[] tI)) := bel
    have hO : IntsO ((w.alloc (.cells #[.slice A1 s.values.length c1, .slice A2 s.heap.length c2] tSt)).alloc (.cells #[] tI)) w.heap.size (.slice (some ⟨w.heap.size + 1, 0, none⟩) 0 0) [] := (IntsO.empty _ (by simp)).lower (Nat.le_succ _)
    go_wp2_with fail
    go_loopw [3, 4] (fun u i wr => i = .int .i64 1 ∧ u = .slice (some ⟨w.heap.size + 1, 0, none⟩) 0 0 ∧ IntsO wr w.heap.size (.slice (some ⟨w.heap.size + 1, 0, none⟩) 0 0) [] ∧ Blk wr w.heap.size tSt #[.slice A1 s.values.length c1, .slice A2 s.heap.length c2] ∧ Hid (Below w.heap.size w wr)) (fun _ i _ => 0)
    case atStart => exact ⟨rfl, rfl, hO, k0, hB⟩
    case round =>
      clear k0 hB hO
      obtain ⟨rfl, rfl, hO, k0, HB⟩ := hrel
      have HO := Lib.hid hO
      clear hO
      (replace qk0 := k0.cell; replace rk0 := k0.frozen; replace lk0 := k0.lt)
      go_wp2_with fail
      refine (c_spec_StateValid _ s _ (hV.out.below HB.out)).mono ?_
      rintro e w2 ⟨rfl, hB2⟩
      rw [HS.out]
      have hB3 : Hid (Below w.heap.size w w2) := bgo HB.out hB2
      have HO2 := Lib.hid (HO.out.below hB2)
      clear hB2 HO
      go_wp2_with fail
      go_ret
      exact ⟨_, [], rfl, HO2.out, by simp, hB3.out⟩
  · refine (c_spec_UsedCells v s w h hs).mono ?_
    rintro e w' ⟨r, rfl, o, hB⟩
    exact ⟨r, _, rfl, o, usedL_le _ _, hB⟩
--@ spec.l2Place
set_option maxRecDepth 100000 in
theorem c_l2Place (g p : Nat) (w : World) (h : Rdr w g p) (hp : p ≤ 1000000) :
    Calls Tryz.prog 44 #[.pointer (some ⟨g, 0, none⟩)] w fun e w' => ∃ m : Int, e = .returned (.int .i64 m) ∧ Rdr w' g (p + 1) ∧ Fr g w w' := by
  have H := Lib.hid h
  have hlt := h.lt
  clear h
  go_enter Tryz.func44, Tryz.ntmps44
  go_wp2_with fail
  refine (c_numL g p [1, 2, 3, 4, 0, 5, 8, 9, -1] _ _ _ _ (H.out.below bel) hp blks (by rfl) hlt (by rfl) (by decide) (by decide)).mono ?_
  rintro e w1 ⟨m, hm, rfl, hR, hF⟩
  have HRF := Lib.hid (And.intro hR (((Fr.refl g w).alloc _).trans hF))
  clear hm hR hF
  go_wp2_with fail
  go_ret
  exact ⟨m, rfl, HRF.out.1, HRF.out.2⟩
--@ spec.DrawKeepCells
set_option maxRecDepth 100000 in
set_option maxHeartbeats 6400000 in
theorem c_DrawKeep (A : Option Addr) (n c : Nat) (w : World) (h : BytesR w A n c) :
    Calls Tryz.prog 15 #[.slice A n c] w fun e w' => ∃ V c1 l1 H c2 l2 r2 xs, e = .returned (.tuple #[.agg #[.slice V l1 c1, .slice H l2 c2], r2]) ∧ IntsO w' w.heap.size r2 xs ∧ Below w.heap.size w w' := by
  have HR0 : Hid (BytesR (w.alloc (.cells #[.slice none 0 0, .slice none 0 0] tSt)) A n c) := by
    obtain ⟨bs, h1, h2, h3⟩ := h
    exact ⟨bs, h1, (h2.below (bbox (Below.refl _ _) _)).mono (Nat.le_refl _) (by simp), h3⟩
  clear h
  go_enter Tryz.func15, Tryz.ntmps15
  have k0 : Blk (w.alloc (.cells #[.slice none 0 0, .slice none 0 0] tSt)) w.heap.size tSt #[.slice none 0 0, .slice none 0 0] := blks
  have hB0 : Below w.heap.size w (w.alloc (.cells #[.slice none 0 0, .slice none 0 0] tSt)) := bbox (Below.refl _ _) _
  have hs0 : w.heap.size + 1 ≤ (w.alloc (.cells #[.slice none 0 0, .slice none 0 0] tSt)).heap.size := by simp
  go_wp2_with fail
  generalize w.alloc (.cells #[.slice none 0 0, .slice none 0 0] tSt) = W0 at k0 hB0 hs0 HR0 ⊢
  refine (c_l18Open A n c _ HR0.out).mono ?_
  rintro e w1 ⟨g, rfl, hg, hR, hB1⟩
  replace k0 := k0.next hB1
  have HB1 := Lib.hid (bgo hB0 hB1)
  have HR1 := Lib.hid hR
  have lg := hR.lt
  have z1 : w.heap.size + 1 ≤ w1.heap.size := Nat.le_trans hs0 hB1.size
  have hgw : w.heap.size < g := by omega
  clear hR hB1 HR0 hB0
  go_wp2_with fail
  refine (c_l2Draw g 0 _ HR1.out (by omega)).mono ?_
  rintro e w2 ⟨r2, s2, q2, rfl, o2, hsv, hR, hq2, hF⟩
  have k2 := Lib.hid (k0.fr hF (by omega))
  have HB2 : Hid (Below w.heap.size w w2) := Lib.hid (HB1.out.trans (hF.below (by omega) (by omega)))
  have HR2 := Lib.hid hR
  have HO2 := Lib.hid o2
  have z2 := hF.size
  have hl8 := Ste.valid_len hsv
  clear hR hF o2 k0 HR1 hsv
  go_wp2_with fail
  refine (c_l2Mutate g q2 _ s2 _ HR2.out (by omega) HO2.out.reads (by omega) (by omega)).mono ?_
  rintro e w3 ⟨r3, s3, q3, rfl, o3, hl3, hl3b, hR, hq3, hF⟩
  have k3 := k2.out.fr hF (by omega)
  have HB3 : Hid (Below w.heap.size w w3) := Lib.hid (HB2.out.trans (hF.below (by omega) (by omega)))
  have HR3 := Lib.hid hR
  have z3 := hF.size
  have hrd := Lib.hid o3.reads
  obtain ⟨fv, av, rfl, o31, o32, dj⟩ := o3
  obtain ⟨V3, c3, rfl, -⟩ := o31.reads
  obtain ⟨H3, d3, rfl, -⟩ := o32.reads
  clear hR hF k2 HR2 HO2 o31 o32 dj hl8
  have kx : Blk (w3.alloc (.cells #[.slice V3 s3.values.length c3, .slice H3 s3.heap.length d3] tSt)) w3.heap.size tSt #[.slice V3 s3.values.length c3, .slice H3 s3.heap.length d3] := Blk.new _ _ _
  go_wp2_with fail
  refine (c_spec_UsedAny _ s3 _ (hrd.out.below bel)).mono ?_
  rintro e w4 ⟨r4, us, rfl, o4, hu8, hB4⟩
  obtain ⟨U, u, rfl, hU⟩ := o4.reads
  have z4 := hB4.size
  simp only [World.size_alloc] at z4
  have hbx : Below w3.heap.size w3 w4 := bgo (w := w3) bel hB4
  have kx4 := kx.next hB4
  have k4 := k3.next hbx
  have HB4 := Lib.hid (bgo HB3.out hbx)
  have HR4 := Lib.hid (HR3.out.below hbx)
  rw [World.size_alloc] at hU
  have HU4 := Lib.hid hU
  have HG3 : g < w3.heap.size := by omega
  clear hB4 hbx o4 hU kx k3 HB3 HR3 hrd
  have k7 := k4.alloc (.cells #[] tI)
  have kx7 := kx4.alloc (.cells #[] tI)
  have HR7 := Lib.hid (HR4.out.below (w' := w4.alloc (.cells #[] tI)) bel)
  have HB7 : Hid (Below w.heap.size w (w4.alloc (.cells #[] tI))) := Lib.hid (HB4.out.alloc (by omega) _)
  have HU7 := Lib.hid (HU4.out.below (w' := w4.alloc (.cells #[] tI)) bel)
  have HO7 : Hid (IntsO (w4.alloc (.cells #[] tI)) (w4.heap.size) (.slice (some ⟨w4.heap.size, 0, none⟩) 0 0) []) := Lib.hid (IntsO.empty _ rfl)
  have hz7 : w4.heap.size + 1 = (w4.alloc (.cells #[] tI)).heap.size := by simp
  clear k4 kx4 HR4 HB4 HU4
  go_wp2_with fail
  generalize w4.alloc (.cells #[] tI) = W7 at k7 kx7 HR7 HB7 HU7 HO7 hz7 ⊢
  go_loopw [7, 8] (fun o i wr => ∃ (k : Nat) (A : Option Addr) (c : Nat) (xs : List Int), k ≤ us.length ∧ xs.length ≤ k ∧ i = .int .i64 (k : Int) ∧ o = .slice A xs.length c ∧ Hid (IntsO wr w4.heap.size (.slice A xs.length c) xs) ∧ Hid (Rdr wr g (q3 + k)) ∧ Blk wr w.heap.size tSt #[.slice none 0 0, .slice none 0 0] ∧ Blk wr w3.heap.size tSt #[.slice V3 s3.values.length c3, .slice H3 s3.heap.length d3] ∧ Hid (IntsV wr (w3.heap.size + 1) w4.heap.size U us) ∧ Hid (Below w.heap.size w wr) ∧ Hid (W7.heap.size ≤ wr.heap.size)) (fun _ i _ => 10 - (intOf i).toNat)
  case atStart => exact ⟨0, _, 0, [], Nat.zero_le _, Nat.le_refl _, rfl, rfl, HO7.out, HR7.out, k7, kx7, HU7, HB7, Nat.le_refl _⟩
  case round =>
    clear k7 kx7 HR7 HB7 HU7 HO7
    obtain ⟨k, A5, c5, xs, hk, hxs, rfl, rfl, HO, HR, k0, kx, HU, HB, HZ⟩ := hrel
    have hzr := HZ.out
    by_cases hlt : k < us.length
    · have hki : (k : Int) < (us.length : Int) := by omega
      go_wp2_with fail
      refine (c_pick g (q3 + k) 2 _ HR.out (by omega)).mono ?_
      rintro e w5 ⟨m, rfl, hm, hR, hF⟩
      have HR5 := Lib.hid hR
      have k5 := k0.fr hF (by omega)
      have kx5 := kx.fr hF (by omega)
      have hzF := hF.size
      have HB5 : Hid (Below w.heap.size w w5) := Lib.hid (HB.out.trans (hF.below (by omega) (by omega)))
      have HO5 := Lib.hid (HO.out.fr hF (by omega))
      have HU5 := Lib.hid (show IntsV w5 (w3.heap.size + 1) w4.heap.size U us from Rd.fr HU.out hF (Or.inl (by omega)))
      have hz5 : W7.heap.size ≤ w5.heap.size := Nat.le_trans hzr hzF
      clear hR hF k0 kx HR HB HO HU HZ
      obtain ⟨b, off, rfl, g0⟩ := HU5.out.at hlt
      obtain ⟨f, hf⟩ : ∃ f, f = us[k] := ⟨_, rfl⟩
      rw [← hf] at g0
      clear hf
      by_cases hm0 : m = 0
      · subst hm0
        go_wp2_with (at_builtin; refine appIL (ys := [f]) (base := w4.heap.size) rfl _ _ rfl rfl (HO5.out.below bel) rfl (IntsV.litU (Blk.newE rfl) rfl (by simp)) (by simp; omega) (by simp; omega) ?_; intro A6 d6 w6 o6 hg6 hB6)
        have kO := HO5.out.below (w' := w5.alloc (.cells #[.int .i64 f] tI)) bel
        have k6 := Blk.grownO (hg := hg6) (k5.alloc _) kO.1 (by decide)
        have kx6 := Blk.grownO (hg := hg6) (kx5.alloc _) kO.1 (by decide)
        have HB6 : Hid (Below w.heap.size w w6) := Lib.hid ((HB5.out.alloc (by omega) _).trans (hB6.mono (by omega)))
        have HR6 : Hid (Rdr w6 g (q3 + (k + 1))) := Lib.hid (by rw [show q3 + (k + 1) = q3 + k + 1 from rfl]; exact (HR5.out.below (w' := w5.alloc (.cells #[.int .i64 f] tI)) bel).belowB hB6 (by omega))
        have HU6 := Lib.hid (show IntsV w6 (w3.heap.size + 1) w4.heap.size (some ⟨b, off, none⟩) us from Rd.keep (HU5.out.below (w' := w5.alloc (.cells #[.int .i64 f] tI)) bel) fun b h1 h2 => hB6.block b (by omega))
        have hz6 : W7.heap.size ≤ w6.heap.size := by have := hg6.size; simp at this; omega
        have HO6 := Lib.hid o6
        clear hB6 hg6 o6 kO
        go_wp2_with fail
        go_round
        case rel => exact ⟨k + 1, A6, d6, xs ++ [f], by omega, by simp; omega, by go_num, by simp, HO6.out, HR6.out, k6, kx6, HU6, HB6, hz6⟩
        case measure => simp [intOf]; omega
      · have hmf : ((m : Int) == 0) = false := by simpa using hm0
        go_wp2_with fail
        go_round
        case rel => exact ⟨k + 1, A5, c5, xs, by omega, by omega, by go_num, rfl, HO5.out, HR5.out, k5, kx5, HU5, HB5, hz5⟩
        case measure => simp [intOf]; omega
    · obtain rfl : k = us.length := by omega
      go_wp2_with fail
      refine (c_pick g (q3 + us.length) 16 _ HR.out (by omega)).mono ?_
      rintro e w5 ⟨m, rfl, hm, hR, hF⟩
      have HR5 := Lib.hid hR
      have k5 := k0.fr hF (by omega)
      have kx5 := kx.fr hF (by omega)
      have hzF := hF.size
      have HB5 : Hid (Below w.heap.size w w5) := Lib.hid (HB.out.trans (hF.below (by omega) (by omega)))
      have HO5 := Lib.hid (HO.out.fr hF (by omega))
      clear hR hF k0 kx HR HB HO HU HZ
      by_cases hm0 : m = 0
      · subst hm0
        go_wp2_with fail
        refine (c_l2Place g (q3 + us.length + 1) _ HR5.out (by omega)).mono ?_
        rintro e w6 ⟨y, rfl, hR, hF⟩
        have k6 := k5.fr hF (by omega)
        have kx6 := kx5.fr hF (by omega)
        have hzF6 := hF.size
        have HB6 : Hid (Below w.heap.size w w6) := Lib.hid (HB5.out.trans (hF.below (by omega) (by omega)))
        have HO6 := Lib.hid (HO5.out.fr hF (by omega))
        clear hR hF
        go_wp2_with (at_builtin; refine appIL (ys := [y]) (base := w4.heap.size) rfl _ _ rfl rfl (HO6.out.below bel) rfl (IntsV.litU (Blk.newE rfl) rfl (by simp)) (by simp; omega) (by simp; omega) ?_; intro A7 d7 w7 o7 hg7 hB7; have kO := HO6.out.below (w' := w6.alloc (.cells #[.int .i64 y] tI)) bel; have k7 := Blk.grownO (hg := hg7) (k6.alloc _) kO.1 (by decide); have kx7 := Blk.grownO (hg := hg7) (kx6.alloc _) kO.1 (by decide); have HB7 : Hid (Below w.heap.size w w7) := Lib.hid ((HB6.out.alloc (by omega) _).trans (hB7.mono (by omega))); have HO7 := Lib.hid (o7.lower (base' := w.heap.size) (by omega)); clear hB7 hg7 o7 kO; have qk7 := k7.cell; have rk7 := k7.frozen; have lk7 := k7.lt; have qkx7 := kx7.cell; have rkx7 := kx7.frozen; have lkx7 := kx7.lt)
        refine bodyPost_ret (v := .tuple #[.agg #[.slice V3 s3.values.length c3, .slice H3 s3.heap.length d3], .slice A7 (xs.length + 1) d7]) (by simp [results, Tryz.results15, go_sem, qk7, qkx7, lk7]) rfl ⟨V3, c3, _, H3, d3, _, _, xs ++ [y], rfl, ?_, ?_⟩
        · have := (HO7.out.setT k7 (by decide) 0 (.slice V3 s3.values.length c3)).setT (k7.set_ 0 _) (by decide) 1 (.slice H3 s3.heap.length d3)
          rwa [show (xs ++ [y]).length = xs.length + 1 from by simp] at this
        · exact (HB7.out.setCell (p := ⟨w.heap.size, 0, none⟩) (by simp only; omega) _).setCell (p := ⟨w.heap.size, 1, none⟩) (by simp only; omega) _
      · have hmf : ((m : Int) == 0) = false := by simpa using hm0
        have HO7 := Lib.hid (HO5.out.lower (base' := w.heap.size) (by omega))
        (replace qk5 := k5.cell; replace rk5 := k5.frozen; replace lk5 := k5.lt; replace qkx5 := kx5.cell; replace rkx5 := kx5.frozen; replace lkx5 := kx5.lt)
        go_wp2_with fail
        refine bodyPost_ret (v := .tuple #[.agg #[.slice V3 s3.values.length c3, .slice H3 s3.heap.length d3], .slice A5 xs.length c5]) (by simp [results, Tryz.results15, go_sem, qk5, qkx5, lk5]) rfl ⟨V3, c3, _, H3, d3, _, _, xs, rfl, ?_, ?_⟩
        · exact (HO7.out.setT k5 (by decide) 0 _).setT (k5.set_ 0 _) (by decide) 1 _
        · exact (HB5.out.setCell (p := ⟨w.heap.size, 0, none⟩) (by simp only; omega) _).setCell (p := ⟨w.heap.size, 1, none⟩) (by simp only; omega) _
--@
end Go.Proofs.YteogcababfenfaaGreat
