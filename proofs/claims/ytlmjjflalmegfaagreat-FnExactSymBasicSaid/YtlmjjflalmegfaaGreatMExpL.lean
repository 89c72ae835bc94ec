/- Exposing cells: spec.l10Open, spec.ExposeCell. Printed by genOpnO.py. -/
import Derived.Test.YtlmjjflalmegfaaGreatMOpnU
import Derived.Test.YtlmjjflalmegfaaGreatMTrans
import Derived.Test.YtlmjjflalmegfaaGreatMExpC
set_option linter.unusedSimpArgs false
set_option linter.unusedVariables false
namespace Go.Proofs.YtlmjjflalmegfaaGreat
open Go Go.RowKit Go.Proofs
attribute [local go_sem ↓] Go.wp_at_zero Go.wp_at_succ

--@ spec.l10Open
set_option maxRecDepth 100000 in
set_option maxHeartbeats 1600000 in
theorem c_l10Open_zero (a : Asn) (t : Int) (Ks : Nat) : OpC 0 a t Ks := by
  intro lo hi lo' hi' v B cB w h hB0 hl1 hl2
  have hV := Lib.hid h
  obtain ⟨A1, c1, A2, c2, rfl, -⟩ := h
  have E : Hid (exposeF 0 a t Ks = none) := rfl
  clear hB0
  go_enter Tryz.func59, Tryz.ntmps59
  go_wp2_with fail
  refine (c_spec_AssertionValid _ a _ (hV.out.V.below bel)).mono ?_
  rintro e w1 ⟨rfl, hB1⟩
  have HB := Lib.hid (bgo (w := w) bel hB1)
  have hz1 : w.heap.size ≤ w1.heap.size := HB.out.size
  clear hB1
  cases hv : a.valid
  all_goals
    clear hv
    go_wp2_with fail
    go_ret2
    exact ⟨_, [], [], by rw [E.out]; rfl, (A2O.empty w1 rfl).lower hz1, Nat.zero_le _, .inl E.out, bbox HB.out _⟩
set_option maxRecDepth 100000 in
set_option maxHeartbeats 12800000 in
theorem c_l10Open_step (n : Nat) (a : Asn) (t : Int) (Ks : Nat) (hn : n ≤ 6) (HL : ∀ i x, a.valid = true → findK a 1 t = none → findK a 2 t = some i → a.atoms[i]? = some x → x.kind = 2 → impB a ⟨true, x.a, t⟩ = true → UnC n a x i t Ks) : OpC (n + 1) a t Ks := by
  intro lo hi lo' hi' v B cB w h hB0 hl1 hl2
  rw [show ((n + 1 : Nat) : Int) = (n : Int) + 1 from by omega]
  have hV := Lib.hid h
  have HFL := Lib.hid hB0
  obtain ⟨A1, c1, A2, c2, rfl, -, h2, -⟩ := h
  have H2 := Lib.hid h2
  have HLL := Lib.hid HL
  have hge : ¬ ((n : Int) + 1 < 1) := by omega
  clear h2 hB0 HL
  go_enter Tryz.func59, Tryz.ntmps59
  have k0 : Blk (w.alloc (.cells #[.slice A1 a.facts.length c1, .slice A2 a.atoms.length c2] tAs)) w.heap.size tAs #[.slice A1 a.facts.length c1, .slice A2 a.atoms.length c2] := blks
  go_wp2_with fail
  refine (c_spec_AssertionValid _ a _ (hV.out.V.below bel)).mono ?_
  rintro e w1 ⟨rfl, hB1⟩
  have HB := Lib.hid (bgo (w := w) bel hB1)
  replace k0 := k0.next hB1
  have hz1 : w.heap.size ≤ w1.heap.size := HB.out.size
  clear hB1
  cases hv : a.valid
  · have E := Lib.hid (expose_bad (n := n + 1) (t := t) (K := Ks) hv)
    clear hv
    go_wp2_with fail
    go_ret2
    exact ⟨_, [], [], by rw [E.out]; rfl, (A2O.empty w1 rfl).lower hz1, Nat.zero_le _, .inl E.out, bbox HB.out _⟩
  have HV := Lib.hid hv
  have hvl := valid_len hv
  clear hv
  (replace qk0 := k0.cell; replace rk0 := k0.frozen; replace lk0 := k0.lt)
  go_wp2_with fail
  refine (c_spec_Consistent _ a _ (hV.out.V.below HB.out)).mono ?_
  rintro e w2 ⟨rfl, hB2⟩
  rw [show (a.valid && !(cases a (caseS a 0)).isEmpty) = consB a from rfl]
  have HB2 := Lib.hid (bgo HB.out hB2)
  replace k0 := k0.next hB2
  have hz2 := HB2.out.size
  clear hB2 HB qk0 rk0 lk0
  cases hc : consB a
  · have E := Lib.hid (expose_no (n := n) (t := t) (K := Ks) HV.out hc)
    clear hc
    go_wp2_with fail
    go_ret2
    exact ⟨_, [], [], by rw [E.out]; rfl, (A2O.empty w2 rfl).lower hz2, Nat.zero_le _, .inr E.out, bbox HB2.out _⟩
  have HC := Lib.hid hc
  clear hc hz1 hge
  go_wp2_with fail
  go_loopw [10] (fun i wr => ∃ k : Nat, k ≤ a.atoms.length ∧ i = .int .i64 k ∧ Hid (∀ j, j < k → findP a 1 t j = false) ∧ Blk wr w.heap.size tAs #[.slice A1 a.facts.length c1, .slice A2 a.atoms.length c2] ∧ Hid (Below w.heap.size w wr)) (fun i _ => a.atoms.length - (intOf i).toNat)
  case atStart => exact ⟨0, Nat.zero_le _, rfl, Lib.hid fun j h => by omega, k0, HB2.out⟩
  case round =>
    clear k0 HB2 hz2
    obtain ⟨k, hk, rfl, HA, k0, HB⟩ := hrel
    have hzr := HB.out.size
    by_cases hlt : k < a.atoms.length
    · obtain ⟨b, off, rfl, g0, g1, g2⟩ := (H2.out.below HB.out).at hlt
      have hki : (k : Int) < (a.atoms.length : Int) := by omega
      have HP : Hid (findP a 1 t k = (decide (a.atoms[k].kind = 1) && impB a ⟨true, a.atoms[k].a, t⟩)) := Lib.hid (by unfold findP; rw [List.getElem?_eq_getElem hlt])
      have HXK : Hid (a.atoms[k]? = some a.atoms[k]) := Lib.hid (List.getElem?_eq_getElem hlt)
      obtain ⟨x, hx⟩ : ∃ x, x = a.atoms[k] := ⟨_, rfl⟩
      rw [← hx] at g0 g1 g2 HP HXK
      have hbx : Below wr.heap.size wr (wr.alloc (.cells #[.int .i64 x.kind, .int .i64 x.a, .int .i64 x.b] tA)) := bbox (Below.refl _ _) _
      have kx : Blk (wr.alloc (.cells #[.int .i64 x.kind, .int .i64 x.a, .int .i64 x.b] tA)) wr.heap.size tA #[.int .i64 x.kind, .int .i64 x.a, .int .i64 x.b] := Blk.new _ _ _
      have k1 := k0.next hbx
      have HB1 := Lib.hid (bgo HB.out hbx)
      have hzx : (wr.alloc (.cells #[.int .i64 x.kind, .int .i64 x.a, .int .i64 x.b] tA)).heap.size = wr.heap.size + 1 := by simp
      clear hx hbx
      (replace qk0 := k0.cell; replace rk0 := k0.frozen; replace lk0 := k0.lt)
      go_upto_region 9 with fail
      clear qk0 rk0 lk0 g0 g1 g2 k0 HB
      generalize (wr.alloc (.cells #[.int .i64 x.kind, .int .i64 x.a, .int .i64 x.b] tA)) = W at k1 HB1 kx hzx ⊢
      obtain ⟨yx, hyx⟩ : ∃ y, y = wr.heap.size := ⟨_, rfl⟩
      rw [← hyx] at kx hzx hzr ⊢
      have hzy : yx < W.heap.size := by omega
      clear hyx hzx
      (replace qk1 := k1.cell; replace rk1 := k1.frozen; replace lk1 := k1.lt; replace qkx := kx.cell; replace rkx := kx.frozen; replace lkx := kx.lt)
      by_cases hkd : x.kind = 1
      case neg =>
        have hkb : (x.kind == 1) = false := by simpa using hkd
        have HA2 : Hid (∀ j, j < k + 1 → findP a 1 t j = false) := Lib.hid fun j hj => by
          by_cases e : j = k
          · rw [e, HP.out]; simp [hkd]
          · exact HA.out j (by omega)
        clear HA HP hkd
        go_wp2_with fail
        go_round
        case rel => exact ⟨k + 1, by omega, by go_num, HA2, k1, HB1.out⟩
        case measure => simp [intOf]; omega
      have hkb : (x.kind == 1) = true := by simpa using hkd
      have HKD := Lib.hid hkd
      clear hkd
      go_wp2_with fail
      refine (c_l10Equal _ a x.a t _ (hV.out.V.below HB1.out)).mono ?_
      rintro e w3 ⟨rfl, hB3⟩
      replace k1 := k1.next hB3
      replace kx := kx.next hB3
      have HB3 := Lib.hid (bgo HB1.out hB3)
      have hz3 := hB3.size
      clear hB3 qk1 rk1 lk1 qkx rkx lkx HB1 hkb
      cases him : impB a ⟨true, x.a, t⟩
      · have HA2 : Hid (∀ j, j < k + 1 → findP a 1 t j = false) := Lib.hid fun j hj => by
          by_cases e : j = k
          · rw [e, HP.out, him]; simp
          · exact HA.out j (by omega)
        clear HA HP him
        go_wp2_with fail
        go_round
        case rel => exact ⟨k + 1, by omega, by go_num, HA2, k1, HB3.out⟩
        case measure => simp [intOf]; omega
      have HFK := Lib.hid (findK_yes hlt HA.out (by rw [HP.out, him, HKD.out]; rfl))
      have E := Lib.hid (expose_cell (n := n) (K := Ks) HV.out HC.out HFK.out HXK.out)
      clear HA HP him HFK HXK
      have hwl := withoutL_len hlt
      have HLT := Lib.hid hlt
      (replace qk1 := k1.cell; replace rk1 := k1.frozen; replace lk1 := k1.lt; replace qkx := kx.cell; replace rkx := kx.frozen; replace lkx := kx.lt)
      go_wp2_with fail
      refine (c_l10Front _ a ⟨1, t, x.b⟩ k _ (hV.out.V.below HB3.out) HV.out HLT.out).mono ?_
      rintro e w4 ⟨F, d, G, g, rfl, oF, hB4⟩
      have OF := Lib.hid oF
      replace kx := kx.next hB4
      have HB4 := Lib.hid (bgo HB3.out hB4)
      have hz4 := hB4.size
      clear oF hB4 qk1 rk1 lk1 qkx rkx lkx HB3 k1
      (replace qkx := kx.cell; replace rkx := kx.frozen; replace lkx := kx.lt)
      go_upto_region 11 with fail
      have hbq := bbox (Below.refl w4.heap.size w4) (.cells #[.slice F a.facts.length d, .slice G a.atoms.length g] tAs)
      have ko : Blk (w4.alloc (.cells #[.slice F a.facts.length d, .slice G a.atoms.length g] tAs)) w4.heap.size tAs #[.slice F a.facts.length d, .slice G a.atoms.length g] := Blk.new _ _ _
      replace kx := kx.next hbq
      replace OF := Lib.hid (OF.out.below hbq)
      replace HB4 := Lib.hid (bgo HB4.out hbq)
      have hzo : w4.heap.size < (w4.alloc (.cells #[.slice F a.facts.length d, .slice G a.atoms.length g] tAs)).heap.size := by simp
      clear hbq qkx rkx lkx
      generalize (w4.alloc (.cells #[.slice F a.facts.length d, .slice G a.atoms.length g] tAs)) = W4 at ko kx OF HB4 hzo ⊢
      obtain ⟨yo, hyo⟩ : ∃ y, y = w4.heap.size := ⟨_, rfl⟩
      rw [← hyo] at ko hzo hz4 ⊢
      clear hyo
      (replace qko := ko.cell; replace rko := ko.frozen; replace lko := ko.lt; replace qkx := kx.cell; replace rkx := kx.frozen; replace lkx := kx.lt)
      by_cases hxt : x.a = t
      · have hb : (x.a != t) = false := by simpa using hxt
        have HXE : Hid (cellX a x k t = ⟨a.facts, [⟨1, t, x.b⟩] ++ withoutL a.atoms k⟩) := Lib.hid (by unfold cellX; rw [if_pos hxt, List.append_nil]; rfl)
        have OX : Hid (AsnO W4 w.heap.size (.agg #[.slice F a.facts.length d, .slice G a.atoms.length g]) (cellX a x k t)) := Lib.hid (by rw [HXE.out]; exact OF.out.lower (by omega))
        have hlf : a.facts.length ≤ 1000 := by omega
        clear hxt HXE OF kx
        generalize a.facts.length = lf at ko OX hlf ⊢
        go_upto_region 13 with fail
        refine wp_region_noPanic ?_
        refine wp_region_held_drew (S := (fun w' => ∀ i, w'.cell? ⟨yo, i, none⟩ = #[.slice F lf d, .slice G a.atoms.length g][i]?)) (by kernel_rfl) (ko.drew.cell) (fun hHeld => ?_)
        have HBQ : Hid (Below W4.heap.size W4 W4.drew) := Lib.hid (Below.refl _ _).drew
        have hzq : W4.heap.size ≤ W4.drew.heap.size := Nat.le_refl _
        clear qko rko lko
        generalize W4.drew = wq at HBQ hzq hHeld ⊢
        refine wpAnyH_take (i := 0) (v := ?_) rfl (by kernel_rfl) (by kernel_rfl) (by kernel_rfl) (fun _ _ _ h => h) (Or.inl ⟨by rfl, fun w hSw => ?_⟩) hHeld ?_
        rotate_left
        · ((try dsimp only at hSw); go_split_ands; go_simp; (try with_reducible rfl))
        try simp only [Act.put, List.getElem_toArray, List.getElem_cons_zero, List.getElem_cons_succ, List.setIfInBounds_toArray, List.set_cons_zero, List.set_cons_succ]
        refine wpAnyH_take (i := 2) (v := ?_) rfl (by kernel_rfl) (by kernel_rfl) (by kernel_rfl) (fun _ _ _ h => h) (Or.inl ⟨by rfl, fun w hSw => ?_⟩) hHeld ?_
        rotate_left
        · ((try dsimp only at hSw); go_split_ands; go_simp; (try with_reducible rfl))
        try simp only [Act.put, List.getElem_toArray, List.getElem_cons_zero, List.getElem_cons_succ, List.setIfInBounds_toArray, List.set_cons_zero, List.set_cons_succ]
        refine wpAnyH_ready (rs := [1, 3]) (by kernel_rfl) (by simp) ?_
        refine AllReadyH.cons rfl (fun K hK => ?_) (AllReadyH.cons rfl (fun K hK => ?_) AllReadyH.nil)
        · skip
          try simp only [List.getElem_toArray, List.getElem_cons_zero, List.getElem_cons_succ]
          go_simp
          refine hK.out _ _ ((ko.next HBQ.out).alloc _).cell (fun hHeldN => ?_)
          clear hHeld hK K
          have hHeld := hHeldN
          clear hHeldN
          try simp only [Act.put, List.getElem_toArray, List.getElem_cons_zero, List.getElem_cons_succ, List.setIfInBounds_toArray, List.set_cons_zero, List.set_cons_succ]
          have hBq : Below wq.heap.size wq (wq.alloc (.cells #[.slice F lf d, .slice G a.atoms.length g] tAs)) := bbox (Below.refl _ _) _
          obtain ⟨yA, hyA⟩ : ∃ y, y = wq.heap.size := ⟨_, rfl⟩
          have hyAb : W4.heap.size ≤ yA := by omega
          replace HBQ := Lib.hid (HBQ.out.trans (hBq.mono hzq))
          replace hzq := Nat.le_trans hzq hBq.size
          try replace kA := kA.next hBq
          have kA : Blk (wq.alloc (.cells #[.slice F lf d, .slice G a.atoms.length g] tAs)) yA tAs #[.slice F lf d, .slice G a.atoms.length g] := Blk.newE hyA
          rw [← hyA]
          clear hBq hyA
          generalize wq.alloc (.cells #[.slice F lf d, .slice G a.atoms.length g] tAs) = wq at *
          refine wpAnyH_ready (rs := [3]) (by kernel_rfl) (by simp) ?_
          refine AllReadyH.cons rfl (fun K hK => ?_) AllReadyH.nil
          try simp only [List.getElem_toArray, List.getElem_cons_zero, List.getElem_cons_succ]
          go_simp
          refine (c_spec_AssertionValid _ (cellX a x k t) _ (OX.out.reads.below HBQ.out)).mono ?_
          rintro e wq ⟨rfl, hBq⟩
          replace HBQ := Lib.hid (HBQ.out.trans (hBq.mono hzq))
          replace hzq := Nat.le_trans hzq hBq.size
          try replace kA := kA.next hBq
          clear hBq
          refine hK.out _ _ (ko.next HBQ.out).cell (fun hHeldN => ?_)
          clear hHeld hK K
          have hHeld := hHeldN
          clear hHeldN
          try simp only [Act.put, List.getElem_toArray, List.getElem_cons_zero, List.getElem_cons_succ, List.setIfInBounds_toArray, List.set_cons_zero, List.set_cons_succ]
          refine wpAnyH_take (i := 4) (v := ?_) rfl (by kernel_rfl) (by kernel_rfl) (by kernel_rfl) (fun _ _ _ h => h) (Or.inl ⟨by rfl, fun w hSw => ?_⟩) hHeld ?_
          rotate_left
          · ((try dsimp only at hSw); go_split_ands; go_simp; (try with_reducible rfl))
          try simp only [Act.put, List.getElem_toArray, List.getElem_cons_zero, List.getElem_cons_succ, List.setIfInBounds_toArray, List.set_cons_zero, List.set_cons_succ]
          refine wpAnyH_take (i := 5) (v := ?_) rfl (by kernel_rfl) (by kernel_rfl) (by kernel_rfl) (fun _ _ _ h => h) (Or.inl ⟨by rfl, fun w hSw => ?_⟩) hHeld ?_
          rotate_left
          · ((try dsimp only at hSw); go_split_ands; go_simp; (try with_reducible rfl))
          try simp only [Act.put, List.getElem_toArray, List.getElem_cons_zero, List.getElem_cons_succ, List.setIfInBounds_toArray, List.set_cons_zero, List.set_cons_succ]
          refine wpAnyH_done (by kernel_rfl) ?_ _
          refine NoPanic.normal ?_
          have hzw4 := HB4.out.size
          go_wp2_with fail
          go_ret2
          have hA : A2O wq w.heap.size (.slice (some ⟨yA, 0, none⟩) 1 1) [.slice F lf d, .slice G a.atoms.length g] [cellX a x k t] := A2O.one kA (by omega) (OX.out.below HBQ.out)
          have hBf : Below w.heap.size w wq := bgo HB4.out HBQ.out
          have h2n : 1 ≤ 2 ^ (n + 1) := Nat.one_le_two_pow
          cases hcv : (cellX a x k t).valid
          · have E2 : exposeF (n + 1) a t Ks = none := by rw [E.out, hcv]; rfl
            exact ⟨_, _, _, by rw [E2]; rfl, hA, h2n, .inl E2, hBf⟩
          · have E2 : exposeF (n + 1) a t Ks = some [cellX a x k t] := by rw [E.out, hcv]; rfl
            exact ⟨_, _, _, by rw [E2]; rfl, hA, h2n, .inr E2, hBf⟩
        · skip
          try simp only [List.getElem_toArray, List.getElem_cons_zero, List.getElem_cons_succ]
          go_simp
          refine (c_spec_AssertionValid _ (cellX a x k t) _ (OX.out.reads.below HBQ.out)).mono ?_
          rintro e wq ⟨rfl, hBq⟩
          replace HBQ := Lib.hid (HBQ.out.trans (hBq.mono hzq))
          replace hzq := Nat.le_trans hzq hBq.size
          try replace kA := kA.next hBq
          clear hBq
          refine hK.out _ _ (ko.next HBQ.out).cell (fun hHeldN => ?_)
          clear hHeld hK K
          have hHeld := hHeldN
          clear hHeldN
          try simp only [Act.put, List.getElem_toArray, List.getElem_cons_zero, List.getElem_cons_succ, List.setIfInBounds_toArray, List.set_cons_zero, List.set_cons_succ]
          refine wpAnyH_ready (rs := [1]) (by kernel_rfl) (by simp) ?_
          refine AllReadyH.cons rfl (fun K hK => ?_) AllReadyH.nil
          try simp only [List.getElem_toArray, List.getElem_cons_zero, List.getElem_cons_succ]
          go_simp
          refine hK.out _ _ ((ko.next HBQ.out).alloc _).cell (fun hHeldN => ?_)
          clear hHeld hK K
          have hHeld := hHeldN
          clear hHeldN
          try simp only [Act.put, List.getElem_toArray, List.getElem_cons_zero, List.getElem_cons_succ, List.setIfInBounds_toArray, List.set_cons_zero, List.set_cons_succ]
          have hBq : Below wq.heap.size wq (wq.alloc (.cells #[.slice F lf d, .slice G a.atoms.length g] tAs)) := bbox (Below.refl _ _) _
          obtain ⟨yA, hyA⟩ : ∃ y, y = wq.heap.size := ⟨_, rfl⟩
          have hyAb : W4.heap.size ≤ yA := by omega
          replace HBQ := Lib.hid (HBQ.out.trans (hBq.mono hzq))
          replace hzq := Nat.le_trans hzq hBq.size
          try replace kA := kA.next hBq
          have kA : Blk (wq.alloc (.cells #[.slice F lf d, .slice G a.atoms.length g] tAs)) yA tAs #[.slice F lf d, .slice G a.atoms.length g] := Blk.newE hyA
          rw [← hyA]
          clear hBq hyA
          generalize wq.alloc (.cells #[.slice F lf d, .slice G a.atoms.length g] tAs) = wq at *
          refine wpAnyH_take (i := 4) (v := ?_) rfl (by kernel_rfl) (by kernel_rfl) (by kernel_rfl) (fun _ _ _ h => h) (Or.inl ⟨by rfl, fun w hSw => ?_⟩) hHeld ?_
          rotate_left
          · ((try dsimp only at hSw); go_split_ands; go_simp; (try with_reducible rfl))
          try simp only [Act.put, List.getElem_toArray, List.getElem_cons_zero, List.getElem_cons_succ, List.setIfInBounds_toArray, List.set_cons_zero, List.set_cons_succ]
          refine wpAnyH_take (i := 5) (v := ?_) rfl (by kernel_rfl) (by kernel_rfl) (by kernel_rfl) (fun _ _ _ h => h) (Or.inl ⟨by rfl, fun w hSw => ?_⟩) hHeld ?_
          rotate_left
          · ((try dsimp only at hSw); go_split_ands; go_simp; (try with_reducible rfl))
          try simp only [Act.put, List.getElem_toArray, List.getElem_cons_zero, List.getElem_cons_succ, List.setIfInBounds_toArray, List.set_cons_zero, List.set_cons_succ]
          refine wpAnyH_done (by kernel_rfl) ?_ _
          refine NoPanic.normal ?_
          have hzw4 := HB4.out.size
          go_wp2_with fail
          go_ret2
          have hA : A2O wq w.heap.size (.slice (some ⟨yA, 0, none⟩) 1 1) [.slice F lf d, .slice G a.atoms.length g] [cellX a x k t] := A2O.one kA (by omega) (OX.out.below HBQ.out)
          have hBf : Below w.heap.size w wq := bgo HB4.out HBQ.out
          have h2n : 1 ≤ 2 ^ (n + 1) := Nat.one_le_two_pow
          cases hcv : (cellX a x k t).valid
          · have E2 : exposeF (n + 1) a t Ks = none := by rw [E.out, hcv]; rfl
            exact ⟨_, _, _, by rw [E2]; rfl, hA, h2n, .inl E2, hBf⟩
          · have E2 : exposeF (n + 1) a t Ks = some [cellX a x k t] := by rw [E.out, hcv]; rfl
            exact ⟨_, _, _, by rw [E2]; rfl, hA, h2n, .inr E2, hBf⟩
      · have hb : (x.a != t) = true := by simpa using hxt
        have HXE : Hid (cellX a x k t = ⟨a.facts ++ [⟨true, x.a, t⟩], [⟨1, t, x.b⟩] ++ withoutL a.atoms k⟩) := Lib.hid (by unfold cellX; rw [if_neg hxt]; rfl)
        clear hxt
        go_wp2_with fail
        have hlg : (⟨a.facts, [⟨1, t, x.b⟩] ++ withoutL a.atoms k⟩ : Asn).atoms.length = a.atoms.length := by simp; omega
        have HKN := Lib.hid (fun (Z : World) (hz : Below W4.heap.size W4 Z) => c_l10Know _ ⟨a.facts, [⟨1, t, x.b⟩] ++ withoutL a.atoms k⟩ x.a t Z (OF.out.reads.below hz) (by simp only; omega))
        rw [hlg] at HKN
        refine (HKN.out _ (Below.refl _ _)).mono ?_
        rintro e w5 ⟨F5, d5, G5, g5, rfl, o5, hB5⟩
        have OX5 : Hid (AsnO w5 w.heap.size (.agg #[.slice F5 (a.facts.length + 1) d5, .slice G5 a.atoms.length g5]) (cellX a x k t)) := Lib.hid (by rw [HXE.out]; exact o5.lower (by omega))
        have HB5 := Lib.hid (bgo HB4.out hB5)
        replace ko := ko.next hB5
        have hz5 := hB5.size
        clear HKN hlg OF o5 hB5 HXE HB4 kx qko rko lko qkx rkx lkx
        (replace qko := ko.cell; replace rko := ko.frozen; replace lko := ko.lt)
        go_upto_region 13 with fail
        have ko2 : Blk ((w5.setCell ⟨yo, 0, none⟩ (.slice F5 (a.facts.length + 1) d5)).setCell ⟨yo, 1, none⟩ (.slice G5 a.atoms.length g5)) yo tAs #[.slice F5 (a.facts.length + 1) d5, .slice G5 a.atoms.length g5] := by
          have := (ko.set_ 0 (.slice F5 (a.facts.length + 1) d5)).set_ 1 (.slice G5 a.atoms.length g5)
          simpa using this
        have OX2 : Hid (AsnO ((w5.setCell ⟨yo, 0, none⟩ (.slice F5 (a.facts.length + 1) d5)).setCell ⟨yo, 1, none⟩ (.slice G5 a.atoms.length g5)) w.heap.size (.agg #[.slice F5 (a.facts.length + 1) d5, .slice G5 a.atoms.length g5]) (cellX a x k t)) := Lib.hid ⟨_, _, rfl, (OX5.out.parts.1.setT ko (by decide) 0 _).setT (ko.set_ 0 _) (by decide) 1 _, (OX5.out.parts.2.setT ko (by decide) 0 _).setT (ko.set_ 0 _) (by decide) 1 _⟩
        have HB6 : Hid (Below w.heap.size w ((w5.setCell ⟨yo, 0, none⟩ (.slice F5 (a.facts.length + 1) d5)).setCell ⟨yo, 1, none⟩ (.slice G5 a.atoms.length g5))) := Lib.hid ((HB5.out.setCell (p := ⟨yo, 0, none⟩) (by simp only; omega) _).setCell (p := ⟨yo, 1, none⟩) (by simp only; omega) _)
        have hzo2 : yo < ((w5.setCell ⟨yo, 0, none⟩ (.slice F5 (a.facts.length + 1) d5)).setCell ⟨yo, 1, none⟩ (.slice G5 a.atoms.length g5)).heap.size := ko2.lt
        clear ko OX5 HB5 hz5 hzo qko rko lko
        generalize ((w5.setCell ⟨yo, 0, none⟩ (.slice F5 (a.facts.length + 1) d5)).setCell ⟨yo, 1, none⟩ (.slice G5 a.atoms.length g5)) = W5 at ko2 OX2 HB6 hzo2 ⊢
        have ko := ko2
        have OX := OX2
        have HB4 := HB6
        have hzo := hzo2
        have hlf : a.facts.length + 1 ≤ 1000 := by omega
        clear ko2 OX2 HB6 hzo2
        generalize W5 = W4 at ko OX HB4 hzo ⊢
        generalize F5 = F at ko OX ⊢
        generalize d5 = d at ko OX ⊢
        generalize G5 = G at ko OX ⊢
        generalize g5 = g at ko OX ⊢
        generalize a.facts.length + 1 = lf at ko OX hlf ⊢
        (replace qko := ko.cell; replace rko := ko.frozen; replace lko := ko.lt)
        refine wp_region_noPanic ?_
        refine wp_region_held_drew (S := (fun w' => ∀ i, w'.cell? ⟨yo, i, none⟩ = #[.slice F lf d, .slice G a.atoms.length g][i]?)) (by kernel_rfl) (ko.drew.cell) (fun hHeld => ?_)
        have HBQ : Hid (Below W4.heap.size W4 W4.drew) := Lib.hid (Below.refl _ _).drew
        have hzq : W4.heap.size ≤ W4.drew.heap.size := Nat.le_refl _
        clear qko rko lko
        generalize W4.drew = wq at HBQ hzq hHeld ⊢
        refine wpAnyH_take (i := 0) (v := ?_) rfl (by kernel_rfl) (by kernel_rfl) (by kernel_rfl) (fun _ _ _ h => h) (Or.inl ⟨by rfl, fun w hSw => ?_⟩) hHeld ?_
        rotate_left
        · ((try dsimp only at hSw); go_split_ands; go_simp; (try with_reducible rfl))
        try simp only [Act.put, List.getElem_toArray, List.getElem_cons_zero, List.getElem_cons_succ, List.setIfInBounds_toArray, List.set_cons_zero, List.set_cons_succ]
        refine wpAnyH_take (i := 2) (v := ?_) rfl (by kernel_rfl) (by kernel_rfl) (by kernel_rfl) (fun _ _ _ h => h) (Or.inl ⟨by rfl, fun w hSw => ?_⟩) hHeld ?_
        rotate_left
        · ((try dsimp only at hSw); go_split_ands; go_simp; (try with_reducible rfl))
        try simp only [Act.put, List.getElem_toArray, List.getElem_cons_zero, List.getElem_cons_succ, List.setIfInBounds_toArray, List.set_cons_zero, List.set_cons_succ]
        refine wpAnyH_ready (rs := [1, 3]) (by kernel_rfl) (by simp) ?_
        refine AllReadyH.cons rfl (fun K hK => ?_) (AllReadyH.cons rfl (fun K hK => ?_) AllReadyH.nil)
        · skip
          try simp only [List.getElem_toArray, List.getElem_cons_zero, List.getElem_cons_succ]
          go_simp
          refine hK.out _ _ ((ko.next HBQ.out).alloc _).cell (fun hHeldN => ?_)
          clear hHeld hK K
          have hHeld := hHeldN
          clear hHeldN
          try simp only [Act.put, List.getElem_toArray, List.getElem_cons_zero, List.getElem_cons_succ, List.setIfInBounds_toArray, List.set_cons_zero, List.set_cons_succ]
          have hBq : Below wq.heap.size wq (wq.alloc (.cells #[.slice F lf d, .slice G a.atoms.length g] tAs)) := bbox (Below.refl _ _) _
          obtain ⟨yA, hyA⟩ : ∃ y, y = wq.heap.size := ⟨_, rfl⟩
          have hyAb : W4.heap.size ≤ yA := by omega
          replace HBQ := Lib.hid (HBQ.out.trans (hBq.mono hzq))
          replace hzq := Nat.le_trans hzq hBq.size
          try replace kA := kA.next hBq
          have kA : Blk (wq.alloc (.cells #[.slice F lf d, .slice G a.atoms.length g] tAs)) yA tAs #[.slice F lf d, .slice G a.atoms.length g] := Blk.newE hyA
          rw [← hyA]
          clear hBq hyA
          generalize wq.alloc (.cells #[.slice F lf d, .slice G a.atoms.length g] tAs) = wq at *
          refine wpAnyH_ready (rs := [3]) (by kernel_rfl) (by simp) ?_
          refine AllReadyH.cons rfl (fun K hK => ?_) AllReadyH.nil
          try simp only [List.getElem_toArray, List.getElem_cons_zero, List.getElem_cons_succ]
          go_simp
          refine (c_spec_AssertionValid _ (cellX a x k t) _ (OX.out.reads.below HBQ.out)).mono ?_
          rintro e wq ⟨rfl, hBq⟩
          replace HBQ := Lib.hid (HBQ.out.trans (hBq.mono hzq))
          replace hzq := Nat.le_trans hzq hBq.size
          try replace kA := kA.next hBq
          clear hBq
          refine hK.out _ _ (ko.next HBQ.out).cell (fun hHeldN => ?_)
          clear hHeld hK K
          have hHeld := hHeldN
          clear hHeldN
          try simp only [Act.put, List.getElem_toArray, List.getElem_cons_zero, List.getElem_cons_succ, List.setIfInBounds_toArray, List.set_cons_zero, List.set_cons_succ]
          refine wpAnyH_take (i := 4) (v := ?_) rfl (by kernel_rfl) (by kernel_rfl) (by kernel_rfl) (fun _ _ _ h => h) (Or.inl ⟨by rfl, fun w hSw => ?_⟩) hHeld ?_
          rotate_left
          · ((try dsimp only at hSw); go_split_ands; go_simp; (try with_reducible rfl))
          try simp only [Act.put, List.getElem_toArray, List.getElem_cons_zero, List.getElem_cons_succ, List.setIfInBounds_toArray, List.set_cons_zero, List.set_cons_succ]
          refine wpAnyH_take (i := 5) (v := ?_) rfl (by kernel_rfl) (by kernel_rfl) (by kernel_rfl) (fun _ _ _ h => h) (Or.inl ⟨by rfl, fun w hSw => ?_⟩) hHeld ?_
          rotate_left
          · ((try dsimp only at hSw); go_split_ands; go_simp; (try with_reducible rfl))
          try simp only [Act.put, List.getElem_toArray, List.getElem_cons_zero, List.getElem_cons_succ, List.setIfInBounds_toArray, List.set_cons_zero, List.set_cons_succ]
          refine wpAnyH_done (by kernel_rfl) ?_ _
          refine NoPanic.normal ?_
          have hzw4 := HB4.out.size
          go_wp2_with fail
          go_ret2
          have hA : A2O wq w.heap.size (.slice (some ⟨yA, 0, none⟩) 1 1) [.slice F lf d, .slice G a.atoms.length g] [cellX a x k t] := A2O.one kA (by omega) (OX.out.below HBQ.out)
          have hBf : Below w.heap.size w wq := bgo HB4.out HBQ.out
          have h2n : 1 ≤ 2 ^ (n + 1) := Nat.one_le_two_pow
          cases hcv : (cellX a x k t).valid
          · have E2 : exposeF (n + 1) a t Ks = none := by rw [E.out, hcv]; rfl
            exact ⟨_, _, _, by rw [E2]; rfl, hA, h2n, .inl E2, hBf⟩
          · have E2 : exposeF (n + 1) a t Ks = some [cellX a x k t] := by rw [E.out, hcv]; rfl
            exact ⟨_, _, _, by rw [E2]; rfl, hA, h2n, .inr E2, hBf⟩
        · skip
          try simp only [List.getElem_toArray, List.getElem_cons_zero, List.getElem_cons_succ]
          go_simp
          refine (c_spec_AssertionValid _ (cellX a x k t) _ (OX.out.reads.below HBQ.out)).mono ?_
          rintro e wq ⟨rfl, hBq⟩
          replace HBQ := Lib.hid (HBQ.out.trans (hBq.mono hzq))
          replace hzq := Nat.le_trans hzq hBq.size
          try replace kA := kA.next hBq
          clear hBq
          refine hK.out _ _ (ko.next HBQ.out).cell (fun hHeldN => ?_)
          clear hHeld hK K
          have hHeld := hHeldN
          clear hHeldN
          try simp only [Act.put, List.getElem_toArray, List.getElem_cons_zero, List.getElem_cons_succ, List.setIfInBounds_toArray, List.set_cons_zero, List.set_cons_succ]
          refine wpAnyH_ready (rs := [1]) (by kernel_rfl) (by simp) ?_
          refine AllReadyH.cons rfl (fun K hK => ?_) AllReadyH.nil
          try simp only [List.getElem_toArray, List.getElem_cons_zero, List.getElem_cons_succ]
          go_simp
          refine hK.out _ _ ((ko.next HBQ.out).alloc _).cell (fun hHeldN => ?_)
          clear hHeld hK K
          have hHeld := hHeldN
          clear hHeldN
          try simp only [Act.put, List.getElem_toArray, List.getElem_cons_zero, List.getElem_cons_succ, List.setIfInBounds_toArray, List.set_cons_zero, List.set_cons_succ]
          have hBq : Below wq.heap.size wq (wq.alloc (.cells #[.slice F lf d, .slice G a.atoms.length g] tAs)) := bbox (Below.refl _ _) _
          obtain ⟨yA, hyA⟩ : ∃ y, y = wq.heap.size := ⟨_, rfl⟩
          have hyAb : W4.heap.size ≤ yA := by omega
          replace HBQ := Lib.hid (HBQ.out.trans (hBq.mono hzq))
          replace hzq := Nat.le_trans hzq hBq.size
          try replace kA := kA.next hBq
          have kA : Blk (wq.alloc (.cells #[.slice F lf d, .slice G a.atoms.length g] tAs)) yA tAs #[.slice F lf d, .slice G a.atoms.length g] := Blk.newE hyA
          rw [← hyA]
          clear hBq hyA
          generalize wq.alloc (.cells #[.slice F lf d, .slice G a.atoms.length g] tAs) = wq at *
          refine wpAnyH_take (i := 4) (v := ?_) rfl (by kernel_rfl) (by kernel_rfl) (by kernel_rfl) (fun _ _ _ h => h) (Or.inl ⟨by rfl, fun w hSw => ?_⟩) hHeld ?_
          rotate_left
          · ((try dsimp only at hSw); go_split_ands; go_simp; (try with_reducible rfl))
          try simp only [Act.put, List.getElem_toArray, List.getElem_cons_zero, List.getElem_cons_succ, List.setIfInBounds_toArray, List.set_cons_zero, List.set_cons_succ]
          refine wpAnyH_take (i := 5) (v := ?_) rfl (by kernel_rfl) (by kernel_rfl) (by kernel_rfl) (fun _ _ _ h => h) (Or.inl ⟨by rfl, fun w hSw => ?_⟩) hHeld ?_
          rotate_left
          · ((try dsimp only at hSw); go_split_ands; go_simp; (try with_reducible rfl))
          try simp only [Act.put, List.getElem_toArray, List.getElem_cons_zero, List.getElem_cons_succ, List.setIfInBounds_toArray, List.set_cons_zero, List.set_cons_succ]
          refine wpAnyH_done (by kernel_rfl) ?_ _
          refine NoPanic.normal ?_
          have hzw4 := HB4.out.size
          go_wp2_with fail
          go_ret2
          have hA : A2O wq w.heap.size (.slice (some ⟨yA, 0, none⟩) 1 1) [.slice F lf d, .slice G a.atoms.length g] [cellX a x k t] := A2O.one kA (by omega) (OX.out.below HBQ.out)
          have hBf : Below w.heap.size w wq := bgo HB4.out HBQ.out
          have h2n : 1 ≤ 2 ^ (n + 1) := Nat.one_le_two_pow
          cases hcv : (cellX a x k t).valid
          · have E2 : exposeF (n + 1) a t Ks = none := by rw [E.out, hcv]; rfl
            exact ⟨_, _, _, by rw [E2]; rfl, hA, h2n, .inl E2, hBf⟩
          · have E2 : exposeF (n + 1) a t Ks = some [cellX a x k t] := by rw [E.out, hcv]; rfl
            exact ⟨_, _, _, by rw [E2]; rfl, hA, h2n, .inr E2, hBf⟩
    · obtain rfl : k = a.atoms.length := by omega
      have HF1 := Lib.hid (findK_no (fun j hj => HA.out j hj))
      clear HA
      (replace qk0 := k0.cell; replace rk0 := k0.frozen; replace lk0 := k0.lt)
      go_wp2_with fail
      clear qk0 rk0 lk0
      go_loopw [13] (fun i wr => ∃ k : Nat, k ≤ a.atoms.length ∧ i = .int .i64 k ∧ Hid (∀ j, j < k → findP a 2 t j = false) ∧ Blk wr w.heap.size tAs #[.slice A1 a.facts.length c1, .slice A2 a.atoms.length c2] ∧ Hid (Below w.heap.size w wr)) (fun i _ => a.atoms.length - (intOf i).toNat)
      case atStart => exact ⟨0, Nat.zero_le _, rfl, Lib.hid fun j h => by omega, k0, HB.out⟩
      case round =>
        clear k0 HB hzr
        obtain ⟨k, hk, rfl, HA, k0, HB⟩ := hrel
        have hzr := HB.out.size
        by_cases hlt : k < a.atoms.length
        · obtain ⟨b, off, rfl, g0, g1, g2⟩ := (H2.out.below HB.out).at hlt
          have hki : (k : Int) < (a.atoms.length : Int) := by omega
          have HP : Hid (findP a 2 t k = (decide (a.atoms[k].kind = 2) && impB a ⟨true, a.atoms[k].a, t⟩)) := Lib.hid (by unfold findP; rw [List.getElem?_eq_getElem hlt])
          have HXK : Hid (a.atoms[k]? = some a.atoms[k]) := Lib.hid (List.getElem?_eq_getElem hlt)
          obtain ⟨x, hx⟩ : ∃ x, x = a.atoms[k] := ⟨_, rfl⟩
          rw [← hx] at g0 g1 g2 HP HXK
          have hbl := block_lt_of_cell g0
          simp only at hbl
          clear hx g2
          (replace qk0 := k0.cell; replace rk0 := k0.frozen; replace lk0 := k0.lt)
          by_cases hkd : x.kind = 2
          case neg =>
            have hkb : (x.kind == 2) = false := by simpa using hkd
            have HA2 : Hid (∀ j, j < k + 1 → findP a 2 t j = false) := Lib.hid fun j hj => by
              by_cases e : j = k
              · rw [e, HP.out]; simp [hkd]
              · exact HA.out j (by omega)
            clear HA HP hkd HXK
            go_wp2_with fail
            clear qk0 rk0 lk0
            refine wp_region_noPanic ?_
            refine wp_region_held_drew (S := (fun w' => (∀ i, w'.cell? ⟨w.heap.size, i, none⟩ = #[.slice A1 a.facts.length c1, .slice (some ⟨b, off, none⟩) a.atoms.length c2][i]?) ∧ w'.cell? ⟨b, off + k * 3, none⟩ = some (.int .i64 x.kind) ∧ w'.cell? ⟨b, off + k * 3 + 1, none⟩ = some (.int .i64 x.a))) (by kernel_rfl) (⟨k0.drew.cell, g0, g1⟩) (fun hHeld => ?_)
            refine wpAnyH_take (i := 0) (v := ?_) rfl (by kernel_rfl) (by kernel_rfl) (by kernel_rfl) (fun _ _ _ h => h) (Or.inl ⟨by rfl, fun w hSw => ?_⟩) hHeld ?_
            rotate_left
            · ((try dsimp only at hSw); go_split_ands; go_simp; (try with_reducible rfl))
            try simp only [Act.put, List.getElem_toArray, List.getElem_cons_zero, List.getElem_cons_succ, List.setIfInBounds_toArray, List.set_cons_zero, List.set_cons_succ]
            refine wpAnyH_take (i := 1) (v := ?_) rfl (by kernel_rfl) (by kernel_rfl) (by kernel_rfl) (fun _ _ _ h => h) (Or.inl ⟨by rfl, fun w hSw => ?_⟩) hHeld ?_
            rotate_left
            · ((try dsimp only at hSw); go_split_ands; go_simp; (try with_reducible rfl))
            try simp only [Act.put, List.getElem_toArray, List.getElem_cons_zero, List.getElem_cons_succ, List.setIfInBounds_toArray, List.set_cons_zero, List.set_cons_succ]
            refine wpAnyH_take (i := 2) (v := ?_) rfl (by kernel_rfl) (by kernel_rfl) (by kernel_rfl) (fun _ _ _ h => h) (Or.inl ⟨by rfl, fun w hSw => ?_⟩) hHeld ?_
            rotate_left
            · ((try dsimp only at hSw); go_split_ands; go_simp; (try with_reducible rfl))
            try simp only [Act.put, List.getElem_toArray, List.getElem_cons_zero, List.getElem_cons_succ, List.setIfInBounds_toArray, List.set_cons_zero, List.set_cons_succ]
            refine wpAnyH_take (i := 3) (v := ?_) rfl (by kernel_rfl) (by kernel_rfl) (by kernel_rfl) (fun _ _ _ h => h) (Or.inl ⟨by rfl, fun w hSw => ?_⟩) hHeld ?_
            rotate_left
            · ((try dsimp only at hSw); go_split_ands; go_simp; (try with_reducible rfl))
            try simp only [Act.put, List.getElem_toArray, List.getElem_cons_zero, List.getElem_cons_succ, List.setIfInBounds_toArray, List.set_cons_zero, List.set_cons_succ]
            refine wpAnyH_take (i := 4) (v := ?_) rfl (by kernel_rfl) (by kernel_rfl) (by kernel_rfl) (fun _ _ _ h => h) (Or.inl ⟨by rfl, fun w hSw => ?_⟩) hHeld ?_
            rotate_left
            · ((try dsimp only at hSw); go_split_ands; go_simp; (try with_reducible rfl))
            try simp only [Act.put, List.getElem_toArray, List.getElem_cons_zero, List.getElem_cons_succ, List.setIfInBounds_toArray, List.set_cons_zero, List.set_cons_succ]
            refine wpAnyH_take (i := 5) (v := ?_) rfl (by kernel_rfl) (by kernel_rfl) (by kernel_rfl) (fun _ _ _ h => h) (Or.inl ⟨by rfl, fun w hSw => ?_⟩) hHeld ?_
            rotate_left
            · ((try dsimp only at hSw); go_split_ands; go_simp; (try with_reducible rfl))
            try simp only [Act.put, List.getElem_toArray, List.getElem_cons_zero, List.getElem_cons_succ, List.setIfInBounds_toArray, List.set_cons_zero, List.set_cons_succ]
            refine wpAnyH_take (i := 6) (v := ?_) rfl (by kernel_rfl) (by kernel_rfl) (by kernel_rfl) (fun _ _ _ h => h) (Or.inl ⟨by rfl, fun w hSw => ?_⟩) hHeld ?_
            rotate_left
            · ((try dsimp only at hSw); go_split_ands; go_simp; (try with_reducible rfl))
            try simp only [Act.put, List.getElem_toArray, List.getElem_cons_zero, List.getElem_cons_succ, List.setIfInBounds_toArray, List.set_cons_zero, List.set_cons_succ]
            refine wpAnyH_take (i := 7) (v := ?_) rfl (by kernel_rfl) (by kernel_rfl) (by kernel_rfl) (fun _ _ _ h => h) (Or.inl ⟨by rfl, fun w hSw => ?_⟩) hHeld ?_
            rotate_left
            · ((try dsimp only at hSw); go_split_ands; go_simp; (try with_reducible rfl))
            try simp only [Act.put, List.getElem_toArray, List.getElem_cons_zero, List.getElem_cons_succ, List.setIfInBounds_toArray, List.set_cons_zero, List.set_cons_succ]
            refine wpAnyH_take (i := 8) (v := undef) rfl (by kernel_rfl) (by kernel_rfl) (by kernel_rfl) (fun _ _ _ h => h) (Or.inr ⟨by rfl, rfl⟩) hHeld ?_
            try simp only [Act.put, List.getElem_toArray, List.getElem_cons_zero, List.getElem_cons_succ, List.setIfInBounds_toArray, List.set_cons_zero, List.set_cons_succ]
            refine wpAnyH_take (i := 9) (v := undef) rfl (by kernel_rfl) (by kernel_rfl) (by kernel_rfl) (fun _ _ _ h => h) (Or.inr ⟨by rfl, rfl⟩) hHeld ?_
            try simp only [Act.put, List.getElem_toArray, List.getElem_cons_zero, List.getElem_cons_succ, List.setIfInBounds_toArray, List.set_cons_zero, List.set_cons_succ]
            refine wpAnyH_take (i := 10) (v := undef) rfl (by kernel_rfl) (by kernel_rfl) (by kernel_rfl) (fun _ _ _ h => h) (Or.inr ⟨by rfl, rfl⟩) hHeld ?_
            try simp only [Act.put, List.getElem_toArray, List.getElem_cons_zero, List.getElem_cons_succ, List.setIfInBounds_toArray, List.set_cons_zero, List.set_cons_succ]
            refine wpAnyH_take (i := 11) (v := undef) rfl (by kernel_rfl) (by kernel_rfl) (by kernel_rfl) (fun _ _ _ h => h) (Or.inr ⟨by rfl, rfl⟩) hHeld ?_
            try simp only [Act.put, List.getElem_toArray, List.getElem_cons_zero, List.getElem_cons_succ, List.setIfInBounds_toArray, List.set_cons_zero, List.set_cons_succ]
            refine wpAnyH_take (i := 12) (v := undef) rfl (by kernel_rfl) (by kernel_rfl) (by kernel_rfl) (fun _ _ _ h => h) (Or.inr ⟨by rfl, rfl⟩) hHeld ?_
            try simp only [Act.put, List.getElem_toArray, List.getElem_cons_zero, List.getElem_cons_succ, List.setIfInBounds_toArray, List.set_cons_zero, List.set_cons_succ]
            refine wpAnyH_take (i := 13) (v := undef) rfl (by kernel_rfl) (by kernel_rfl) (by kernel_rfl) (fun _ _ _ h => h) (Or.inr ⟨by rfl, rfl⟩) hHeld ?_
            try simp only [Act.put, List.getElem_toArray, List.getElem_cons_zero, List.getElem_cons_succ, List.setIfInBounds_toArray, List.set_cons_zero, List.set_cons_succ]
            refine wpAnyH_take (i := 14) (v := undef) rfl (by kernel_rfl) (by kernel_rfl) (by kernel_rfl) (fun _ _ _ h => h) (Or.inr ⟨by rfl, rfl⟩) hHeld ?_
            try simp only [Act.put, List.getElem_toArray, List.getElem_cons_zero, List.getElem_cons_succ, List.setIfInBounds_toArray, List.set_cons_zero, List.set_cons_succ]
            refine wpAnyH_take (i := 15) (v := undef) rfl (by kernel_rfl) (by kernel_rfl) (by kernel_rfl) (fun _ _ _ h => h) (Or.inr ⟨by rfl, rfl⟩) hHeld ?_
            try simp only [Act.put, List.getElem_toArray, List.getElem_cons_zero, List.getElem_cons_succ, List.setIfInBounds_toArray, List.set_cons_zero, List.set_cons_succ]
            refine wpAnyH_take (i := 16) (v := undef) rfl (by kernel_rfl) (by kernel_rfl) (by kernel_rfl) (fun _ _ _ h => h) (Or.inr ⟨by rfl, rfl⟩) hHeld ?_
            try simp only [Act.put, List.getElem_toArray, List.getElem_cons_zero, List.getElem_cons_succ, List.setIfInBounds_toArray, List.set_cons_zero, List.set_cons_succ]
            refine wpAnyH_take (i := 17) (v := ?_) rfl (by kernel_rfl) (by kernel_rfl) (by kernel_rfl) (fun _ _ _ h => h) (Or.inl ⟨by rfl, fun w hSw => ?_⟩) hHeld ?_
            rotate_left
            · ((try dsimp only at hSw); go_split_ands; go_simp; (try with_reducible rfl))
            try simp only [Act.put, List.getElem_toArray, List.getElem_cons_zero, List.getElem_cons_succ, List.setIfInBounds_toArray, List.set_cons_zero, List.set_cons_succ]
            refine wpAnyH_done (by kernel_rfl) ?_ _
            refine NoPanic.normal ?_
            have k0d := k0.drew
            have HBd := Lib.hid HB.out.drew
            clear g0 g1 hHeld
            go_wp2_with fail
            go_round
            case rel => exact ⟨k + 1, by omega, by go_num, HA2, k0d, HBd.out⟩
            case measure => simp [intOf]; omega
          have hkb : (x.kind == 2) = true := by simpa using hkd
          have HKD := Lib.hid hkd
          clear hkd
          go_wp2_with fail
          clear qk0 rk0 lk0
          refine wp_region_noPanic ?_
          refine wp_region_held_drew (S := (fun w' => (∀ i, w'.cell? ⟨w.heap.size, i, none⟩ = #[.slice A1 a.facts.length c1, .slice (some ⟨b, off, none⟩) a.atoms.length c2][i]?) ∧ w'.cell? ⟨b, off + k * 3, none⟩ = some (.int .i64 x.kind) ∧ w'.cell? ⟨b, off + k * 3 + 1, none⟩ = some (.int .i64 x.a))) (by kernel_rfl) (⟨k0.drew.cell, g0, g1⟩) (fun hHeld => ?_)
          refine wpAnyH_take (i := 0) (v := ?_) rfl (by kernel_rfl) (by kernel_rfl) (by kernel_rfl) (fun _ _ _ h => h) (Or.inl ⟨by rfl, fun w hSw => ?_⟩) hHeld ?_
          rotate_left
          · ((try dsimp only at hSw); go_split_ands; go_simp; (try with_reducible rfl))
          try simp only [Act.put, List.getElem_toArray, List.getElem_cons_zero, List.getElem_cons_succ, List.setIfInBounds_toArray, List.set_cons_zero, List.set_cons_succ]
          refine wpAnyH_take (i := 1) (v := ?_) rfl (by kernel_rfl) (by kernel_rfl) (by kernel_rfl) (fun _ _ _ h => h) (Or.inl ⟨by rfl, fun w hSw => ?_⟩) hHeld ?_
          rotate_left
          · ((try dsimp only at hSw); go_split_ands; go_simp; (try with_reducible rfl))
          try simp only [Act.put, List.getElem_toArray, List.getElem_cons_zero, List.getElem_cons_succ, List.setIfInBounds_toArray, List.set_cons_zero, List.set_cons_succ]
          refine wpAnyH_take (i := 2) (v := ?_) rfl (by kernel_rfl) (by kernel_rfl) (by kernel_rfl) (fun _ _ _ h => h) (Or.inl ⟨by rfl, fun w hSw => ?_⟩) hHeld ?_
          rotate_left
          · ((try dsimp only at hSw); go_split_ands; go_simp; (try with_reducible rfl))
          try simp only [Act.put, List.getElem_toArray, List.getElem_cons_zero, List.getElem_cons_succ, List.setIfInBounds_toArray, List.set_cons_zero, List.set_cons_succ]
          refine wpAnyH_take (i := 3) (v := ?_) rfl (by kernel_rfl) (by kernel_rfl) (by kernel_rfl) (fun _ _ _ h => h) (Or.inl ⟨by rfl, fun w hSw => ?_⟩) hHeld ?_
          rotate_left
          · ((try dsimp only at hSw); go_split_ands; go_simp; (try with_reducible rfl))
          try simp only [Act.put, List.getElem_toArray, List.getElem_cons_zero, List.getElem_cons_succ, List.setIfInBounds_toArray, List.set_cons_zero, List.set_cons_succ]
          refine wpAnyH_take (i := 4) (v := ?_) rfl (by kernel_rfl) (by kernel_rfl) (by kernel_rfl) (fun _ _ _ h => h) (Or.inl ⟨by rfl, fun w hSw => ?_⟩) hHeld ?_
          rotate_left
          · ((try dsimp only at hSw); go_split_ands; go_simp; (try with_reducible rfl))
          try simp only [Act.put, List.getElem_toArray, List.getElem_cons_zero, List.getElem_cons_succ, List.setIfInBounds_toArray, List.set_cons_zero, List.set_cons_succ]
          refine wpAnyH_take (i := 5) (v := ?_) rfl (by kernel_rfl) (by kernel_rfl) (by kernel_rfl) (fun _ _ _ h => h) (Or.inl ⟨by rfl, fun w hSw => ?_⟩) hHeld ?_
          rotate_left
          · ((try dsimp only at hSw); go_split_ands; go_simp; (try with_reducible rfl))
          try simp only [Act.put, List.getElem_toArray, List.getElem_cons_zero, List.getElem_cons_succ, List.setIfInBounds_toArray, List.set_cons_zero, List.set_cons_succ]
          refine wpAnyH_take (i := 6) (v := ?_) rfl (by kernel_rfl) (by kernel_rfl) (by kernel_rfl) (fun _ _ _ h => h) (Or.inl ⟨by rfl, fun w hSw => ?_⟩) hHeld ?_
          rotate_left
          · ((try dsimp only at hSw); go_split_ands; go_simp; (try with_reducible rfl))
          try simp only [Act.put, List.getElem_toArray, List.getElem_cons_zero, List.getElem_cons_succ, List.setIfInBounds_toArray, List.set_cons_zero, List.set_cons_succ]
          refine wpAnyH_take (i := 7) (v := ?_) rfl (by kernel_rfl) (by kernel_rfl) (by kernel_rfl) (fun _ _ _ h => h) (Or.inl ⟨by rfl, fun w hSw => ?_⟩) hHeld ?_
          rotate_left
          · ((try dsimp only at hSw); go_split_ands; go_simp; (try with_reducible rfl))
          try simp only [Act.put, List.getElem_toArray, List.getElem_cons_zero, List.getElem_cons_succ, List.setIfInBounds_toArray, List.set_cons_zero, List.set_cons_succ]
          refine wpAnyH_take (i := 8) (v := ?_) rfl (by kernel_rfl) (by kernel_rfl) (by kernel_rfl) (fun _ _ _ h => h) (Or.inl ⟨by rfl, fun w hSw => ?_⟩) hHeld ?_
          rotate_left
          · ((try dsimp only at hSw); go_split_ands; go_simp; (try with_reducible rfl))
          try simp only [Act.put, List.getElem_toArray, List.getElem_cons_zero, List.getElem_cons_succ, List.setIfInBounds_toArray, List.set_cons_zero, List.set_cons_succ]
          refine wpAnyH_take (i := 9) (v := ?_) rfl (by kernel_rfl) (by kernel_rfl) (by kernel_rfl) (fun _ _ _ h => h) (Or.inl ⟨by rfl, fun w hSw => ?_⟩) hHeld ?_
          rotate_left
          · ((try dsimp only at hSw); go_split_ands; go_simp; (try with_reducible rfl))
          try simp only [Act.put, List.getElem_toArray, List.getElem_cons_zero, List.getElem_cons_succ, List.setIfInBounds_toArray, List.set_cons_zero, List.set_cons_succ]
          refine wpAnyH_take (i := 10) (v := ?_) rfl (by kernel_rfl) (by kernel_rfl) (by kernel_rfl) (fun _ _ _ h => h) (Or.inl ⟨by rfl, fun w hSw => ?_⟩) hHeld ?_
          rotate_left
          · ((try dsimp only at hSw); go_split_ands; go_simp; (try with_reducible rfl))
          try simp only [Act.put, List.getElem_toArray, List.getElem_cons_zero, List.getElem_cons_succ, List.setIfInBounds_toArray, List.set_cons_zero, List.set_cons_succ]
          refine wpAnyH_take (i := 11) (v := ?_) rfl (by kernel_rfl) (by kernel_rfl) (by kernel_rfl) (fun _ _ _ h => h) (Or.inl ⟨by rfl, fun w hSw => ?_⟩) hHeld ?_
          rotate_left
          · ((try dsimp only at hSw); go_split_ands; go_simp; (try with_reducible rfl))
          try simp only [Act.put, List.getElem_toArray, List.getElem_cons_zero, List.getElem_cons_succ, List.setIfInBounds_toArray, List.set_cons_zero, List.set_cons_succ]
          refine wpAnyH_take (i := 12) (v := ?_) rfl (by kernel_rfl) (by kernel_rfl) (by kernel_rfl) (fun _ _ _ h => h) (Or.inl ⟨by rfl, fun w hSw => ?_⟩) hHeld ?_
          rotate_left
          · ((try dsimp only at hSw); go_split_ands; go_simp; (try with_reducible rfl))
          try simp only [Act.put, List.getElem_toArray, List.getElem_cons_zero, List.getElem_cons_succ, List.setIfInBounds_toArray, List.set_cons_zero, List.set_cons_succ]
          refine wpAnyH_take (i := 13) (v := ?_) rfl (by kernel_rfl) (by kernel_rfl) (by kernel_rfl) (fun _ _ _ h => h) (Or.inl ⟨by rfl, fun w hSw => ?_⟩) hHeld ?_
          rotate_left
          · ((try dsimp only at hSw); go_split_ands; go_simp; (try with_reducible rfl))
          try simp only [Act.put, List.getElem_toArray, List.getElem_cons_zero, List.getElem_cons_succ, List.setIfInBounds_toArray, List.set_cons_zero, List.set_cons_succ]
          refine wpAnyH_take (i := 14) (v := ?_) rfl (by kernel_rfl) (by kernel_rfl) (by kernel_rfl) (fun _ _ _ h => h) (Or.inl ⟨by rfl, fun w hSw => ?_⟩) hHeld ?_
          rotate_left
          · ((try dsimp only at hSw); go_split_ands; go_simp; (try with_reducible rfl))
          try simp only [Act.put, List.getElem_toArray, List.getElem_cons_zero, List.getElem_cons_succ, List.setIfInBounds_toArray, List.set_cons_zero, List.set_cons_succ]
          refine wpAnyH_take (i := 15) (v := ?_) rfl (by kernel_rfl) (by kernel_rfl) (by kernel_rfl) (fun _ _ _ h => h) (Or.inl ⟨by rfl, fun w hSw => ?_⟩) hHeld ?_
          rotate_left
          · ((try dsimp only at hSw); go_split_ands; go_simp; (try with_reducible rfl))
          try simp only [Act.put, List.getElem_toArray, List.getElem_cons_zero, List.getElem_cons_succ, List.setIfInBounds_toArray, List.set_cons_zero, List.set_cons_succ]
          refine wpAnyH_ready (rs := [16]) (by kernel_rfl) (by simp) ?_
          refine AllReadyH.cons rfl (fun K hK => ?_) AllReadyH.nil
          try simp only [List.getElem_toArray, List.getElem_cons_zero, List.getElem_cons_succ]
          (go_simp; refine (c_l10Equal _ a x.a t _ (hV.out.V.below HB.out.drew)).mono ?_; rintro e w3 ⟨rfl, hB3⟩; replace hB3 : Below wr.heap.size wr w3 := (Below.refl _ _).drew.trans hB3; have k3 := k0.next hB3; have HB3 := Lib.hid (bgo HB.out hB3); have q0 := (hB3.cell (p := ⟨b, off + k * 3, none⟩) hbl).trans g0; have q1 := (hB3.cell (p := ⟨b, off + k * 3 + 1, none⟩) hbl).trans g1)
          refine hK.out _ _ (⟨k3.cell, q0, q1⟩) (fun hHeldN => ?_)
          clear hHeld hK K
          have hHeld := hHeldN
          clear hHeldN
          try simp only [Act.put, List.getElem_toArray, List.getElem_cons_zero, List.getElem_cons_succ, List.setIfInBounds_toArray, List.set_cons_zero, List.set_cons_succ]
          refine wpAnyH_take (i := 17) (v := ?_) rfl (by kernel_rfl) (by kernel_rfl) (by kernel_rfl) (fun _ _ _ h => h) (Or.inl ⟨by rfl, fun w hSw => ?_⟩) hHeld ?_
          rotate_left
          · ((try dsimp only at hSw); go_split_ands; go_simp; (try with_reducible rfl))
          try simp only [Act.put, List.getElem_toArray, List.getElem_cons_zero, List.getElem_cons_succ, List.setIfInBounds_toArray, List.set_cons_zero, List.set_cons_succ]
          refine wpAnyH_done (by kernel_rfl) ?_ _
          refine NoPanic.normal ?_
          have hz3 := hB3.size
          clear hB3 k0 HB hkb hHeld g0 g1 q0 q1
          cases him : impB a ⟨true, x.a, t⟩
          · have HA2 : Hid (∀ j, j < k + 1 → findP a 2 t j = false) := Lib.hid fun j hj => by
              by_cases e : j = k
              · rw [e, HP.out, him]; simp
              · exact HA.out j (by omega)
            clear HA HP him
            go_wp2_with fail
            go_round
            case rel => exact ⟨k + 1, by omega, by go_num, HA2, k3, HB3.out⟩
            case measure => simp [intOf]; omega
          have HFK := Lib.hid (findK_yes hlt HA.out (by rw [HP.out, him, HKD.out]; rfl))
          have E := Lib.hid (expose_list (n := n) (K := Ks) HV.out HC.out HF1.out HFK.out HXK.out)
          have HUN := Lib.hid (HLL.out k x HV.out HF1.out HFK.out HXK.out HKD.out him)
          clear HA HP him HFK HXK
          (replace qk3 := k3.cell; replace rk3 := k3.frozen; replace lk3 := k3.lt)
          go_wp2_with fail
          refine (HUN.out lo hi lo' hi' _ B cB _ (hV.out.below HB3.out) (HFL.out.below HB3.out)).mono ?_
          rintro e w4 ⟨r, vs, l, rfl, oR, hll, hRR, hB4⟩
          have OR := Lib.hid oR
          obtain ⟨R1, r1, rfl⟩ := oR.form
          have HLL4 := Lib.hid hll
          have HRR := Lib.hid hRR
          have HB4 := Lib.hid (bgo HB3.out hB4)
          have hz4 := hB4.size
          clear oR hll hRR hB4
          go_wp2_with fail
          go_ret2
          exact ⟨_, vs, l, by rw [E.out]; rfl, OR.out.lower (by omega), HLL4.out, by rw [E.out]; exact HRR.out, HB4.out⟩
        · obtain rfl : k = a.atoms.length := by omega
          have E := Lib.hid (expose_none (n := n) (K := Ks) HV.out HC.out HF1.out (findK_no (fun j hj => HA.out j hj)))
          clear HA
          (replace qk0 := k0.cell; replace rk0 := k0.frozen; replace lk0 := k0.lt)
          go_wp2_with fail
          go_ret2
          exact ⟨_, [], [], by rw [E.out]; rfl, (A2O.empty wr rfl).lower hzr, Nat.zero_le _, .inl E.out, bbox HB.out _⟩

theorem c_l10Open : ∀ (n : Nat), n ≤ 7 → ∀ (a : Asn) (t : Int) (K : Nat), OpC n a t K
  | 0, _, a, t, K => c_l10Open_zero a t K
  | n + 1, hn, a, t, K => c_l10Open_step n a t K (by omega) fun i x hv _ _ hx _ _ => c_l10Unfold n a x i t K hv hx (by omega) (c_l10Open n (by omega) _ t K) fun m => c_l10Open n (by omega) _ t K
--@
end Go.Proofs.YtlmjjflalmegfaaGreat

/- Exposing cells: spec.ExposeCell. -/
namespace Go.Proofs.YtlmjjflalmegfaaGreat
open Go Go.RowKit Go.Proofs
attribute [local go_sem ↓] Go.wp_at_zero Go.wp_at_succ

theorem BoolsO.readsI9 {w : World} {base : Nat} {A : Option Addr} {n c : Nat} {fs : List Bool} (h : BoolsO w base (.slice A n c) fs) : BoolsV w base w.heap.size A fs := by
  obtain ⟨A', c', e, h1⟩ := h.reads
  injection e with e1 e2 e3
  subst e1
  exact h1
theorem AsnI.readsC {w : World} {lo hi : Nat} {v : Value} {x : Asn} (h : AsnI w lo hi v x) : AsnC w lo w.heap.size v x := by
  obtain ⟨fv, av, e, h1, h2⟩ := h; exact AsnO.C ⟨fv, av, e, h1.1, h2.1⟩
--@ spec.ExposeCell
end Go.Proofs.YtlmjjflalmegfaaGreat

/- Exposing a cell is exact: the results entail the assertion, and one of them holds where it does. Plain; no program. -/
namespace Go.Proofs.YtlmjjflalmegfaaGreat
open Go Go.RowKit

section
variable {M : Int → Int} {F G G' : List Atm} {a : Asn} {x : Atm} {i : Nat} {t m : Int}
theorem Cover.mk {css : List (List Atm)} (h : Covs M F G css) (hp : F.Perm css.flatten) (hn : (F.map fun y => M y.a).Nodup) : Cover M F G := by
  have hs := covs_starts G css h
  obtain ⟨g, g1, g2⟩ := covs_fun G css h (((hp.map fun y => M y.a).nodup_iff.1 hn).sublist hs)
  exact ⟨g, g2, by rw [← g1]; exact hp⟩
theorem cov_self (y : Atm) : CovM M F y [y] := by
  unfold CovM
  split
  · exact ⟨y, rfl, rfl⟩
  · exact ⟨rfl, .inl ⟨rfl, rfl⟩⟩
theorem covs_self : ∀ (G : List Atm), Covs M F G (G.map fun y => [y])
  | [] => trivial
  | y :: G => ⟨cov_self y, covs_self G⟩
theorem flat_self : ∀ (G : List Atm), (G.map fun y => [y]).flatten = G
  | [] => rfl
  | y :: G => by simp [flat_self G]
theorem Cover.permG (h : Cover M F G) (hp : G.Perm G') : Cover M F G' := by
  obtain ⟨g, h1, h2⟩ := h
  exact ⟨g, fun x hx => h1 x (hp.mem_iff.2 hx), h2.trans (hp.flatMap_right g)⟩
theorem fill_perm (hx : a.atoms[i]? = some x) : (a.atoms.filter (fillM M)).Perm ((x :: withoutL a.atoms i).filter (fillM M)) := (without_perm hx).filter _
theorem cell_fill {p q : Int} : fillM M ⟨1, p, q⟩ = true := rfl
theorem ent_ofCell (hx : a.atoms[i]? = some x) (hk : x.kind = 1) (hs : Sat M (cellX a x i t)) : M x.a = M t ∧ EntM M (cellX a x i t) a := by
  have hfx : fillM M x = true := by unfold fillM; rw [decide_eq_true hk]; rfl
  have ht : M x.a = M t := by
    by_cases e : x.a = t
    · rw [e]
    · exact of_decide_eq_true (hs.facts ⟨true, x.a, t⟩ (by simp [cellX, e]))
  refine ⟨ht, fun f hf => hs.facts f (by simp [cellX, hf]), ?_⟩
  have hp := fill_perm (M := M) hx
  rw [List.filter_cons_of_pos hfx] at hp
  have hn := hs.apart
  simp only [cellX] at hn ⊢
  rw [List.filter_cons_of_pos cell_fill] at hn ⊢
  refine (Cover.mk (G := x :: (withoutL a.atoms i).filter (fillM M)) (css := [⟨1, t, x.b⟩] :: ((withoutL a.atoms i).filter (fillM M)).map fun y => [y]) ⟨?_, covs_self _⟩ (by rw [List.flatten_cons, flat_self]; exact List.Perm.refl _) hn).permG hp.symm
  unfold CovM
  rw [if_pos hk]
  exact ⟨_, rfl, by simp [clsM, hk, ht]⟩
theorem unfill (hk : x.kind = 2) (he : M x.a = M x.b) : fillM M x = false := by
  unfold fillM; rw [decide_eq_false (by omega), decide_eq_true he]; rfl
theorem ent_ofEmpty (hx : a.atoms[i]? = some x) (hk : x.kind = 2) (hs : Sat M (emptyX a x i)) : EntM M (emptyX a x i) a := by
  have he : M x.a = M x.b := of_decide_eq_true (hs.facts ⟨true, x.a, x.b⟩ (by simp [emptyX]))
  refine ⟨fun f hf => hs.facts f (by simp [emptyX, hf]), ?_⟩
  have hp := fill_perm (M := M) hx
  rw [List.filter_cons_of_neg (by simp [unfill hk he])] at hp
  exact Cover.perm hp.symm
theorem ent_ofFull (hx : a.atoms[i]? = some x) (hk : x.kind = 2) (hs : Sat M (fullX a x i m)) : EntM M (fullX a x i m) a := by
  have hne : decide (M x.a = M x.b) = false := hs.facts ⟨false, x.a, x.b⟩ (by simp [fullX])
  have hfx : fillM M x = true := by unfold fillM; rw [hne]; simp
  have hn := hs.apart
  refine ⟨fun f hf => hs.facts f (by simp [fullX, hf]), ?_⟩
  have hp := fill_perm (M := M) hx
  rw [List.filter_cons_of_pos hfx] at hp
  simp only [fullX] at hn ⊢
  rw [List.filter_append, List.filter_append, List.filter_cons_of_pos cell_fill, List.filter_nil] at hn ⊢
  refine Cover.permG ?_ hp.symm
  cases hfl : fillM M ⟨2, m, x.b⟩
  · have hmb : M m = M x.b := by simpa [fillM] using hfl
    rw [List.filter_cons_of_neg (by simp [hfl]), List.filter_nil, List.append_nil] at hn ⊢
    refine Cover.mk (css := [⟨1, x.a, m⟩] :: ((withoutL a.atoms i).filter (fillM M)).map fun y => [y]) ⟨?_, covs_self _⟩ (by rw [List.flatten_cons, flat_self]; done) hn
    unfold CovM
    rw [if_neg (by omega)]
    exact ⟨rfl, .inl ⟨rfl, hmb⟩⟩
  · have hmb : M m ≠ M x.b := by simpa [fillM] using hfl
    rw [List.filter_cons_of_pos hfl, List.filter_nil] at hn ⊢
    refine Cover.mk (css := [⟨1, x.a, m⟩, ⟨2, m, x.b⟩] :: ((withoutL a.atoms i).filter (fillM M)).map fun y => [y]) ⟨?_, covs_self _⟩ ?_ hn
    · unfold CovM
      rw [if_neg (by omega)]
      exact ⟨rfl, .inr ⟨by simp, hmb, fun (h : (1 : Int) = 2) => absurd h (by decide), rfl, .inl ⟨rfl, rfl⟩⟩⟩
    · rw [List.flatten_cons, flat_self]
      simp only [List.singleton_append, List.cons_append, List.nil_append]
      exact (List.perm_append_singleton _ _).cons _
end
theorem expose_valid {n : Nat} {a : Asn} {t : Int} {K : Nat} {l : List Asn} (h : exposeF n a t K = some l) : a.valid = true := by
  cases hv : a.valid
  · rw [expose_bad hv] at h; cases h
  · rfl
/-- what an exposed assertion is like -/
theorem expose_ent : ∀ (n : Nat) (a : Asn) (t : Int) (K : Nat) (l : List Asn), exposeF n a t K = some l → ∀ e ∈ l, e.valid = true ∧ (∀ M, Sat M e → EntM M e a) ∧ ∃ b rest, e.atoms = ⟨1, t, b⟩ :: rest
  | 0, _, _, _, _, h => by cases h
  | n + 1, a, t, K, l, h => by
    intro e he
    have hv := expose_valid h
    cases hc : consB a
    · rw [expose_no hv hc] at h
      obtain rfl := Option.some.inj h
      cases he
    cases hf : findK a 1 t with
    | some i =>
      obtain ⟨x, hx, hk, -, -⟩ := find_some hf
      rw [expose_cell hv hc hf hx] at h
      split at h
      · rename_i hcv
        obtain rfl := Option.some.inj h
        obtain rfl := List.mem_singleton.1 he
        exact ⟨hcv, fun M hM => (ent_ofCell hx hk hM).2, _, _, rfl⟩
      · cases h
    | none =>
      cases hg : findK a 2 t with
      | none => rw [expose_none hv hc hf hg] at h; cases h
      | some i =>
        obtain ⟨x, hx, hk, -, -⟩ := find_some hg
        rw [expose_list hv hc hf hg hx] at h
        unfold listF at h
        split at h
        · cases h
        · rename_i m hm
          split at h
          · cases h
          · rename_i l1 h1
            split at h
            · cases h
            · rename_i l2 h2
              obtain rfl := Option.some.inj h
              rcases List.mem_append.1 he with he | he
              · obtain ⟨g1, g2, g3⟩ := expose_ent n _ _ _ _ h1 e he
                exact ⟨g1, fun M hM => (g2 M hM).trans (ent_ofEmpty hx hk ((g2 M hM).sat hM)) hM (expose_valid h1), g3⟩
              · obtain ⟨g1, g2, g3⟩ := expose_ent n _ _ _ _ h2 e he
                exact ⟨g1, fun M hM => (g2 M hM).trans (ent_ofFull hx hk ((g2 M hM).sat hM)) hM (expose_valid h2), g3⟩
end Go.Proofs.YtlmjjflalmegfaaGreat
