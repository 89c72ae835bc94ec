/- Symbolic execution: impl.assigned, impl.allocatedFor. Printed by genSymJ.py. -/
import Derived.Test.YtlmjjflalmegfaaGreatSymI
import Derived.Test.YtlmjjflalmegfaaGreatAsnAt
import Derived.Deep.DeepCutAuto
set_option linter.unusedSimpArgs false
set_option linter.unusedVariables false
namespace Go.Proofs.YtlmjjflalmegfaaGreat
open Go Go.RowKit Go.Proofs
attribute [local go_sem ↓] Go.wp_at_zero Go.wp_at_succ

theorem forget_len {a b : Asn} {x p : Int} {K : Nat} (h : forgetF a x K = some (b, p)) : b.facts.length = a.facts.length := by
  unfold forgetF at h
  split at h
  · obtain ⟨n, -, e⟩ := Option.map_eq_some_iff.1 h
    injection e with e1 e2
    rw [← e1]; simp [substA]
  · injection h with h
    injection h with e1 e2
    rw [e1]
theorem forget_alen {a b : Asn} {x p : Int} {K : Nat} (h : forgetF a x K = some (b, p)) : b.atoms.length = a.atoms.length := by
  unfold forgetF at h
  split at h
  · obtain ⟨n, -, e⟩ := Option.map_eq_some_iff.1 h
    injection e with e1 e2
    rw [← e1]; simp [substA]
  · injection h with h
    injection h with e1 e2
    rw [e1]
theorem AsnO.mkA {w : World} {base : Nat} {F G G' : Option Addr} {f g g' n n' : Nat} {b : Asn} {ys : List Atm} {m : Nat} (h : AsnO w base (.agg #[.slice F n f, .slice G n' g]) b) (h2 : AtomsO w base (.slice G' m g') ys) : AsnO w base (.agg #[.slice F n f, .slice G' m g']) ⟨b.facts, ys⟩ := by
  obtain ⟨fv, av, e, p1, p2⟩ := h
  injection e with e
  injection e with e
  injection e with e1 e2
  subst e1
  exact ⟨_, _, rfl, p1, h2⟩
/-- an assertion that is there if there is one -/
def OptO (w : World) (base : Nat) (r : Value) (o : Option Asn) : Prop := (∃ F n f G m g, r = .agg #[.slice F n f, .slice G m g]) ∧ ∀ b, o = some b → AsnO w base r b
theorem OptO.none (w : World) (base : Nat) : OptO w base (.agg #[.slice .none 0 0, .slice .none 0 0]) .none := ⟨⟨_, _, _, _, _, _, rfl⟩, fun _ h => by cases h⟩
theorem OptO.some {w : World} {base : Nat} {r : Value} {a : Asn} (h : AsnO w base r a) : OptO w base r (.some a) := by
  refine ⟨?_, fun b e => by obtain rfl := Option.some.inj e; exact h⟩
  obtain ⟨F, f, G, g, rfl⟩ := h.I.form
  exact ⟨_, _, _, _, _, _, rfl⟩
theorem OptO.okX {w : World} {base : Nat} {r : Value} {a : Asn} (h : AsnO w base r a) : OptO w base r (okX a) := by
  refine ⟨(OptO.some h).1, fun b e => ?_⟩
  rw [(okX_ok e).2]; exact h
theorem okX_some {a : Asn} : (okX a).isSome = a.valid := by unfold okX; split <;> simp_all
theorem AsnO.setT2 {w : World} {base : Nat} {v : Value} {a : Asn} (h : AsnO w base v a) {g : Nat} {cs : Array Value} (hk : Blk w g tAs cs) (u u' : Value) : AsnO ((w.setCell ⟨g, 0, none⟩ u).setCell ⟨g, 1, none⟩ u') base v a := by
  obtain ⟨fv, av, e, p1, p2⟩ := h
  exact ⟨fv, av, e, (p1.setT hk (by decide) _ _).setT (hk.set_ _ _) (by decide) _ _, (p2.setT hk (by decide) _ _).setT (hk.set_ _ _) (by decide) _ _⟩
theorem AsnO.atomsV {w : World} {base : Nat} {F G : Option Addr} {n m f g : Nat} {b : Asn} (h : AsnO w base (.agg #[.slice F n f, .slice G m g]) b) : AtomsV w base w.heap.size G b.atoms := by
  obtain ⟨A1, c1, A2, c2, e, h1, h2⟩ := h.reads
  injection e with e
  injection e with e
  injection e with e1 e2
  injection e2 with e2
  injection e2 with e2
  subst e2
  exact h2
--@ impl.assigned
theorem c_withFactX {lo hi : Nat} (v : Value) (b : Asn) (x p t : Int) (w : World) (h : AsnV w lo hi v b) (hn : b.facts.length + 1 ≤ 1049600) :
    Calls Tryz.prog 197 #[v, (⟨true, x, swp x p t⟩ : Fct).val] w fun e w' => ∃ F f G g, e = .returned (.agg #[.slice F (setX b x p t).facts.length f, .slice G (setX b x p t).atoms.length g]) ∧ AsnO w' w.heap.size (.agg #[.slice F (setX b x p t).facts.length f, .slice G (setX b x p t).atoms.length g]) (setX b x p t) ∧ Below w.heap.size w w' := by
  refine (c_impl_withFact v b ⟨true, x, swp x p t⟩ w h hn).mono ?_
  rintro e w' ⟨r, rfl, o, hB⟩
  obtain ⟨F, f, G, g, rfl⟩ := o.I.form
  exact ⟨F, f, G, g, rfl, o, hB⟩
--@ (impl.forgotten).term
set_option maxHeartbeats 1600000 in
theorem c_fTerm (vF vA : Value) (x p t : Int) (w : World) : Calls Tryz.prog 198 #[.agg #[vF, vA, .int .i64 x, .int .i64 p], .int .i64 t] w fun e w' => e = .returned (.int .i64 (swp x p t)) ∧ Below w.heap.size w w' := by
  go_enter Tryz.func198, Tryz.ntmps198
  go_wp2_with fail
  refine (c_replaceTerm t x p _).mono ?_
  rintro e w1 ⟨rfl, rfl⟩
  go_wp2_with fail
  go_ret
  exact ⟨rfl, bel⟩
--@ impl.assigned
set_option maxRecDepth 100000 in
set_option maxHeartbeats 3200000 in
theorem c_impl_assigned {lo hi : Nat} (v : Value) (a : Asn) (x t : Int) (K : Nat) (w : World) (h : AsnV w lo hi v a) (hK : K < 512) (hx : isTermB x = true) (hl : a.facts.length ≤ 1000) :
    Calls Tryz.prog 162 #[v, .int .i64 x, .int .i64 t, .int .u16 K] w fun e w' => ∃ r, e = .returned (.tuple #[r, .bool (assignF a x t K).isSome]) ∧ OptO w' w.heap.size r (assignF a x t K) ∧ Below w.heap.size w w' := by
  have hV := Lib.hid h
  obtain ⟨A1, c1, A2, c2, rfl, -, -⟩ := h
  go_enter Tryz.func162, Tryz.ntmps162
  have k0 : Blk ((w.alloc (.cells #[.slice A1 a.facts.length c1, .slice A2 a.atoms.length c2] tAs)).alloc (.cells #[.slice none 0 0, .slice none 0 0] tAs)) w.heap.size tAs #[.slice A1 a.facts.length c1, .slice A2 a.atoms.length c2] := blks
  have k8 : Blk ((w.alloc (.cells #[.slice A1 a.facts.length c1, .slice A2 a.atoms.length c2] tAs)).alloc (.cells #[.slice none 0 0, .slice none 0 0] tAs)) (w.heap.size + 1) tAs #[.slice none 0 0, .slice none 0 0] := blks
  go_wp2_with fail
  refine (c_impl_forget _ a x K _ (hV.out.below bel) hK hx).mono ?_
  rintro e w1 ⟨hF, hB1⟩
  have hB := bgo (w := w) bel hB1
  replace k0 := k0.next hB1
  replace k8 := k8.next hB1
  have hz := hB1.size
  simp only [World.size_alloc] at hz
  clear hB1
  cases hf : forgetF a x K with
  | none =>
    rw [hf] at hF
    simp only [FgR] at hF
    subst hF
    have E : Hid (assignF a x t K = none) := Lib.hid (by unfold assignF; rw [hf]; rfl)
    clear hf
    (replace qk8 := k8.cell; replace rk8 := k8.frozen; replace lk8 := k8.lt)
    go_wp2_with fail
    refine bodyPost_ret (v := .tuple #[.agg #[.slice none 0 0, .slice none 0 0], .bool false]) (by simp [results, Tryz.results162, go_sem, qk8, lk8]) rfl ⟨_, by rw [E.out]; rfl, ?_, bel⟩
    rw [E.out]
    exact OptO.none _ _
  | some bp =>
    obtain ⟨b, p⟩ := bp
    rw [hf] at hF
    simp only [FgR] at hF
    obtain ⟨F, f, G, g, rfl, oB⟩ := hF
    have E : Hid (assignF a x t K = okX (setX b x p t)) := Lib.hid (by unfold assignF; rw [hf]; rfl)
    have HL : Hid (b.facts.length = a.facts.length) := Lib.hid (forget_len hf)
    have OB := Lib.hid (oB.lower (base' := w.heap.size) (by (try simp) <;> omega))
    clear hf oB
    (replace qk8 := k8.cell; replace rk8 := k8.frozen; replace lk8 := k8.lt)
    go_upto_region 4 with fail
    have k10 : Blk (w1.alloc (.cells #[.slice F b.facts.length f, .slice G b.atoms.length g, .int .i64 x, .int .i64 p] tFg)) w1.heap.size tFg #[.slice F b.facts.length f, .slice G b.atoms.length g, .int .i64 x, .int .i64 p] := blks
    have hBq : Below w1.heap.size w1 (w1.alloc (.cells #[.slice F b.facts.length f, .slice G b.atoms.length g, .int .i64 x, .int .i64 p] tFg)) := bbox (Below.refl _ _) _
    replace k8 := k8.next hBq
    replace OB := Lib.hid (OB.out.below hBq)
    have HB := Lib.hid (bgo hB hBq)
    have hk8 := k8.lt
    have hyW : w.heap.size + 2 ≤ w1.heap.size := by omega
    obtain ⟨y, hy⟩ : ∃ y, y = w1.heap.size := ⟨_, rfl⟩
    have hsW : (w1.alloc (.cells #[.slice F b.facts.length f, .slice G b.atoms.length g, .int .i64 x, .int .i64 p] tFg)).heap.size = y + 1 := by simp [hy]
    rw [← hy] at k10 hyW ⊢
    clear hBq k0 hB qk8 rk8 lk8
    generalize w1.alloc (.cells #[.slice F b.facts.length f, .slice G b.atoms.length g, .int .i64 x, .int .i64 p] tFg) = W at k8 k10 OB HB hsW hk8 ⊢
    clear hy
    have hlb : b.facts.length + 1 ≤ 1049600 := by rw [HL.out]; omega
    go_cut [12] (fun s12 wc => ∃ (xb : Nat) (F2 : Option Addr) (f2 : Nat) (G2 : Option Addr) (g2 : Nat), s12 = .pointer (some ⟨xb, 0, none⟩) ∧ Hid (AsnO wc w.heap.size (.agg #[.slice F2 (setX b x p t).facts.length f2, .slice G2 (setX b x p t).atoms.length g2]) (setX b x p t)) ∧ Blk wc xb tAs #[.slice F2 (setX b x p t).facts.length f2, .slice G2 (setX b x p t).atoms.length g2] ∧ Blk wc (w.heap.size + 1) tAs #[.slice none 0 0, .slice none 0 0] ∧ w.heap.size + 2 ≤ xb ∧ Hid (Below w.heap.size w wc))
    case first =>
      have lk10 := k10.lt
      go_wp2_with fail
      refine wp_region_noPanic ?_
      refine wp_region_held_drew (S := (fun w' => ∀ i, w'.cell? ⟨y, i, none⟩ = #[.slice F b.facts.length f, .slice G b.atoms.length g, .int .i64 x, .int .i64 p][i]?)) (by kernel_rfl) (k10.drew.cell) (fun hHeld => ?_)
      clear lk10
      replace k8 := k8.drew
      replace k10 := k10.drew
      replace OB := Lib.hid (OB.out.below (Below.refl _ _).drew)
      replace HB := Lib.hid HB.out.drew
      have hzq : W.heap.size ≤ W.drew.heap.size := Nat.le_refl _
      generalize W.drew = wq at k8 k10 OB HB hzq hHeld ⊢
      refine wpAnyH_take (i := 0) (v := ?_) rfl (by kernel_rfl) (by kernel_rfl) (by kernel_rfl) (fun _ _ _ h => h) (Or.inl ⟨by rfl, fun w hSw => ?_⟩) hHeld ?_
      rotate_left
      · ((try dsimp only at hSw); go_split_ands; go_simp; (try with_reducible rfl))
      try simp only [Act.put, List.getElem_toArray, List.getElem_cons_zero, List.getElem_cons_succ, List.setIfInBounds_toArray, List.set_cons_zero, List.set_cons_succ]
      refine wpAnyH_take (i := 1) (v := ?_) rfl (by kernel_rfl) (by kernel_rfl) (by kernel_rfl) (fun _ _ _ h => h) (Or.inl ⟨by rfl, fun w hSw => ?_⟩) hHeld ?_
      rotate_left
      · ((try dsimp only at hSw); go_split_ands; go_simp; (try with_reducible rfl))
      try simp only [Act.put, List.getElem_toArray, List.getElem_cons_zero, List.getElem_cons_succ, List.setIfInBounds_toArray, List.set_cons_zero, List.set_cons_succ]
      refine wpAnyH_take (i := 2) (v := ?_) rfl (by kernel_rfl) (by kernel_rfl) (by kernel_rfl) (fun _ _ _ h => h) (Or.inl ⟨by rfl, fun w hSw => ?_⟩) hHeld ?_
      rotate_left
      · ((try dsimp only at hSw); go_split_ands; go_simp; (try with_reducible rfl))
      try simp only [Act.put, List.getElem_toArray, List.getElem_cons_zero, List.getElem_cons_succ, List.setIfInBounds_toArray, List.set_cons_zero, List.set_cons_succ]
      refine wpAnyH_take (i := 3) (v := ?_) rfl (by kernel_rfl) (by kernel_rfl) (by kernel_rfl) (fun _ _ _ h => h) (Or.inl ⟨by rfl, fun w hSw => ?_⟩) hHeld ?_
      rotate_left
      · ((try dsimp only at hSw); go_split_ands; go_simp; (try with_reducible rfl))
      try simp only [Act.put, List.getElem_toArray, List.getElem_cons_zero, List.getElem_cons_succ, List.setIfInBounds_toArray, List.set_cons_zero, List.set_cons_succ]
      refine wpAnyH_take (i := 4) (v := ?_) rfl (by kernel_rfl) (by kernel_rfl) (by kernel_rfl) (fun _ _ _ h => h) (Or.inl ⟨by rfl, fun w hSw => ?_⟩) hHeld ?_
      rotate_left
      · ((try dsimp only at hSw); go_split_ands; go_simp; (try with_reducible rfl))
      try simp only [Act.put, List.getElem_toArray, List.getElem_cons_zero, List.getElem_cons_succ, List.setIfInBounds_toArray, List.set_cons_zero, List.set_cons_succ]
      refine wpAnyH_ready (rs := [5, 8]) (by kernel_rfl) (by simp) ?_
      refine AllReadyH.cons rfl (fun K hK => ?_) (AllReadyH.cons rfl (fun K hK => ?_) (AllReadyH.nil))
      · skip
        try simp only [List.getElem_toArray, List.getElem_cons_zero, List.getElem_cons_succ]
        go_simp
        refine (c_fTerm _ _ x p t _).mono ?_
        rintro e wq ⟨rfl, hBq⟩
        replace OB := Lib.hid (OB.out.below hBq)
        replace k8 := k8.next hBq
        replace k10 := k10.next hBq
        replace HB := Lib.hid (bgo HB.out hBq)
        replace hzq := Nat.le_trans hzq hBq.size
        clear hBq
        refine hK.out _ _ k10.cell (fun hHeldN => ?_)
        clear hHeld hK K
        have hHeld := hHeldN
        clear hHeldN
        refine wpAnyH_take (i := 6) (v := ?_) rfl (by kernel_rfl) (by kernel_rfl) (by kernel_rfl) (fun _ _ _ h => h) (Or.inl ⟨by rfl, fun w hSw => ?_⟩) hHeld ?_
        rotate_left
        · ((try dsimp only at hSw); go_split_ands; go_simp; (try with_reducible rfl))
        try simp only [Act.put, List.getElem_toArray, List.getElem_cons_zero, List.getElem_cons_succ, List.setIfInBounds_toArray, List.set_cons_zero, List.set_cons_succ]
        refine wpAnyH_ready (rs := [7, 8]) (by kernel_rfl) (by simp) ?_
        refine AllReadyH.cons rfl (fun K hK => ?_) (AllReadyH.cons rfl (fun K hK => ?_) (AllReadyH.nil))
        · skip
          try simp only [List.getElem_toArray, List.getElem_cons_zero, List.getElem_cons_succ]
          go_simp
          refine (c_withFactX _ b x p t _ OB.out.reads hlb).mono ?_
          rintro e wq ⟨F2, f2, G2, g2, rfl, oX, hBq⟩
          have OX := Lib.hid (oX.lower (base' := w.heap.size) (by omega))
          clear oX
          replace k8 := k8.next hBq
          replace k10 := k10.next hBq
          replace HB := Lib.hid (bgo HB.out hBq)
          replace hzq := Nat.le_trans hzq hBq.size
          clear hBq
          refine hK.out _ _ k10.cell (fun hHeldN => ?_)
          clear hHeld hK K
          have hHeld := hHeldN
          clear hHeldN
          refine wpAnyH_ready (rs := [8]) (by kernel_rfl) (by simp) ?_
          refine AllReadyH.cons rfl (fun K hK => ?_) AllReadyH.nil
          try simp only [List.getElem_toArray, List.getElem_cons_zero, List.getElem_cons_succ]
          go_simp
          refine hK.out _ _ ((rowC_ (bbox (Below.refl _ _) _) k10.lt k10.cell)) (fun hHeldN => ?_)
          clear hHeld hK K
          have hHeld := hHeldN
          clear hHeldN
          try simp only [Act.put, List.getElem_toArray, List.getElem_cons_zero, List.getElem_cons_succ, List.setIfInBounds_toArray, List.set_cons_zero, List.set_cons_succ]
          have hBq : Below wq.heap.size wq (wq.alloc (.cells #[.slice none 0 0, .slice none 0 0] tAs)) := bbox (Below.refl _ _) _
          have kBox : Blk (wq.alloc (.cells #[.slice none 0 0, .slice none 0 0] tAs)) wq.heap.size tAs #[.slice none 0 0, .slice none 0 0] := Blk.new _ _ _
          obtain ⟨xb, hxb⟩ : ∃ x, x = wq.heap.size := ⟨_, rfl⟩
          have hxb2 : W.heap.size ≤ xb := by omega
          replace k8 := k8.next hBq
          replace k10 := k10.next hBq
          replace HB := Lib.hid (bgo HB.out hBq)
          replace hzq := Nat.le_trans hzq hBq.size
          try replace OB := Lib.hid (OB.out.below hBq)
          try replace OX := Lib.hid (OX.out.below hBq)
          rw [← hxb] at kBox ⊢
          clear hBq hxb
          generalize wq.alloc (.cells #[.slice none 0 0, .slice none 0 0] tAs) = wq at *
          have hlB := kBox.lt
          have qb := kBox.cell
          have rb := kBox.frozen
          refine wpAnyH_ready (rs := [9]) (by kernel_rfl) (by simp) ?_
          refine AllReadyH.cons rfl (fun K hK => ?_) AllReadyH.nil
          try simp only [List.getElem_toArray, List.getElem_cons_zero, List.getElem_cons_succ]
          go_simp
          refine hK.out _ _ (((k10.far (p := ⟨xb, 0, none⟩) (k10.ne_ kBox (by decide)) _).far (p := ⟨xb, 1, none⟩) (k10.ne_ kBox (by decide)) _).cell) (fun hHeldN => ?_)
          clear hHeld hK K
          have hHeld := hHeldN
          clear hHeldN
          try simp only [Act.put, List.getElem_toArray, List.getElem_cons_zero, List.getElem_cons_succ, List.setIfInBounds_toArray, List.set_cons_zero, List.set_cons_succ]
          refine wpAnyH_done (by kernel_rfl) ?_ _
          refine NoPanic.normal ?_
          go_wp2_with fail
          go_meet
          case rel =>
            refine ⟨xb, F2, f2, G2, g2, rfl, Lib.hid (AsnO.setT2 OX.out kBox _ _), ?_, (k8.far (p := ⟨xb, 0, none⟩) (by simp only; omega) _).far (p := ⟨xb, 1, none⟩) (by simp only; omega) _, by omega, Lib.hid ((HB.out.setCell (p := ⟨xb, 0, none⟩) (by simp only; omega) _).setCell (p := ⟨xb, 1, none⟩) (by simp only; omega) _)⟩
            have := (kBox.set_ 0 (.slice F2 (setX b x p t).facts.length f2)).set_ 1 (.slice G2 (setX b x p t).atoms.length g2)
            simpa using this
        · skip
          try simp only [List.getElem_toArray, List.getElem_cons_zero, List.getElem_cons_succ]
          go_simp
          refine hK.out _ _ (rowC_ (bbox (Below.refl _ _) _) k10.lt k10.cell) (fun hHeldN => ?_)
          clear hHeld hK K
          have hHeld := hHeldN
          clear hHeldN
          have hBq : Below wq.heap.size wq (wq.alloc (.cells #[.slice none 0 0, .slice none 0 0] tAs)) := bbox (Below.refl _ _) _
          have kBox : Blk (wq.alloc (.cells #[.slice none 0 0, .slice none 0 0] tAs)) wq.heap.size tAs #[.slice none 0 0, .slice none 0 0] := Blk.new _ _ _
          obtain ⟨xb, hxb⟩ : ∃ x, x = wq.heap.size := ⟨_, rfl⟩
          have hxb2 : W.heap.size ≤ xb := by omega
          replace k8 := k8.next hBq
          replace k10 := k10.next hBq
          replace HB := Lib.hid (bgo HB.out hBq)
          replace hzq := Nat.le_trans hzq hBq.size
          try replace OB := Lib.hid (OB.out.below hBq)
          try replace OX := Lib.hid (OX.out.below hBq)
          rw [← hxb] at kBox ⊢
          clear hBq hxb
          generalize wq.alloc (.cells #[.slice none 0 0, .slice none 0 0] tAs) = wq at *
          refine wpAnyH_ready (rs := [7]) (by kernel_rfl) (by simp) ?_
          refine AllReadyH.cons rfl (fun K hK => ?_) AllReadyH.nil
          try simp only [List.getElem_toArray, List.getElem_cons_zero, List.getElem_cons_succ]
          (go_simp; refine (c_withFactX _ b x p t _ OB.out.reads hlb).mono ?_; rintro e wq ⟨F2, f2, G2, g2, rfl, oX, hBq⟩; have OX := Lib.hid (oX.lower (base' := w.heap.size) (by omega)); clear oX; replace k8 := k8.next hBq; replace k10 := k10.next hBq; replace HB := Lib.hid (bgo HB.out hBq); replace hzq := Nat.le_trans hzq hBq.size; have kBox := kBox.next hBq)
          refine hK.out _ _ (k10.cell) (fun hHeldN => ?_)
          clear hHeld hK K
          have hHeld := hHeldN
          clear hHeldN
          try simp only [Act.put, List.getElem_toArray, List.getElem_cons_zero, List.getElem_cons_succ, List.setIfInBounds_toArray, List.set_cons_zero, List.set_cons_succ]
          clear hBq
          have hlB := kBox.lt
          have qb := kBox.cell
          have rb := kBox.frozen
          refine wpAnyH_ready (rs := [9]) (by kernel_rfl) (by simp) ?_
          refine AllReadyH.cons rfl (fun K hK => ?_) AllReadyH.nil
          try simp only [List.getElem_toArray, List.getElem_cons_zero, List.getElem_cons_succ]
          go_simp
          refine hK.out _ _ (((k10.far (p := ⟨xb, 0, none⟩) (k10.ne_ kBox (by decide)) _).far (p := ⟨xb, 1, none⟩) (k10.ne_ kBox (by decide)) _).cell) (fun hHeldN => ?_)
          clear hHeld hK K
          have hHeld := hHeldN
          clear hHeldN
          try simp only [Act.put, List.getElem_toArray, List.getElem_cons_zero, List.getElem_cons_succ, List.setIfInBounds_toArray, List.set_cons_zero, List.set_cons_succ]
          refine wpAnyH_done (by kernel_rfl) ?_ _
          refine NoPanic.normal ?_
          go_wp2_with fail
          go_meet
          case rel =>
            refine ⟨xb, F2, f2, G2, g2, rfl, Lib.hid (AsnO.setT2 OX.out kBox _ _), ?_, (k8.far (p := ⟨xb, 0, none⟩) (by simp only; omega) _).far (p := ⟨xb, 1, none⟩) (by simp only; omega) _, by omega, Lib.hid ((HB.out.setCell (p := ⟨xb, 0, none⟩) (by simp only; omega) _).setCell (p := ⟨xb, 1, none⟩) (by simp only; omega) _)⟩
            have := (kBox.set_ 0 (.slice F2 (setX b x p t).facts.length f2)).set_ 1 (.slice G2 (setX b x p t).atoms.length g2)
            simpa using this
      · skip
        try simp only [List.getElem_toArray, List.getElem_cons_zero, List.getElem_cons_succ]
        go_simp
        refine hK.out _ _ (rowC_ (bbox (Below.refl _ _) _) k10.lt k10.cell) (fun hHeldN => ?_)
        clear hHeld hK K
        have hHeld := hHeldN
        clear hHeldN
        have hBq : Below wq.heap.size wq (wq.alloc (.cells #[.slice none 0 0, .slice none 0 0] tAs)) := bbox (Below.refl _ _) _
        have kBox : Blk (wq.alloc (.cells #[.slice none 0 0, .slice none 0 0] tAs)) wq.heap.size tAs #[.slice none 0 0, .slice none 0 0] := Blk.new _ _ _
        obtain ⟨xb, hxb⟩ : ∃ x, x = wq.heap.size := ⟨_, rfl⟩
        have hxb2 : W.heap.size ≤ xb := by omega
        replace k8 := k8.next hBq
        replace k10 := k10.next hBq
        replace HB := Lib.hid (bgo HB.out hBq)
        replace hzq := Nat.le_trans hzq hBq.size
        try replace OB := Lib.hid (OB.out.below hBq)
        try replace OX := Lib.hid (OX.out.below hBq)
        rw [← hxb] at kBox ⊢
        clear hBq hxb
        generalize wq.alloc (.cells #[.slice none 0 0, .slice none 0 0] tAs) = wq at *
        refine wpAnyH_ready (rs := [5]) (by kernel_rfl) (by simp) ?_
        refine AllReadyH.cons rfl (fun K hK => ?_) AllReadyH.nil
        try simp only [List.getElem_toArray, List.getElem_cons_zero, List.getElem_cons_succ]
        (go_simp; refine (c_fTerm _ _ x p t _).mono ?_; rintro e wq ⟨rfl, hBq⟩; replace OB := Lib.hid (OB.out.below hBq); replace k8 := k8.next hBq; replace k10 := k10.next hBq; replace HB := Lib.hid (bgo HB.out hBq); replace hzq := Nat.le_trans hzq hBq.size; have kBox := kBox.next hBq)
        refine hK.out _ _ (k10.cell) (fun hHeldN => ?_)
        clear hHeld hK K
        have hHeld := hHeldN
        clear hHeldN
        try simp only [Act.put, List.getElem_toArray, List.getElem_cons_zero, List.getElem_cons_succ, List.setIfInBounds_toArray, List.set_cons_zero, List.set_cons_succ]
        clear hBq
        refine wpAnyH_take (i := 6) (v := ?_) rfl (by kernel_rfl) (by kernel_rfl) (by kernel_rfl) (fun _ _ _ h => h) (Or.inl ⟨by rfl, fun w hSw => ?_⟩) hHeld ?_
        rotate_left
        · ((try dsimp only at hSw); go_split_ands; go_simp; (try with_reducible rfl))
        try simp only [Act.put, List.getElem_toArray, List.getElem_cons_zero, List.getElem_cons_succ, List.setIfInBounds_toArray, List.set_cons_zero, List.set_cons_succ]
        refine wpAnyH_ready (rs := [7]) (by kernel_rfl) (by simp) ?_
        refine AllReadyH.cons rfl (fun K hK => ?_) AllReadyH.nil
        try simp only [List.getElem_toArray, List.getElem_cons_zero, List.getElem_cons_succ]
        (go_simp; refine (c_withFactX _ b x p t _ OB.out.reads hlb).mono ?_; rintro e wq ⟨F2, f2, G2, g2, rfl, oX, hBq⟩; have OX := Lib.hid (oX.lower (base' := w.heap.size) (by omega)); clear oX; replace k8 := k8.next hBq; replace k10 := k10.next hBq; replace HB := Lib.hid (bgo HB.out hBq); replace hzq := Nat.le_trans hzq hBq.size; have kBox := kBox.next hBq)
        refine hK.out _ _ (k10.cell) (fun hHeldN => ?_)
        clear hHeld hK K
        have hHeld := hHeldN
        clear hHeldN
        try simp only [Act.put, List.getElem_toArray, List.getElem_cons_zero, List.getElem_cons_succ, List.setIfInBounds_toArray, List.set_cons_zero, List.set_cons_succ]
        clear hBq
        have hlB := kBox.lt
        have qb := kBox.cell
        have rb := kBox.frozen
        refine wpAnyH_ready (rs := [9]) (by kernel_rfl) (by simp) ?_
        refine AllReadyH.cons rfl (fun K hK => ?_) AllReadyH.nil
        try simp only [List.getElem_toArray, List.getElem_cons_zero, List.getElem_cons_succ]
        go_simp
        refine hK.out _ _ (((k10.far (p := ⟨xb, 0, none⟩) (k10.ne_ kBox (by decide)) _).far (p := ⟨xb, 1, none⟩) (k10.ne_ kBox (by decide)) _).cell) (fun hHeldN => ?_)
        clear hHeld hK K
        have hHeld := hHeldN
        clear hHeldN
        try simp only [Act.put, List.getElem_toArray, List.getElem_cons_zero, List.getElem_cons_succ, List.setIfInBounds_toArray, List.set_cons_zero, List.set_cons_succ]
        refine wpAnyH_done (by kernel_rfl) ?_ _
        refine NoPanic.normal ?_
        go_wp2_with fail
        go_meet
        case rel =>
          refine ⟨xb, F2, f2, G2, g2, rfl, Lib.hid (AsnO.setT2 OX.out kBox _ _), ?_, (k8.far (p := ⟨xb, 0, none⟩) (by simp only; omega) _).far (p := ⟨xb, 1, none⟩) (by simp only; omega) _, by omega, Lib.hid ((HB.out.setCell (p := ⟨xb, 0, none⟩) (by simp only; omega) _).setCell (p := ⟨xb, 1, none⟩) (by simp only; omega) _)⟩
          have := (kBox.set_ 0 (.slice F2 (setX b x p t).facts.length f2)).set_ 1 (.slice G2 (setX b x p t).atoms.length g2)
          simpa using this
    case rest =>
      obtain ⟨xb, F2, f2, G2, g2, rfl, OX, kb, k8, hxb, HB⟩ := hcut
      have hl0 := kb.lt
      have HVX : Hid (AsnV wc 0 wc.heap.size (.agg #[.slice F2 (setX b x p t).facts.length f2, .slice G2 (setX b x p t).atoms.length g2]) (setX b x p t)) := Lib.hid (OX.out.reads.mono0 (Nat.le_refl _))
      (replace qkb := kb.cell; replace rkb := kb.frozen; replace lkb := kb.lt; replace qk8 := k8.cell; replace rk8 := k8.frozen; replace lk8 := k8.lt)
      go_wp2_with fail
      clear qk8 rk8 lk8
      refine wp_region_noPanic ?_
      refine wp_region_held_drew (S := (fun w' => ∀ i, w'.cell? ⟨xb, i, none⟩ = #[.slice F2 (setX b x p t).facts.length f2, .slice G2 (setX b x p t).atoms.length g2][i]?)) (by kernel_rfl) (kb.drew.cell) (fun hHeld => ?_)
      refine wpAnyH_take (i := 0) (v := ?_) rfl (by kernel_rfl) (by kernel_rfl) (by kernel_rfl) (fun _ _ _ h => h) (Or.inl ⟨by rfl, fun w hSw => ?_⟩) hHeld ?_
      rotate_left
      · ((try dsimp only at hSw); go_split_ands; go_simp; (try with_reducible rfl))
      try simp only [Act.put, List.getElem_toArray, List.getElem_cons_zero, List.getElem_cons_succ, List.setIfInBounds_toArray, List.set_cons_zero, List.set_cons_succ]
      refine wpAnyH_take (i := 1) (v := ?_) rfl (by kernel_rfl) (by kernel_rfl) (by kernel_rfl) (fun _ _ _ h => h) (Or.inl ⟨by rfl, fun w hSw => ?_⟩) hHeld ?_
      rotate_left
      · ((try dsimp only at hSw); go_split_ands; go_simp; (try with_reducible rfl))
      try simp only [Act.put, List.getElem_toArray, List.getElem_cons_zero, List.getElem_cons_succ, List.setIfInBounds_toArray, List.set_cons_zero, List.set_cons_succ]
      refine wpAnyH_ready (rs := [2]) (by kernel_rfl) (by simp) ?_
      refine AllReadyH.cons rfl (fun K hK => ?_) AllReadyH.nil
      try simp only [List.getElem_toArray, List.getElem_cons_zero, List.getElem_cons_succ]
      (go_simp; refine (c_impl_AssertionValid _ (setX b x p t) _ (HVX.out.below (Below.refl _ _).drew)).mono ?_; rintro e w8 ⟨rfl, hB8⟩; replace hB8 : Below wc.heap.size wc w8 := (Below.refl _ _).drew.trans hB8; have kb8 := kb.next hB8; have k88 := k8.next hB8; have OX8 := Lib.hid (OX.out.below hB8); have HB8 := Lib.hid (bgo HB.out hB8); clear hB8)
      refine hK.out _ _ (kb8.cell) (fun hHeldN => ?_)
      clear hHeld hK K
      have hHeld := hHeldN
      clear hHeldN
      try simp only [Act.put, List.getElem_toArray, List.getElem_cons_zero, List.getElem_cons_succ, List.setIfInBounds_toArray, List.set_cons_zero, List.set_cons_succ]
      have q88 := k88.cell
      have r88 := k88.frozen
      have l88 := k88.lt
      refine wpAnyH_ready (rs := [3]) (by kernel_rfl) (by simp) ?_
      refine AllReadyH.cons rfl (fun K hK => ?_) AllReadyH.nil
      try simp only [List.getElem_toArray, List.getElem_cons_zero, List.getElem_cons_succ]
      go_simp
      refine hK.out _ _ (((kb8.far (p := ⟨w.heap.size + 1, 0, none⟩) (by simp only; omega) _).far (p := ⟨w.heap.size + 1, 1, none⟩) (by simp only; omega) _).cell) (fun hHeldN => ?_)
      clear hHeld hK K
      have hHeld := hHeldN
      clear hHeldN
      try simp only [Act.put, List.getElem_toArray, List.getElem_cons_zero, List.getElem_cons_succ, List.setIfInBounds_toArray, List.set_cons_zero, List.set_cons_succ]
      refine wpAnyH_ready (rs := [4]) (by kernel_rfl) (by simp) ?_
      refine AllReadyH.cons rfl (fun K hK => ?_) AllReadyH.nil
      try simp only [List.getElem_toArray, List.getElem_cons_zero, List.getElem_cons_succ]
      go_simp
      refine hK.out _ _ (((kb8.far (p := ⟨w.heap.size + 1, 0, none⟩) (by simp only; omega) _).far (p := ⟨w.heap.size + 1, 1, none⟩) (by simp only; omega) _).cell) (fun hHeldN => ?_)
      clear hHeld hK K
      have hHeld := hHeldN
      clear hHeldN
      try simp only [Act.put, List.getElem_toArray, List.getElem_cons_zero, List.getElem_cons_succ, List.setIfInBounds_toArray, List.set_cons_zero, List.set_cons_succ]
      refine wpAnyH_done (by kernel_rfl) ?_ _
      refine NoPanic.normal ?_
      go_wp2_with fail
      have z6 := ((k88.set_ 0 (.slice F2 (setX b x p t).facts.length f2)).set_ 1 (.slice G2 (setX b x p t).atoms.length g2)).cell
      refine bodyPost_ret (v := .tuple #[.agg #[.slice F2 (setX b x p t).facts.length f2, .slice G2 (setX b x p t).atoms.length g2], .bool ((setX b x p t)).valid]) (by simp [results, Tryz.results162, go_sem, z6]) rfl ⟨_, by rw [E.out, okX_some], ?_, ?_⟩
      · rw [E.out]
        exact OptO.okX (AsnO.setT2 OX8.out k88 _ _)
      · exact (HB8.out.setCell (p := ⟨w.heap.size + 1, 0, none⟩) (by simp only; omega) _).setCell (p := ⟨w.heap.size + 1, 1, none⟩) (by simp only; omega) _

--@ impl.allocatedFor
set_option maxRecDepth 100000 in
set_option maxHeartbeats 3200000 in
theorem c_impl_allocatedFor {lo hi : Nat} (v : Value) (a : Asn) (x : Int) (K : Nat) (w : World) (h : AsnV w lo hi v a) (hK : K < 512) (hx : isTermB x = true) (hl : a.atoms.length ≤ 1000) :
    Calls Tryz.prog 163 #[v, .int .i64 x, .int .u16 K] w fun e w' => ∃ r, e = .returned (.tuple #[r, .bool (cellNF a x K).isSome]) ∧ OptO w' w.heap.size r (cellNF a x K) ∧ Below w.heap.size w w' := by
  have hV := Lib.hid h
  obtain ⟨A1, c1, A2, c2, rfl, -, -⟩ := h
  go_enter Tryz.func163, Tryz.ntmps163
  have k0 : Blk ((w.alloc (.cells #[.slice A1 a.facts.length c1, .slice A2 a.atoms.length c2] tAs)).alloc (.cells #[.slice none 0 0, .slice none 0 0] tAs)) w.heap.size tAs #[.slice A1 a.facts.length c1, .slice A2 a.atoms.length c2] := blks
  have k8 : Blk ((w.alloc (.cells #[.slice A1 a.facts.length c1, .slice A2 a.atoms.length c2] tAs)).alloc (.cells #[.slice none 0 0, .slice none 0 0] tAs)) (w.heap.size + 1) tAs #[.slice none 0 0, .slice none 0 0] := blks
  go_wp2_with fail
  refine (c_impl_forget _ a x K _ (hV.out.below bel) hK hx).mono ?_
  rintro e w1 ⟨hF, hB1⟩
  have hB := bgo (w := w) bel hB1
  replace k0 := k0.next hB1
  replace k8 := k8.next hB1
  have hz := hB1.size
  simp only [World.size_alloc] at hz
  clear hB1
  cases hf : forgetF a x K with
  | none =>
    rw [hf] at hF
    simp only [FgR] at hF
    subst hF
    have E : Hid (cellNF a x K = none) := Lib.hid (by unfold cellNF; rw [hf]; rfl)
    clear hf
    (replace qk8 := k8.cell; replace rk8 := k8.frozen; replace lk8 := k8.lt)
    go_wp2_with fail
    refine bodyPost_ret (v := .tuple #[.agg #[.slice none 0 0, .slice none 0 0], .bool false]) (by simp [results, Tryz.results163, go_sem, qk8, lk8]) rfl ⟨_, by rw [E.out]; rfl, ?_, bel⟩
    rw [E.out]
    exact OptO.none _ _
  | some bp =>
    obtain ⟨b, p⟩ := bp
    rw [hf] at hF
    simp only [FgR] at hF
    obtain ⟨F, f, G, g, rfl, oB⟩ := hF
    have E : Hid (cellNF a x K = okX (newX b x)) := Lib.hid (by unfold cellNF; rw [hf]; rfl)
    have HL : Hid (b.atoms.length = a.atoms.length) := Lib.hid (forget_alen hf)
    have OB := Lib.hid (oB.lower (base' := w.heap.size) (by (try simp) <;> omega))
    clear hf oB
    (replace qk8 := k8.cell; replace rk8 := k8.frozen; replace lk8 := k8.lt)
    go_upto_region 5 with fail
    have k10 : Blk ((w1.alloc (.cells #[.slice F b.facts.length f, .slice G b.atoms.length g, .int .i64 x, .int .i64 p] tFg)).alloc (.cells #[.int .i64 1, .int .i64 x, .int .i64 0] tA)) w1.heap.size tFg #[.slice F b.facts.length f, .slice G b.atoms.length g, .int .i64 x, .int .i64 p] := blks
    have hBq : Below w1.heap.size w1 ((w1.alloc (.cells #[.slice F b.facts.length f, .slice G b.atoms.length g, .int .i64 x, .int .i64 p] tFg)).alloc (.cells #[.int .i64 1, .int .i64 x, .int .i64 0] tA)) := bbox (bbox (Below.refl _ _) _) _
    have kf : Blk ((w1.alloc (.cells #[.slice F b.facts.length f, .slice G b.atoms.length g, .int .i64 x, .int .i64 p] tFg)).alloc (.cells #[.int .i64 1, .int .i64 x, .int .i64 0] tA)) (w1.heap.size + 1) tA #[.int .i64 1, .int .i64 x, .int .i64 0] := Blk.newE (by simp)
    replace k8 := k8.next hBq
    replace OB := Lib.hid (OB.out.below hBq)
    have HB := Lib.hid (bgo hB hBq)
    have hk8 := k8.lt
    have hyW : w.heap.size + 2 ≤ w1.heap.size := by omega
    obtain ⟨y, hy⟩ : ∃ y, y = w1.heap.size := ⟨_, rfl⟩
    have hsW : ((w1.alloc (.cells #[.slice F b.facts.length f, .slice G b.atoms.length g, .int .i64 x, .int .i64 p] tFg)).alloc (.cells #[.int .i64 1, .int .i64 x, .int .i64 0] tA)).heap.size = y + 2 := by simp [hy]
    rw [← hy] at k10 kf hyW ⊢
    clear hBq k0 hB qk8 rk8 lk8
    generalize (w1.alloc (.cells #[.slice F b.facts.length f, .slice G b.atoms.length g, .int .i64 x, .int .i64 p] tFg)).alloc (.cells #[.int .i64 1, .int .i64 x, .int .i64 0] tA) = W at k8 k10 kf OB HB hsW hk8 ⊢
    clear hy
    have hlb : (newX b x).atoms.length ≤ 1049600 := by have := HL.out; simp [newX]; omega
    go_cut [11] (fun s12 wc => ∃ (xb : Nat) (F2 : Option Addr) (f2 : Nat) (G2 : Option Addr) (g2 : Nat), s12 = .pointer (some ⟨xb, 0, none⟩) ∧ Hid (AsnO wc w.heap.size (.agg #[.slice F2 (newX b x).facts.length f2, .slice G2 (newX b x).atoms.length g2]) (newX b x)) ∧ Blk wc xb tAs #[.slice F2 (newX b x).facts.length f2, .slice G2 (newX b x).atoms.length g2] ∧ Blk wc (w.heap.size + 1) tAs #[.slice none 0 0, .slice none 0 0] ∧ w.heap.size + 2 ≤ xb ∧ Hid (Below w.heap.size w wc))
    case first =>
      have lk10 := k10.lt
      go_wp2_with fail
      refine wp_region_noPanic ?_
      refine wp_region_held_drew (S := (fun w' => ∀ i, w'.cell? ⟨y, i, none⟩ = #[.slice F b.facts.length f, .slice G b.atoms.length g, .int .i64 x, .int .i64 p][i]?)) (by kernel_rfl) (k10.drew.cell) (fun hHeld => ?_)
      clear lk10
      replace k8 := k8.drew
      replace k10 := k10.drew
      replace kf := kf.drew
      replace OB := Lib.hid (OB.out.below (Below.refl _ _).drew)
      replace HB := Lib.hid HB.out.drew
      have hzq : W.heap.size ≤ W.drew.heap.size := Nat.le_refl _
      generalize W.drew = wq at k8 k10 kf OB HB hzq hHeld ⊢
      refine wpAnyH_take (i := 0) (v := ?_) rfl (by kernel_rfl) (by kernel_rfl) (by kernel_rfl) (fun _ _ _ h => h) (Or.inl ⟨by rfl, fun w hSw => ?_⟩) hHeld ?_
      rotate_left
      · ((try dsimp only at hSw); go_split_ands; go_simp; (try with_reducible rfl))
      try simp only [Act.put, List.getElem_toArray, List.getElem_cons_zero, List.getElem_cons_succ, List.setIfInBounds_toArray, List.set_cons_zero, List.set_cons_succ]
      refine wpAnyH_take (i := 1) (v := ?_) rfl (by kernel_rfl) (by kernel_rfl) (by kernel_rfl) (fun _ _ _ h => h) (Or.inl ⟨by rfl, fun w hSw => ?_⟩) hHeld ?_
      rotate_left
      · ((try dsimp only at hSw); go_split_ands; go_simp; (try with_reducible rfl))
      try simp only [Act.put, List.getElem_toArray, List.getElem_cons_zero, List.getElem_cons_succ, List.setIfInBounds_toArray, List.set_cons_zero, List.set_cons_succ]
      refine wpAnyH_take (i := 2) (v := ?_) rfl (by kernel_rfl) (by kernel_rfl) (by kernel_rfl) (fun _ _ _ h => h) (Or.inl ⟨by rfl, fun w hSw => ?_⟩) hHeld ?_
      rotate_left
      · ((try dsimp only at hSw); go_split_ands; go_simp; (try with_reducible rfl))
      try simp only [Act.put, List.getElem_toArray, List.getElem_cons_zero, List.getElem_cons_succ, List.setIfInBounds_toArray, List.set_cons_zero, List.set_cons_succ]
      refine wpAnyH_take (i := 3) (v := ?_) rfl (by kernel_rfl) (by kernel_rfl) (by kernel_rfl) (fun _ _ _ h => h) (Or.inl ⟨by rfl, fun w hSw => ?_⟩) hHeld ?_
      rotate_left
      · ((try dsimp only at hSw); go_split_ands; go_simp; (try with_reducible rfl))
      try simp only [Act.put, List.getElem_toArray, List.getElem_cons_zero, List.getElem_cons_succ, List.setIfInBounds_toArray, List.set_cons_zero, List.set_cons_succ]
      refine wpAnyH_take (i := 4) (v := ?_) rfl (by kernel_rfl) (by kernel_rfl) (by kernel_rfl) (fun _ _ _ h => h) (Or.inl ⟨by rfl, fun w hSw => ?_⟩) hHeld ?_
      rotate_left
      · ((try dsimp only at hSw); go_split_ands; go_simp; (try with_reducible rfl))
      try simp only [Act.put, List.getElem_toArray, List.getElem_cons_zero, List.getElem_cons_succ, List.setIfInBounds_toArray, List.set_cons_zero, List.set_cons_succ]
      refine wpAnyH_take (i := 5) (v := ?_) rfl (by kernel_rfl) (by kernel_rfl) (by kernel_rfl) (fun _ _ _ h => h) (Or.inl ⟨by rfl, fun w hSw => ?_⟩) hHeld ?_
      rotate_left
      · ((try dsimp only at hSw); go_split_ands; go_simp; (try with_reducible rfl))
      try simp only [Act.put, List.getElem_toArray, List.getElem_cons_zero, List.getElem_cons_succ, List.setIfInBounds_toArray, List.set_cons_zero, List.set_cons_succ]
      refine wpAnyH_take (i := 6) (v := ?_) rfl (by kernel_rfl) (by kernel_rfl) (by kernel_rfl) (fun _ _ _ h => h) (Or.inl ⟨by rfl, fun w hSw => ?_⟩) hHeld ?_
      rotate_left
      · ((try dsimp only at hSw); go_split_ands; go_simp; (try with_reducible rfl))
      try simp only [Act.put, List.getElem_toArray, List.getElem_cons_zero, List.getElem_cons_succ, List.setIfInBounds_toArray, List.set_cons_zero, List.set_cons_succ]
      refine wpAnyH_ready (rs := [7, 9]) (by kernel_rfl) (by simp) ?_
      refine AllReadyH.cons rfl (fun K hK => ?_) (AllReadyH.cons rfl (fun K hK => ?_) (AllReadyH.nil))
      · skip
        try simp only [List.getElem_toArray, List.getElem_cons_zero, List.getElem_cons_succ]
        go_simp
        refine (c_joinAn (some ⟨y + 1, 0, none⟩) G 1 g (newX b x).atoms.length [⟨1, x, 0⟩] b.atoms _ (AtomsV.one (f := ⟨1, x, 0⟩) kf) OB.out.atomsV (by simp [newX] <;> omega) hlb).mono ?_
        rintro e wq ⟨G2, g2, rfl, oX, hBq⟩
        replace OB := Lib.hid (OB.out.below hBq)
        have OX : Hid (AsnO wq w.heap.size (.agg #[.slice F (newX b x).facts.length f, .slice G2 (newX b x).atoms.length g2]) (newX b x)) := Lib.hid (AsnO.mkA OB.out (oX.lower (by omega)))
        clear oX
        replace k8 := k8.next hBq
        replace k10 := k10.next hBq
        replace kf := kf.next hBq
        replace HB := Lib.hid (bgo HB.out hBq)
        replace hzq := Nat.le_trans hzq hBq.size
        clear hBq
        refine hK.out _ _ k10.cell (fun hHeldN => ?_)
        clear hHeld hK K
        have hHeld := hHeldN
        clear hHeldN
        refine wpAnyH_take (i := 8) (v := ?_) rfl (by kernel_rfl) (by kernel_rfl) (by kernel_rfl) (fun _ _ _ h => h) (Or.inl ⟨by rfl, fun w hSw => ?_⟩) hHeld ?_
        rotate_left
        · ((try dsimp only at hSw); go_split_ands; go_simp; (try with_reducible rfl))
        try simp only [Act.put, List.getElem_toArray, List.getElem_cons_zero, List.getElem_cons_succ, List.setIfInBounds_toArray, List.set_cons_zero, List.set_cons_succ]
        refine wpAnyH_ready (rs := [9]) (by kernel_rfl) (by simp) ?_
        refine AllReadyH.cons rfl (fun K hK => ?_) AllReadyH.nil
        try simp only [List.getElem_toArray, List.getElem_cons_zero, List.getElem_cons_succ]
        go_simp
        refine hK.out _ _ ((rowC_ (bbox (Below.refl _ _) _) k10.lt k10.cell)) (fun hHeldN => ?_)
        clear hHeld hK K
        have hHeld := hHeldN
        clear hHeldN
        try simp only [Act.put, List.getElem_toArray, List.getElem_cons_zero, List.getElem_cons_succ, List.setIfInBounds_toArray, List.set_cons_zero, List.set_cons_succ]
        have hBq : Below wq.heap.size wq (wq.alloc (.cells #[.slice none 0 0, .slice none 0 0] tAs)) := bbox (Below.refl _ _) _
        have kBox : Blk (wq.alloc (.cells #[.slice none 0 0, .slice none 0 0] tAs)) wq.heap.size tAs #[.slice none 0 0, .slice none 0 0] := Blk.new _ _ _
        obtain ⟨xb, hxb⟩ : ∃ x, x = wq.heap.size := ⟨_, rfl⟩
        have hxb2 : W.heap.size ≤ xb := by omega
        replace k8 := k8.next hBq
        replace k10 := k10.next hBq
        replace kf := kf.next hBq
        replace HB := Lib.hid (bgo HB.out hBq)
        replace hzq := Nat.le_trans hzq hBq.size
        try replace OB := Lib.hid (OB.out.below hBq)
        try replace OX := Lib.hid (OX.out.below hBq)
        rw [← hxb] at kBox ⊢
        clear hBq hxb
        generalize wq.alloc (.cells #[.slice none 0 0, .slice none 0 0] tAs) = wq at *
        have hlB := kBox.lt
        have qb := kBox.cell
        have rb := kBox.frozen
        refine wpAnyH_ready (rs := [10]) (by kernel_rfl) (by simp) ?_
        refine AllReadyH.cons rfl (fun K hK => ?_) AllReadyH.nil
        try simp only [List.getElem_toArray, List.getElem_cons_zero, List.getElem_cons_succ]
        go_simp
        refine hK.out _ _ (((k10.far (p := ⟨xb, 0, none⟩) (k10.ne_ kBox (by decide)) _).far (p := ⟨xb, 1, none⟩) (k10.ne_ kBox (by decide)) _).cell) (fun hHeldN => ?_)
        clear hHeld hK K
        have hHeld := hHeldN
        clear hHeldN
        try simp only [Act.put, List.getElem_toArray, List.getElem_cons_zero, List.getElem_cons_succ, List.setIfInBounds_toArray, List.set_cons_zero, List.set_cons_succ]
        refine wpAnyH_done (by kernel_rfl) ?_ _
        refine NoPanic.normal ?_
        go_wp2_with fail
        go_meet
        case rel =>
          refine ⟨xb, F, f, G2, g2, rfl, Lib.hid (AsnO.setT2 OX.out kBox _ _), ?_, (k8.far (p := ⟨xb, 0, none⟩) (by simp only; omega) _).far (p := ⟨xb, 1, none⟩) (by simp only; omega) _, by omega, Lib.hid ((HB.out.setCell (p := ⟨xb, 0, none⟩) (by simp only; omega) _).setCell (p := ⟨xb, 1, none⟩) (by simp only; omega) _)⟩
          have := (kBox.set_ 0 (.slice F b.facts.length f)).set_ 1 (.slice G2 (newX b x).atoms.length g2)
          simp only [List.setIfInBounds_toArray, List.set_cons_zero, List.set_cons_succ] at this
          exact this
      · skip
        try simp only [List.getElem_toArray, List.getElem_cons_zero, List.getElem_cons_succ]
        go_simp
        refine hK.out _ _ (rowC_ (bbox (Below.refl _ _) _) k10.lt k10.cell) (fun hHeldN => ?_)
        clear hHeld hK K
        have hHeld := hHeldN
        clear hHeldN
        have hBq : Below wq.heap.size wq (wq.alloc (.cells #[.slice none 0 0, .slice none 0 0] tAs)) := bbox (Below.refl _ _) _
        have kBox : Blk (wq.alloc (.cells #[.slice none 0 0, .slice none 0 0] tAs)) wq.heap.size tAs #[.slice none 0 0, .slice none 0 0] := Blk.new _ _ _
        obtain ⟨xb, hxb⟩ : ∃ x, x = wq.heap.size := ⟨_, rfl⟩
        have hxb2 : W.heap.size ≤ xb := by omega
        replace k8 := k8.next hBq
        replace k10 := k10.next hBq
        replace kf := kf.next hBq
        replace HB := Lib.hid (bgo HB.out hBq)
        replace hzq := Nat.le_trans hzq hBq.size
        try replace OB := Lib.hid (OB.out.below hBq)
        try replace OX := Lib.hid (OX.out.below hBq)
        rw [← hxb] at kBox ⊢
        clear hBq hxb
        generalize wq.alloc (.cells #[.slice none 0 0, .slice none 0 0] tAs) = wq at *
        refine wpAnyH_ready (rs := [7]) (by kernel_rfl) (by simp) ?_
        refine AllReadyH.cons rfl (fun K hK => ?_) AllReadyH.nil
        try simp only [List.getElem_toArray, List.getElem_cons_zero, List.getElem_cons_succ]
        (go_simp; refine (c_joinAn (some ⟨y + 1, 0, none⟩) G 1 g (newX b x).atoms.length [⟨1, x, 0⟩] b.atoms _ (AtomsV.one (f := ⟨1, x, 0⟩) kf) OB.out.atomsV (by simp [newX] <;> omega) hlb).mono ?_; rintro e wq ⟨G2, g2, rfl, oX, hBq⟩; replace OB := Lib.hid (OB.out.below hBq); have OX : Hid (AsnO wq w.heap.size (.agg #[.slice F (newX b x).facts.length f, .slice G2 (newX b x).atoms.length g2]) (newX b x)) := Lib.hid (AsnO.mkA OB.out (oX.lower (by omega))); clear oX; replace k8 := k8.next hBq; replace k10 := k10.next hBq; replace kf := kf.next hBq; replace HB := Lib.hid (bgo HB.out hBq); replace hzq := Nat.le_trans hzq hBq.size; have kBox := kBox.next hBq)
        refine hK.out _ _ (k10.cell) (fun hHeldN => ?_)
        clear hHeld hK K
        have hHeld := hHeldN
        clear hHeldN
        try simp only [Act.put, List.getElem_toArray, List.getElem_cons_zero, List.getElem_cons_succ, List.setIfInBounds_toArray, List.set_cons_zero, List.set_cons_succ]
        clear hBq
        refine wpAnyH_take (i := 8) (v := ?_) rfl (by kernel_rfl) (by kernel_rfl) (by kernel_rfl) (fun _ _ _ h => h) (Or.inl ⟨by rfl, fun w hSw => ?_⟩) hHeld ?_
        rotate_left
        · ((try dsimp only at hSw); go_split_ands; go_simp; (try with_reducible rfl))
        try simp only [Act.put, List.getElem_toArray, List.getElem_cons_zero, List.getElem_cons_succ, List.setIfInBounds_toArray, List.set_cons_zero, List.set_cons_succ]
        have hlB := kBox.lt
        have qb := kBox.cell
        have rb := kBox.frozen
        refine wpAnyH_ready (rs := [10]) (by kernel_rfl) (by simp) ?_
        refine AllReadyH.cons rfl (fun K hK => ?_) AllReadyH.nil
        try simp only [List.getElem_toArray, List.getElem_cons_zero, List.getElem_cons_succ]
        go_simp
        refine hK.out _ _ (((k10.far (p := ⟨xb, 0, none⟩) (k10.ne_ kBox (by decide)) _).far (p := ⟨xb, 1, none⟩) (k10.ne_ kBox (by decide)) _).cell) (fun hHeldN => ?_)
        clear hHeld hK K
        have hHeld := hHeldN
        clear hHeldN
        try simp only [Act.put, List.getElem_toArray, List.getElem_cons_zero, List.getElem_cons_succ, List.setIfInBounds_toArray, List.set_cons_zero, List.set_cons_succ]
        refine wpAnyH_done (by kernel_rfl) ?_ _
        refine NoPanic.normal ?_
        go_wp2_with fail
        go_meet
        case rel =>
          refine ⟨xb, F, f, G2, g2, rfl, Lib.hid (AsnO.setT2 OX.out kBox _ _), ?_, (k8.far (p := ⟨xb, 0, none⟩) (by simp only; omega) _).far (p := ⟨xb, 1, none⟩) (by simp only; omega) _, by omega, Lib.hid ((HB.out.setCell (p := ⟨xb, 0, none⟩) (by simp only; omega) _).setCell (p := ⟨xb, 1, none⟩) (by simp only; omega) _)⟩
          have := (kBox.set_ 0 (.slice F b.facts.length f)).set_ 1 (.slice G2 (newX b x).atoms.length g2)
          simp only [List.setIfInBounds_toArray, List.set_cons_zero, List.set_cons_succ] at this
          exact this
    case rest =>
      obtain ⟨xb, F2, f2, G2, g2, rfl, OX, kb, k8, hxb, HB⟩ := hcut
      have hl0 := kb.lt
      have HVX : Hid (AsnV wc 0 wc.heap.size (.agg #[.slice F2 (newX b x).facts.length f2, .slice G2 (newX b x).atoms.length g2]) (newX b x)) := Lib.hid (OX.out.reads.mono0 (Nat.le_refl _))
      (replace qkb := kb.cell; replace rkb := kb.frozen; replace lkb := kb.lt; replace qk8 := k8.cell; replace rk8 := k8.frozen; replace lk8 := k8.lt)
      go_wp2_with fail
      clear qk8 rk8 lk8
      refine wp_region_noPanic ?_
      refine wp_region_held_drew (S := (fun w' => ∀ i, w'.cell? ⟨xb, i, none⟩ = #[.slice F2 (newX b x).facts.length f2, .slice G2 (newX b x).atoms.length g2][i]?)) (by kernel_rfl) (kb.drew.cell) (fun hHeld => ?_)
      refine wpAnyH_take (i := 0) (v := ?_) rfl (by kernel_rfl) (by kernel_rfl) (by kernel_rfl) (fun _ _ _ h => h) (Or.inl ⟨by rfl, fun w hSw => ?_⟩) hHeld ?_
      rotate_left
      · ((try dsimp only at hSw); go_split_ands; go_simp; (try with_reducible rfl))
      try simp only [Act.put, List.getElem_toArray, List.getElem_cons_zero, List.getElem_cons_succ, List.setIfInBounds_toArray, List.set_cons_zero, List.set_cons_succ]
      refine wpAnyH_take (i := 1) (v := ?_) rfl (by kernel_rfl) (by kernel_rfl) (by kernel_rfl) (fun _ _ _ h => h) (Or.inl ⟨by rfl, fun w hSw => ?_⟩) hHeld ?_
      rotate_left
      · ((try dsimp only at hSw); go_split_ands; go_simp; (try with_reducible rfl))
      try simp only [Act.put, List.getElem_toArray, List.getElem_cons_zero, List.getElem_cons_succ, List.setIfInBounds_toArray, List.set_cons_zero, List.set_cons_succ]
      refine wpAnyH_ready (rs := [2]) (by kernel_rfl) (by simp) ?_
      refine AllReadyH.cons rfl (fun K hK => ?_) AllReadyH.nil
      try simp only [List.getElem_toArray, List.getElem_cons_zero, List.getElem_cons_succ]
      (go_simp; refine (c_impl_AssertionValid _ (newX b x) _ (HVX.out.below (Below.refl _ _).drew)).mono ?_; rintro e w8 ⟨rfl, hB8⟩; replace hB8 : Below wc.heap.size wc w8 := (Below.refl _ _).drew.trans hB8; have kb8 := kb.next hB8; have k88 := k8.next hB8; have OX8 := Lib.hid (OX.out.below hB8); have HB8 := Lib.hid (bgo HB.out hB8); clear hB8)
      refine hK.out _ _ (kb8.cell) (fun hHeldN => ?_)
      clear hHeld hK K
      have hHeld := hHeldN
      clear hHeldN
      try simp only [Act.put, List.getElem_toArray, List.getElem_cons_zero, List.getElem_cons_succ, List.setIfInBounds_toArray, List.set_cons_zero, List.set_cons_succ]
      have q88 := k88.cell
      have r88 := k88.frozen
      have l88 := k88.lt
      refine wpAnyH_ready (rs := [3]) (by kernel_rfl) (by simp) ?_
      refine AllReadyH.cons rfl (fun K hK => ?_) AllReadyH.nil
      try simp only [List.getElem_toArray, List.getElem_cons_zero, List.getElem_cons_succ]
      go_simp
      refine hK.out _ _ (((kb8.far (p := ⟨w.heap.size + 1, 0, none⟩) (by simp only; omega) _).far (p := ⟨w.heap.size + 1, 1, none⟩) (by simp only; omega) _).cell) (fun hHeldN => ?_)
      clear hHeld hK K
      have hHeld := hHeldN
      clear hHeldN
      try simp only [Act.put, List.getElem_toArray, List.getElem_cons_zero, List.getElem_cons_succ, List.setIfInBounds_toArray, List.set_cons_zero, List.set_cons_succ]
      refine wpAnyH_ready (rs := [4]) (by kernel_rfl) (by simp) ?_
      refine AllReadyH.cons rfl (fun K hK => ?_) AllReadyH.nil
      try simp only [List.getElem_toArray, List.getElem_cons_zero, List.getElem_cons_succ]
      go_simp
      refine hK.out _ _ (((kb8.far (p := ⟨w.heap.size + 1, 0, none⟩) (by simp only; omega) _).far (p := ⟨w.heap.size + 1, 1, none⟩) (by simp only; omega) _).cell) (fun hHeldN => ?_)
      clear hHeld hK K
      have hHeld := hHeldN
      clear hHeldN
      try simp only [Act.put, List.getElem_toArray, List.getElem_cons_zero, List.getElem_cons_succ, List.setIfInBounds_toArray, List.set_cons_zero, List.set_cons_succ]
      refine wpAnyH_done (by kernel_rfl) ?_ _
      refine NoPanic.normal ?_
      go_wp2_with fail
      have z6 := ((k88.set_ 0 (.slice F2 (newX b x).facts.length f2)).set_ 1 (.slice G2 (newX b x).atoms.length g2)).cell
      refine bodyPost_ret (v := .tuple #[.agg #[.slice F2 (newX b x).facts.length f2, .slice G2 (newX b x).atoms.length g2], .bool ((newX b x)).valid]) (by simp [results, Tryz.results163, go_sem, z6]) rfl ⟨_, by rw [E.out, okX_some], ?_, ?_⟩
      · rw [E.out]
        exact OptO.okX (AsnO.setT2 OX8.out k88 _ _)
      · exact (HB8.out.setCell (p := ⟨w.heap.size + 1, 0, none⟩) (by simp only; omega) _).setCell (p := ⟨w.heap.size + 1, 1, none⟩) (by simp only; omega) _

--@
end Go.Proofs.YtlmjjflalmegfaaGreat
