/- Symbolic execution: impl.SymBasic. Printed by genSymM.py. -/
import Derived.Test.YtlmjjflalmegfaaGreatSymL
import Derived.Test.YtlmjjflalmegfaaGreatCmdJ
set_option linter.unusedSimpArgs false
set_option linter.unusedVariables false
namespace Go.Proofs.YtlmjjflalmegfaaGreat
open Go Go.RowKit Go.Proofs
attribute [local go_sem ↓] Go.wp_at_zero Go.wp_at_succ

/-- a valid command without blocks -/
def okC (k A B : Int) (t : Fct) (i : Asn) (body els : Cms) : Bool := plainB t i body els && fieldsB k A B
theorem okC_eq (k A B : Int) (t : Fct) (i : Asn) (body els : Cms) : okC k A B t i body els = (basicB k && fvalB k A B t i body els) := by
  unfold okC basicB fvalB
  by_cases h : 1 ≤ k ∧ k ≤ 5
  · rw [decide_eq_true h, if_neg (by omega), if_neg (by omega), Bool.true_and]
  · rw [decide_eq_false h, Bool.false_and]
    unfold fieldsB
    rw [if_neg (by omega), if_neg (by omega), if_neg (by omega), if_neg (by omega), Bool.and_false]
theorem okC_term {k A B : Int} {t : Fct} {i : Asn} {body els : Cms} (h : okC k A B t i body els = true) : isTermB A = true ∧ isTermB B = true ∧ (1 ≤ k ∧ k ≤ 5) := by
  unfold okC fieldsB at h
  rw [Bool.and_eq_true] at h
  have hp : ∀ x, isProgB x = true → isTermB x = true := fun x hx => by simp [isProgB] at hx; simp [isTermB]; omega
  have h0 : isTermB 0 = true := by decide
  have h2 := h.2
  split at h2
  · rw [Bool.and_eq_true] at h2
    exact ⟨hp _ h2.1, h2.2, by omega⟩
  · split at h2
    · rw [Bool.and_eq_true] at h2
      exact ⟨h2.1, h2.2, by omega⟩
    · split at h2
      · rw [Bool.and_eq_true, decide_eq_true_eq] at h2
        exact ⟨hp _ h2.1, by rw [h2.2]; exact h0, by omega⟩
      · split at h2
        · rw [Bool.and_eq_true, decide_eq_true_eq] at h2
          exact ⟨h2.1, by rw [h2.2]; exact h0, by omega⟩
        · cases h2
theorem symBasic_all {lo hi : Nat} (v : Value) (a : Asn) (k A B : Int) (t : Fct) (X1 X2 X3 X4 : Option Addr) (n1 n2 n3 n4 d1 d2 d3 d4 K0 : Nat) (w : World) (h : AsnC w lo hi v a) (hhi : hi ≤ w.heap.size) (hv : a.valid = true) (hK0 : K0 < 512) (hA : isTermB A = true) :
    Calls Tryz.prog 102 #[v, .agg #[.int .i64 k, .int .i64 A, .int .i64 B, .bool t.eq, .int .i64 t.a, .int .i64 t.b, .slice X1 n1 d1, .slice X2 n2 d2, .slice X3 n3 d3, .slice X4 n4 d4], .int .u16 K0] w fun e w' => ∃ r vs, e = .returned (.tuple #[r, .bool (symB a k A B (keepK K0 A B)).isSome]) ∧ A2O w' w.heap.size r vs ((symB a k A B (keepK K0 A B)).getD []) ∧ Below w.heap.size w w' := by
  by_cases h1 : k = 1
  · subst h1; exact c_symB1 v a A B t X1 X2 X3 X4 n1 n2 n3 n4 d1 d2 d3 d4 K0 w h hhi hv hK0 hA
  · by_cases h4 : k = 4
    · subst h4; exact c_symB4 v a A B t X1 X2 X3 X4 n1 n2 n3 n4 d1 d2 d3 d4 K0 w h hhi hv hK0 hA
    · exact c_symBc v a k A B t X1 X2 X3 X4 n1 n2 n3 n4 d1 d2 d3 d4 K0 w h hhi hv hK0 hA h1 h4
--@ impl.SymBasic
set_option maxRecDepth 100000 in
set_option maxHeartbeats 3200000 in
theorem c_impl_SymBasic {lo hi loi hii lo' hi' : Nat} (v : Value) (a : Asn) (k A B : Int) (t : Fct) (i : Asn) (body els : Cms) (X1 X2 X3 X4 : Option Addr) (d1 d2 d3 d4 : Nat) (Ak : Option Addr) (ck : Nat) (ks : List Int) (w : World) (h : AsnC w lo hi v a) (hhi : hi ≤ w.heap.size)
    (hI : AsnV w loi hii (.agg #[.slice X1 i.facts.length d1, .slice X2 i.atoms.length d2]) i) (h3 : body.len ≤ 1049600) (h4 : els.len ≤ 1049600) (hk : IntsV w lo' hi' Ak ks) :
    Calls Tryz.prog 38 #[v, .agg #[.int .i64 k, .int .i64 A, .int .i64 B, .bool t.eq, .int .i64 t.a, .int .i64 t.b, .slice X1 i.facts.length d1, .slice X2 i.atoms.length d2, .slice X3 body.len d3, .slice X4 els.len d4], .slice Ak ks.length ck] w fun e w' => ∃ r, e = .returned (.tuple #[r, .bool (symR a (okC k A B t i body els) k A B ks).isSome]) ∧ AsnsR w' w.heap.size r ((symR a (okC k A B t i body els) k A B ks).getD []) ∧ Below w.heap.size w w' := by
  have hV := Lib.hid h
  obtain ⟨A1, c1, A2, c2, rfl, -⟩ := h
  have HI := Lib.hid hI
  have HK := Lib.hid hk
  have HOK := Lib.hid (symR_ok (a := a) (ok := okC k A B t i body els) (k := k) (A := A) (B := B) (ks := ks) fun e _ => (okC_term e).2.1)
  have HT := Lib.hid (fun e => (okC_term (k := k) (A := A) (B := B) (t := t) (i := i) (body := body) (els := els) e).1)
  have HD : Hid (symR a (okC k A B t i body els) k A B ks = if a.valid && (basicB k && fvalB k A B t i body els) then symB a k A B (keepK (tset ks) A B) else none) := Lib.hid (by rw [okC_eq]; rfl)
  have HQ := Lib.hid (okC_eq k A B t i body els)
  clear hk hI
  generalize okC k A B t i body els = ok at HOK HT HD HQ ⊢
  go_enter Tryz.func38, Tryz.ntmps38
  have k3 : Blk ((w.alloc (.cells #[.slice A1 a.facts.length c1, .slice A2 a.atoms.length c2] tAs)).alloc (.cells #[.int .i64 k, .int .i64 A, .int .i64 B, .bool t.eq, .int .i64 t.a, .int .i64 t.b, .slice X1 i.facts.length d1, .slice X2 i.atoms.length d2, .slice X3 body.len d3, .slice X4 els.len d4] tC)) w.heap.size tAs #[.slice A1 a.facts.length c1, .slice A2 a.atoms.length c2] := blks
  have k4 : Blk ((w.alloc (.cells #[.slice A1 a.facts.length c1, .slice A2 a.atoms.length c2] tAs)).alloc (.cells #[.int .i64 k, .int .i64 A, .int .i64 B, .bool t.eq, .int .i64 t.a, .int .i64 t.b, .slice X1 i.facts.length d1, .slice X2 i.atoms.length d2, .slice X3 body.len d3, .slice X4 els.len d4] tC)) (w.heap.size + 1) tC #[.int .i64 k, .int .i64 A, .int .i64 B, .bool t.eq, .int .i64 t.a, .int .i64 t.b, .slice X1 i.facts.length d1, .slice X2 i.atoms.length d2, .slice X3 body.len d3, .slice X4 els.len d4] := blks
  go_wp2_with fail
  refine (c_impl_AssertionValid _ a _ (hV.out.V.below bel)).mono ?_
  rintro e w1 ⟨rfl, hB1⟩
  have hB := bgo (w := w) bel hB1
  replace k3 := k3.next hB1
  replace k4 := k4.next hB1
  clear hB1
  cases hv : a.valid
  · have E : Hid (symR a ok k A B ks = none) := Lib.hid (by rw [HD.out, hv]; rfl)
    clear hv
    go_wp2_with fail
    go_ret2
    exact ⟨_, by rw [E.out]; rfl, by rw [E.out]; exact AsnsR.nil _ _, hB⟩
  have HV := Lib.hid hv
  clear hv
  (replace qk3 := k3.cell; replace rk3 := k3.frozen; replace lk3 := k3.lt; replace qk4 := k4.cell; replace rk4 := k4.frozen; replace lk4 := k4.lt)
  go_wp2_with fail
  refine (c_impl_isBasic k A B t _ _ _ _ _).mono ?_
  rintro e w2 ⟨rfl, hB2⟩
  (replace hB := bgo hB hB2; replace k3 := k3.next hB2; replace qk3 := k3.cell; replace rk3 := k3.frozen; replace lk3 := k3.lt; replace k4 := k4.next hB2; replace qk4 := k4.cell; replace rk4 := k4.frozen; replace lk4 := k4.lt)
  clear hB2
  cases hbk : basicB k
  · have E : Hid (symR a ok k A B ks = none) := Lib.hid (by rw [HD.out, hbk]; simp)
    clear hbk
    go_wp2_with fail
    go_ret2
    exact ⟨_, by rw [E.out]; rfl, by rw [E.out]; exact AsnsR.nil _ _, hB⟩
  have HBK := Lib.hid hbk
  clear hbk
  go_wp2_with fail
  refine (c_impl_fieldsValid k A B t i X1 X2 X3 X4 d1 d2 d3 d4 body els _ (HI.out.below hB) h3 h4).mono ?_
  rintro e w3 ⟨rfl, hB3⟩
  (replace hB := bgo hB hB3; replace k3 := k3.next hB3; replace qk3 := k3.cell; replace rk3 := k3.frozen; replace lk3 := k3.lt; replace k4 := k4.next hB3; replace qk4 := k4.cell; replace rk4 := k4.frozen; replace lk4 := k4.lt)
  clear hB3
  cases hfv : fvalB k A B t i body els
  · have E : Hid (symR a ok k A B ks = none) := Lib.hid (by rw [HD.out, hfv]; simp)
    clear hfv
    go_wp2_with fail
    go_ret2
    exact ⟨_, by rw [E.out]; rfl, by rw [E.out]; exact AsnsR.nil _ _, hB⟩
  have E : Hid (symR a ok k A B ks = symB a k A B (keepK (tset ks) A B)) := Lib.hid (by rw [HD.out, HV.out, HBK.out, hfv]; rfl)
  have hA : isTermB A = true := HT.out (by rw [HQ.out, HBK.out, hfv]; rfl)
  clear hfv HD HT HQ
  rw [E.out] at HOK
  have HB := Lib.hid hB
  have hs1 := hB.size
  clear hB
  go_wp2_with fail
  clear qk3 rk3 lk3 qk4 rk4 lk4
  refine wp_region_noPanic ?_
  refine wp_region_held_drew (S := (fun w' => (∀ i, w'.cell? ⟨w.heap.size, i, none⟩ = #[.slice A1 a.facts.length c1, .slice A2 a.atoms.length c2][i]?) ∧ (∀ j, w'.cell? ⟨w.heap.size + 1, j, none⟩ = #[.int .i64 k, .int .i64 A, .int .i64 B, .bool t.eq, .int .i64 t.a, .int .i64 t.b, .slice X1 i.facts.length d1, .slice X2 i.atoms.length d2, .slice X3 body.len d3, .slice X4 els.len d4][j]?))) (by kernel_rfl) (⟨k3.drew.cell, k4.drew.cell⟩) (fun hHeld => ?_)
  refine wpAnyH_take (i := 0) (v := ?_) rfl (by kernel_rfl) (by kernel_rfl) (by kernel_rfl) (fun _ _ _ h => h) (Or.inl ⟨by rfl, fun w hSw => ?_⟩) hHeld ?_
  rotate_left
  · ((try dsimp only at hSw); go_split_ands; go_simp; (try with_reducible rfl))
  try simp only [Act.put, List.getElem_toArray, List.getElem_cons_zero, List.getElem_cons_succ, List.setIfInBounds_toArray, List.set_cons_zero, List.set_cons_succ]
  refine wpAnyH_take (i := 1) (v := ?_) rfl (by kernel_rfl) (by kernel_rfl) (by kernel_rfl) (fun _ _ _ h => h) (Or.inl ⟨by rfl, fun w hSw => ?_⟩) hHeld ?_
  rotate_left
  · ((try dsimp only at hSw); go_split_ands; go_simp; (try with_reducible rfl))
  try simp only [Act.put, List.getElem_toArray, List.getElem_cons_zero, List.getElem_cons_succ, List.setIfInBounds_toArray, List.set_cons_zero, List.set_cons_succ]
  refine wpAnyH_take (i := 2) (v := ?_) rfl (by kernel_rfl) (by kernel_rfl) (by kernel_rfl) (fun _ _ _ h => h) (Or.inl ⟨by rfl, fun w hSw => ?_⟩) hHeld ?_
  rotate_left
  · ((try dsimp only at hSw); go_split_ands; go_simp; (try with_reducible rfl))
  try simp only [Act.put, List.getElem_toArray, List.getElem_cons_zero, List.getElem_cons_succ, List.setIfInBounds_toArray, List.set_cons_zero, List.set_cons_succ]
  refine wpAnyH_ready (rs := [3]) (by kernel_rfl) (by simp) ?_
  refine AllReadyH.cons rfl (fun K hK => ?_) AllReadyH.nil
  try simp only [List.getElem_toArray, List.getElem_cons_zero, List.getElem_cons_succ]
  (go_simp; refine (c_impl_setOfTerms Ak ck ks _ (HK.out.below HB.out.drew)).mono ?_; rintro e w4 ⟨rfl, hB4⟩; replace hB4 : Below w3.heap.size w3 w4 := (Below.refl _ _).drew.trans hB4; replace k3 := k3.next hB4; replace k4 := k4.next hB4; have HB4 := Lib.hid (bgo HB.out hB4); have hs4 := hB4.size; clear hB4 HB)
  refine hK.out _ _ (⟨k3.cell, k4.cell⟩) (fun hHeldN => ?_)
  clear hHeld hK K
  have hHeld := hHeldN
  clear hHeldN
  try simp only [Act.put, List.getElem_toArray, List.getElem_cons_zero, List.getElem_cons_succ, List.setIfInBounds_toArray, List.set_cons_zero, List.set_cons_succ]
  refine wpAnyH_ready (rs := [4]) (by kernel_rfl) (by simp) ?_
  refine AllReadyH.cons rfl (fun K hK => ?_) AllReadyH.nil
  try simp only [List.getElem_toArray, List.getElem_cons_zero, List.getElem_cons_succ]
  (go_simp; refine (symBasic_all _ a k A B t X1 X2 X3 X4 _ _ _ _ d1 d2 d3 d4 (tset ks) _ (hV.out.below HB4.out) (by omega) HV.out (tset_lt ks) hA).mono ?_; rintro e w5 ⟨r, vs, rfl, oR, hB5⟩; obtain ⟨R1, r1, rfl⟩ := oR.form; replace k3 := k3.next hB5; replace k4 := k4.next hB5; have HB5 := Lib.hid (bgo HB4.out hB5); have OR := Lib.hid (oR.lower (base' := w.heap.size) (by omega)); clear hB5 HB4 oR)
  refine hK.out _ _ (⟨k3.cell, k4.cell⟩) (fun hHeldN => ?_)
  clear hHeld hK K
  have hHeld := hHeldN
  clear hHeldN
  try simp only [Act.put, List.getElem_toArray, List.getElem_cons_zero, List.getElem_cons_succ, List.setIfInBounds_toArray, List.set_cons_zero, List.set_cons_succ]
  refine wpAnyH_take (i := 5) (v := ?_) rfl (by kernel_rfl) (by kernel_rfl) (by kernel_rfl) (fun _ _ _ h => h) (Or.inl ⟨by rfl, fun w hSw => ?_⟩) hHeld ?_
  rotate_left
  · ((try dsimp only at hSw); go_split_ands; go_simp; (try with_reducible rfl))
  try simp only [Act.put, List.getElem_toArray, List.getElem_cons_zero, List.getElem_cons_succ, List.setIfInBounds_toArray, List.set_cons_zero, List.set_cons_succ]
  refine wpAnyH_take (i := 6) (v := ?_) rfl (by kernel_rfl) (by kernel_rfl) (by kernel_rfl) (fun _ _ _ h => h) (Or.inl ⟨by rfl, fun w hSw => ?_⟩) hHeld ?_
  rotate_left
  · ((try dsimp only at hSw); go_split_ands; go_simp; (try with_reducible rfl))
  try simp only [Act.put, List.getElem_toArray, List.getElem_cons_zero, List.getElem_cons_succ, List.setIfInBounds_toArray, List.set_cons_zero, List.set_cons_succ]
  refine wpAnyH_take (i := 7) (v := ?_) rfl (by kernel_rfl) (by kernel_rfl) (by kernel_rfl) (fun _ _ _ h => h) (Or.inl ⟨by rfl, fun w hSw => ?_⟩) hHeld ?_
  rotate_left
  · ((try dsimp only at hSw); go_split_ands; go_simp; (try with_reducible rfl))
  try simp only [Act.put, List.getElem_toArray, List.getElem_cons_zero, List.getElem_cons_succ, List.setIfInBounds_toArray, List.set_cons_zero, List.set_cons_succ]
  refine wpAnyH_ready (rs := [8]) (by kernel_rfl) (by simp) ?_
  refine AllReadyH.cons rfl (fun K hK => ?_) AllReadyH.nil
  try simp only [List.getElem_toArray, List.getElem_cons_zero, List.getElem_cons_succ]
  go_simp
  refine hK.out _ _ (⟨k3.cell, k4.cell⟩) (fun hHeldN => ?_)
  clear hHeld hK K
  have hHeld := hHeldN
  clear hHeldN
  try simp only [Act.put, List.getElem_toArray, List.getElem_cons_zero, List.getElem_cons_succ, List.setIfInBounds_toArray, List.set_cons_zero, List.set_cons_succ]
  refine wpAnyH_done (by kernel_rfl) ?_ _
  refine NoPanic.normal ?_
  go_wp2_with fail
  go_ret2
  refine ⟨_, by rw [E.out]; rfl, ?_, HB5.out⟩
  rw [E.out]
  exact ⟨⟨vs, OR.out⟩, HOK.out.2⟩
--@
end Go.Proofs.YtlmjjflalmegfaaGreat
