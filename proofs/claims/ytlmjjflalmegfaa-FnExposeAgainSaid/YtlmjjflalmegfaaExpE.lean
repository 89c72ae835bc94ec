/- Exposing cells: impl.expose, impl.ExposeCell. -/
import Derived.Test.YtlmjjflalmegfaaExpD
set_option linter.unusedSimpArgs false
set_option linter.unusedVariables false
namespace Go.Proofs.Ytlmjjflalmegfaa
open Go Go.RowKit Go.Proofs
attribute [local go_sem ↓] Go.wp_at_zero Go.wp_at_succ

/-- what ExposeCell gives -/
def exposeR (a : Asn) (t : Int) (ks : List Int) : Option (List Asn) := if a.valid && isTermB t then exposeF 7 a t (tset ks) else none
theorem exposeR_ok {a : Asn} {t : Int} {ks : List Int} : ((exposeR a t ks).getD []).length ≤ 128 ∧ totA ((exposeR a t ks).getD []) ≤ 16777216 := by
  cases h : exposeR a t ks with
  | none => simp [totA, totR, rowsA]
  | some l =>
    have h' : exposeF 7 a t (tset ks) = some l := by
      unfold exposeR at h
      split at h
      · exact h
      · cases h
    have h1 := expose_ok h'
    have h2 : l.length ≤ 128 := h1.1
    refine ⟨h2, ?_⟩
    have h3 := totA_le (n := 12) (m := 6) fun s hs => valid_len (h1.2 s hs)
    simp only [Option.getD_some]
    omega
--@ impl.expose
theorem c_impl_expose : ∀ (n : Nat), n ≤ 7 → ∀ (a : Asn) (t : Int) (K : Nat), K < 512 → a.atoms.length < n → ExpC n a t K
  | 0, _, a, _, _, _, h => absurd h (Nat.not_lt_zero _)
  | n + 1, hn, a, t, K, hK, h => fun lo hi v w h1 h2 hv =>
    c_expose_step n a t K (fun i x _ _ hx hk himp => by
      have hi := (List.getElem?_eq_some_iff.1 hx).1
      have hwl := withoutL_len hi
      refine c_exposeListAt n a x i t K hv hx hK (by omega) (c_impl_expose n (by omega) _ t K hK (by simp only [emptyX]; omega)) fun m => ?_
      obtain ⟨n', rfl⟩ : ∃ n', n = n' + 1 := ⟨n - 1, by omega⟩
      intro lo hi v w g1 g2 gv
      exact c_expose_step n' _ t K (fun i' x' hf _ _ _ _ => by rw [full_find hx hk gv himp] at hf; cases hf) lo hi v w g1 g2 gv) lo hi v w h1 h2 hv
--@ impl.ExposeCell
set_option maxRecDepth 100000 in
set_option maxHeartbeats 3200000 in
theorem c_impl_ExposeCell {lo hi lo' hi' : Nat} (v : Value) (a : Asn) (t : Int) (A : Option Addr) (c : Nat) (ks : List Int) (w : World) (h : AsnC w lo hi v a) (hhi : hi ≤ w.heap.size) (hk : IntsV w lo' hi' A ks) :
    Calls Try.prog 10 #[v, .int .i64 t, .slice A ks.length c] w fun e w' => ∃ r, e = .returned (.tuple #[r, .bool (exposeR a t ks).isSome]) ∧ AsnsR w' w.heap.size r ((exposeR a t ks).getD []) ∧ Below w.heap.size w w' := by
  have hV := Lib.hid h
  obtain ⟨A1, c1, A2, c2, rfl, -⟩ := h
  have HK := Lib.hid hk
  have HOK := Lib.hid (exposeR_ok (a := a) (t := t) (ks := ks))
  have HD : Hid (exposeR a t ks = if a.valid && isTermB t then exposeF 7 a t (tset ks) else none) := rfl
  clear hk
  go_enter Try.func10, Try.ntmps10
  have k0 : Blk (w.alloc (.cells #[.slice A1 a.facts.length c1, .slice A2 a.atoms.length c2] tAs)) w.heap.size tAs #[.slice A1 a.facts.length c1, .slice A2 a.atoms.length c2] := blks
  go_wp2_with fail
  refine (c_impl_AssertionValid _ a _ (hV.out.V.below bel)).mono ?_
  rintro e w1 ⟨rfl, hB1⟩
  have hB := bgo (w := w) bel hB1
  replace k0 := k0.next hB1
  clear hB1
  cases hv : a.valid
  · have E : Hid (exposeR a t ks = none) := Lib.hid (by rw [HD.out, hv]; rfl)
    clear hv
    go_wp2_with fail
    go_ret2
    exact ⟨_, by rw [E.out]; rfl, by rw [E.out]; exact AsnsR.nil _ _, hB⟩
  have HV := Lib.hid hv
  clear hv
  go_wp2_with fail
  refine (c_impl_isTerm t _).mono ?_
  rintro e w1 ⟨rfl, rfl⟩
  cases ht : isTermB t
  · have E : Hid (exposeR a t ks = none) := Lib.hid (by rw [HD.out, ht, Bool.and_false]; rfl)
    clear ht
    go_wp2_with fail
    go_ret2
    exact ⟨_, by rw [E.out]; rfl, by rw [E.out]; exact AsnsR.nil _ _, hB⟩
  have E : Hid (exposeR a t ks = exposeF 7 a t (tset ks)) := Lib.hid (by rw [HD.out, HV.out, ht]; rfl)
  clear ht HD
  rw [E.out] at HOK
  have HB := Lib.hid hB
  have hs1 := hB.size
  have hvl := valid_len HV.out
  clear hB
  (replace qk0 := k0.cell; replace rk0 := k0.frozen; replace lk0 := k0.lt)
  go_wp2_with fail
  clear qk0 rk0 lk0
  refine wp_region_noPanic ?_
  refine wp_region_held_drew (S := (fun w' => ∀ i, w'.cell? ⟨w.heap.size, i, none⟩ = #[.slice A1 a.facts.length c1, .slice A2 a.atoms.length c2][i]?)) (by kernel_rfl) (k0.drew.cell) (fun hHeld => ?_)
  refine wpAnyH_take (i := 0) (v := ?_) rfl (by kernel_rfl) (by kernel_rfl) (by kernel_rfl) (fun _ _ _ h => h) (Or.inl ⟨by rfl, fun w hSw => ?_⟩) hHeld ?_
  rotate_left
  · ((try dsimp only at hSw); go_split_ands; go_simp; (try with_reducible rfl))
  try simp only [Act.put, List.getElem_toArray, List.getElem_cons_zero, List.getElem_cons_succ, List.setIfInBounds_toArray, List.set_cons_zero, List.set_cons_succ]
  refine wpAnyH_take (i := 1) (v := ?_) rfl (by kernel_rfl) (by kernel_rfl) (by kernel_rfl) (fun _ _ _ h => h) (Or.inl ⟨by rfl, fun w hSw => ?_⟩) hHeld ?_
  rotate_left
  · ((try dsimp only at hSw); go_split_ands; go_simp; (try with_reducible rfl))
  try simp only [Act.put, List.getElem_toArray, List.getElem_cons_zero, List.getElem_cons_succ, List.setIfInBounds_toArray, List.set_cons_zero, List.set_cons_succ]
  refine wpAnyH_take (i := 2) (v := ?_) rfl (by kernel_rfl) (by kernel_rfl) (by kernel_rfl) (fun _ _ _ h => h) (Or.inl ⟨by rfl, fun w hSw => ?_⟩) hHeld ?_
  rotate_left
  · ((try dsimp only at hSw); go_split_ands; go_simp; (try with_reducible rfl))
  try simp only [Act.put, List.getElem_toArray, List.getElem_cons_zero, List.getElem_cons_succ, List.setIfInBounds_toArray, List.set_cons_zero, List.set_cons_succ]
  refine wpAnyH_ready (rs := [3]) (by kernel_rfl) (by simp) ?_
  refine AllReadyH.cons rfl (fun K hK => ?_) AllReadyH.nil
  try simp only [List.getElem_toArray, List.getElem_cons_zero, List.getElem_cons_succ]
  (go_simp; refine (c_impl_setOfTerms A c ks _ (HK.out.below HB.out.drew)).mono ?_; rintro e w3 ⟨rfl, hB3⟩; replace hB3 : Below w1.heap.size w1 w3 := (Below.refl _ _).drew.trans hB3; replace k0 := k0.next hB3; have HB3 := Lib.hid (bgo HB.out hB3); have hs3 := hB3.size; clear hB3 HB)
  refine hK.out _ _ (k0.cell) (fun hHeldN => ?_)
  clear hHeld hK K
  have hHeld := hHeldN
  clear hHeldN
  try simp only [Act.put, List.getElem_toArray, List.getElem_cons_zero, List.getElem_cons_succ, List.setIfInBounds_toArray, List.set_cons_zero, List.set_cons_succ]
  refine wpAnyH_ready (rs := [4]) (by kernel_rfl) (by simp) ?_
  refine AllReadyH.cons rfl (fun K hK => ?_) AllReadyH.nil
  try simp only [List.getElem_toArray, List.getElem_cons_zero, List.getElem_cons_succ]
  (go_simp; refine (c_impl_expose 7 (Nat.le_refl _) a t (tset ks) (tset_lt ks) (by omega) lo hi _ _ (hV.out.below HB3.out) (by omega) HV.out).mono ?_; rintro e w4 ⟨r, vs, rfl, oR, hB4⟩; obtain ⟨R1, r1, rfl⟩ := oR.form; replace k0 := k0.next hB4; have HB4 := Lib.hid (bgo HB3.out hB4); have OR := Lib.hid (oR.lower (base' := w.heap.size) (by omega)); clear hB4 HB3 oR)
  refine hK.out _ _ (k0.cell) (fun hHeldN => ?_)
  clear hHeld hK K
  have hHeld := hHeldN
  clear hHeldN
  try simp only [Act.put, List.getElem_toArray, List.getElem_cons_zero, List.getElem_cons_succ, List.setIfInBounds_toArray, List.set_cons_zero, List.set_cons_succ]
  refine wpAnyH_take (i := 5) (v := ?_) rfl (by kernel_rfl) (by kernel_rfl) (by kernel_rfl) (fun _ _ _ h => h) (Or.inl ⟨by rfl, fun w hSw => ?_⟩) hHeld ?_
  rotate_left
  · ((try dsimp only at hSw); go_split_ands; go_simp; (try with_reducible rfl))
  try simp only [Act.put, List.getElem_toArray, List.getElem_cons_zero, List.getElem_cons_succ, List.setIfInBounds_toArray, List.set_cons_zero, List.set_cons_succ]
  refine wpAnyH_take (i := 6) (v := ?_) rfl (by kernel_rfl) (by kernel_rfl) (by kernel_rfl) (fun _ _ _ h => h) (Or.inl ⟨by rfl, fun w hSw => ?_⟩) hHeld ?_
  rotate_left
  · ((try dsimp only at hSw); go_split_ands; go_simp; (try with_reducible rfl))
  try simp only [Act.put, List.getElem_toArray, List.getElem_cons_zero, List.getElem_cons_succ, List.setIfInBounds_toArray, List.set_cons_zero, List.set_cons_succ]
  refine wpAnyH_take (i := 7) (v := ?_) rfl (by kernel_rfl) (by kernel_rfl) (by kernel_rfl) (fun _ _ _ h => h) (Or.inl ⟨by rfl, fun w hSw => ?_⟩) hHeld ?_
  rotate_left
  · ((try dsimp only at hSw); go_split_ands; go_simp; (try with_reducible rfl))
  try simp only [Act.put, List.getElem_toArray, List.getElem_cons_zero, List.getElem_cons_succ, List.setIfInBounds_toArray, List.set_cons_zero, List.set_cons_succ]
  refine wpAnyH_ready (rs := [8]) (by kernel_rfl) (by simp) ?_
  refine AllReadyH.cons rfl (fun K hK => ?_) AllReadyH.nil
  try simp only [List.getElem_toArray, List.getElem_cons_zero, List.getElem_cons_succ]
  go_simp
  refine hK.out _ _ (k0.cell) (fun hHeldN => ?_)
  clear hHeld hK K
  have hHeld := hHeldN
  clear hHeldN
  try simp only [Act.put, List.getElem_toArray, List.getElem_cons_zero, List.getElem_cons_succ, List.setIfInBounds_toArray, List.set_cons_zero, List.set_cons_succ]
  refine wpAnyH_done (by kernel_rfl) ?_ _
  refine NoPanic.normal ?_
  go_wp2_with fail
  go_ret2
  refine ⟨_, by rw [E.out]; rfl, ?_, HB4.out⟩
  rw [E.out]
  exact ⟨⟨vs, OR.out⟩, HOK.out.2⟩
--@
end Go.Proofs.Ytlmjjflalmegfaa
