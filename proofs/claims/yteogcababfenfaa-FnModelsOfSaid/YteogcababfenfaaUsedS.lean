/- Contracts: the spec's UsedCells. -/
import Derived.Test.YteogcababfenfaaMCells
import Derived.Test.YteogcababfenfaaMSte
import Derived.Test.YteogcababfenfaaMCmdG
import Derived.Test.YteogcababfenfaaWalk
set_option linter.unusedSimpArgs false
set_option linter.unusedVariables false
namespace Go.Proofs.Yteogcababfenfaa
open Go Go.RowKit Go.Proofs

theorem IntsV.litU {w : World} {x : Nat} {cs : Array Value} {xs : List Int} (hk : Blk w x tI cs) (hcs : cs = (encI xs).toArray) (hl : xs.length ≤ 100) : IntsV w x (x + 1) (some ⟨x, 0, none⟩) xs :=
  ⟨⟨by simp [encI], fun _ => ⟨x, 0, rfl, Nat.le_refl _, Nat.lt_succ_self _, fun j u hu => by rw [Nat.zero_add, hk.cell, hcs]; simpa using hu⟩⟩, by unfold Lim; omega⟩
--@ spec.UsedCells
set_option maxRecDepth 100000 in
set_option maxHeartbeats 1600000 in
theorem c_spec_UsedCells {lo hi : Nat} (v : Value) (s : Ste) (w : World) (h : StateV w lo hi v s) (hs : s.valid = true) : Calls Try.prog 96 #[v] w fun e w' => ∃ r, e = .returned r ∧ IntsO w' w.heap.size r (usedL s.heap 8) ∧ Below w.heap.size w w' := by
  have hV := Lib.hid h
  obtain ⟨A1, c1, A2, c2, rfl, -, -⟩ := h
  have h8 := Lib.hid (Ste.valid_len hs).2
  have HS := Lib.hid hs
  clear hs
  go_enter Try.func96, Try.ntmps96
  have k0 : Blk ((w.alloc (.cells #[.slice A1 s.values.length c1, .slice A2 s.heap.length c2] tSt)).alloc (.cells #[] tI)) w.heap.size tSt #[.slice A1 s.values.length c1, .slice A2 s.heap.length c2] := blks
  have hB : Below w.heap.size w ((w.alloc (.cells #[.slice A1 s.values.length c1, .slice A2 s.heap.length c2] tSt)).alloc (.cells #[] tI)) := bel
  have hO : IntsO ((w.alloc (.cells #[.slice A1 s.values.length c1, .slice A2 s.heap.length c2] tSt)).alloc (.cells #[] tI)) w.heap.size (.slice (some ⟨w.heap.size + 1, 0, none⟩) 0 0) [] := (IntsO.empty _ (by simp)).lower (Nat.le_succ _)
  go_wp2_with fail
  go_loopw [3, 4] (fun u i wr => ∃ (k : Nat) (A : Option Addr) (c : Nat), k ≤ 8 ∧ i = .int .i64 ((k : Int) + 1) ∧ u = .slice A (usedL s.heap k).length c ∧ IntsO wr w.heap.size (.slice A (usedL s.heap k).length c) (usedL s.heap k) ∧ Blk wr w.heap.size tSt #[.slice A1 s.values.length c1, .slice A2 s.heap.length c2] ∧ Hid (Below w.heap.size w wr)) (fun _ i _ => 10 - (intOf i).toNat)
  case atStart => exact ⟨0, some ⟨w.heap.size + 1, 0, none⟩, 0, by omega, rfl, rfl, hO, k0, hB⟩
  case round =>
    clear k0 hB hO
    obtain ⟨k, A, c, hk, rfl, rfl, hO, k0, HB⟩ := hrel
    have HO := Lib.hid hO
    have hsz := HB.out.size
    have HL := Lib.hid (usedL_le s.heap k)
    clear hO
    (replace qk0 := k0.cell; replace rk0 := k0.frozen; replace lk0 := k0.lt)
    by_cases hlt : k < 8
    · have hki : (k : Int) + 1 ≤ 8 := by omega
      go_wp2_with fail
      refine (c_spec_StateValid _ s _ (hV.out.below HB.out)).mono ?_
      rintro e w2 ⟨rfl, hB2⟩
      rw [HS.out]
      have hB3 : Hid (Below w.heap.size w w2) := bgo HB.out hB2
      have HO2 := Lib.hid (HO.out.below hB2)
      replace k0 := k0.next hB2
      clear hB2 HO qk0 rk0 lk0
      (replace qk0 := k0.cell; replace rk0 := k0.frozen; replace lk0 := k0.lt)
      go_wp2_with fail
      refine (c_spec_l2Has _ s ((k : Int) + 1) _ (hV.out.below hB3.out) h8.out).mono ?_
      rintro e w3 ⟨rfl, hB4⟩
      have hB5 : Hid (Below w.heap.size w w3) := bgo hB3.out hB4
      have HO3 := Lib.hid (HO2.out.below hB4)
      have hsz2 := hB5.out.size
      replace k0 := k0.next hB4
      have HSS := Lib.hid (usedL_step s.heap k)
      clear hB4 HO2 qk0 rk0 lk0
      cases ha : allocB s.heap ((k : Int) + 1)
      · have E2 : Hid (usedL s.heap (k + 1) = usedL s.heap k) := by show _ = _; rw [HSS.out, show ((k + 1 : Nat) : Int) = (k : Int) + 1 from by omega, ha]; simp
        clear ha
        go_wp2_with fail
        go_round
        case rel => exact ⟨k + 1, A, c, by omega, by go_num, by rw [E2.out], by rw [E2.out]; exact HO3.out, k0, hB5.out⟩
        case measure => simp [intOf]; omega
      · have E2 : Hid (usedL s.heap (k + 1) = usedL s.heap k ++ [(k : Int) + 1]) := by show _ = _; rw [HSS.out, show ((k + 1 : Nat) : Int) = (k : Int) + 1 from by omega, ha]; simp
        clear ha
        go_wp2_with (at_builtin; refine appIL (ys := [(k : Int) + 1]) (base := w.heap.size) rfl _ _ rfl rfl (HO3.out.below bel) rfl (IntsV.litU (Blk.newE rfl) rfl (by simp)) (by have := HL.out; simp; omega) (by simp; omega) ?_; intro A4 d4 w4 o4 hg4 hB4; have ks4 := Blk.grownO (hg := hg4) (k0.alloc _) (HO3.out.below (bbox (Below.refl _ _) _)).1 (by decide); clear hg4)
        have hBB : Below w.heap.size w w4 := ((hB5.out.alloc hsz2 _).trans hB4)
        go_round
        case rel => exact ⟨k + 1, A4, d4, by omega, by go_num, by rw [E2.out]; simp, by rw [E2.out]; exact o4, ks4, hBB⟩
        case measure => simp [intOf]; omega
    · obtain rfl : k = 8 := by omega
      go_wp2_with fail
      go_ret
      exact ⟨_, rfl, HO.out, HB.out⟩
--@
end Go.Proofs.Yteogcababfenfaa
