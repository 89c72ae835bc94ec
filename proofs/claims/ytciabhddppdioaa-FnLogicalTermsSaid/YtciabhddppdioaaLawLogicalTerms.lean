/- 'laws.FnLogicalTerms' returns true for all bytes that can be read. -/
import Derived.Test.YtciabhddppdioaaMDrawR
import Derived.Test.YtciabhddppdioaaLogP
import Derived.Test.YtciabhddppdioaaLogK
import Derived.Test.YtciabhddppdioaaMSlHas
set_option linter.unusedSimpArgs false
set_option linter.unusedVariables false
namespace Go.Proofs.Ytciabhddppdioaa
open Go Go.RowKit Go.Proofs
attribute [local go_sem ↓] Go.wp_at_zero Go.wp_at_succ

--@ laws.FnLogicalTerms
theorem one_reads {w : World} {lo hi b o k : Nat} {L : Cms} (h : CmsAt w lo hi L b o) (h1 : lo ≤ b) (h2 : b < hi) : CmsV w lo hi (some ⟨b, o + k * 10, none⟩) (L.one k) :=
  fun _ => ⟨b, o + k * 10, rfl, h1, h2, h.one k⟩
theorem c_LogOne {lo hi b o k : Nat} (L : Cms) (c : Nat) (w : World) (h : CmsAt w lo hi L b o) (h1 : lo ≤ b) (h2 : b < hi) (hhi : hi ≤ w.heap.size) (hk : k < L.len) (hL : L.len + L.cost ≤ 1000) :
    Calls Try.prog 13 #[.slice (some ⟨b, o + k * 10, none⟩) 1 c] w fun e w' => ∃ r, e = .returned r ∧ IntsO w' w.heap.size r (logicalL (L.one k)) ∧ Below w.heap.size w w' := by
  have hc := Cms.one_cost L k
  have := c_impl_LogicalTerms (L.one k) (some ⟨b, o + k * 10, none⟩) c w (one_reads h h1 h2) hhi (by omega) (Cms.cost_small (by omega))
  rwa [Cms.one_len hk] at this
set_option maxRecDepth 100000 in
set_option maxHeartbeats 6400000 in
theorem c_FnLogicalTerms (v : Value) (A : Option Addr × Nat × Nat) (w : World) (h : v = .slice A.1 A.2.1 A.2.2 ∧ BytesR w A.1 A.2.1 A.2.2) : Calls Try.prog 3 #[v] w fun e w' => e = .returned (.bool true) ∧ Below w.heap.size w w' := by
  obtain ⟨A, n, c⟩ := A
  obtain ⟨rfl, hR⟩ := h
  simp only at hR ⊢
  have HR := Lib.hid hR
  clear hR
  by_cases hn : 1048576 < n
  · have hni : (1048576 : Int) < (n : Int) := by omega
    clear hn
    go_enter Try.func3, Try.ntmps3
    go_wp2_with fail
    go_ret
    exact ⟨rfl, bel⟩
  have hni : ¬ (1048576 : Int) < (n : Int) := by omega
  clear hn
  go_enter Try.func3, Try.ntmps3
  go_wp2_with fail
  refine (c_DrawLogical A n c _ HR.out).mono ?_
  rintro e w1 ⟨A1, d1, L, rfl, hV, hLS, hB1, hcap⟩
  have HB1 := Lib.hid hB1
  have HV := Lib.hid hV
  have z1 := hB1.size
  have hlen : L.len ≤ 1000 := by omega
  have HS := Lib.hid hLS
  have Hsm := Lib.hid (Cms.cost_small (n := 1049600) (L := L) (by omega))
  have Hsz := Lib.hid (show L.sz ≤ 1049600 from Nat.le_trans (Cms.sz_cost L) (by omega))
  clear hV hB1 hLS hni HR
  go_wp2_with fail
  refine (c_impl_LogicalTerms L A1 d1 w1 HV.out (Nat.le_refl _) (by omega) Hsm.out).mono ?_
  rintro e w2 ⟨r2, rfl, o2, hB2⟩
  obtain ⟨G2, e2, rfl, hG2⟩ := o2.reads
  have z2 := hB2.size
  have HB2 := Lib.hid (bgo HB1.out hB2)
  have HV2 := Lib.hid (HV.out.below hB2)
  have HG2 := Lib.hid hG2
  clear o2 hG2 hB2
  go_wp2_with fail
  refine (c_spec_LogicalTerms L A1 d1 w2 HV2.out z2 (by omega) Hsm.out Hsz.out).mono ?_
  rintro e w3 ⟨r3, rfl, o3, hB3⟩
  obtain ⟨G3, e3, rfl, hG3⟩ := o3.reads
  have z3 := hB3.size
  have HB3 := Lib.hid (bgo HB2.out hB3)
  have HV3 := Lib.hid (HV2.out.below hB3)
  have HG23 := Lib.hid (HG2.out.below hB3)
  have HG3 := Lib.hid hG3
  clear o3 hG3 hB3 HB2 HV2 HG2 HV HB1
  go_wp2_with fail
  refine (c_slInts G2 G3 e2 e3 (logicalL L) (logicalL L) _ HG23.out HG3.out).mono ?_
  rintro e w4 ⟨rfl, hB4⟩
  rw [decide_eq_true (Eq.refl (logicalL L))]
  have z4 := hB4.size
  have HB4 := Lib.hid (bgo HB3.out hB4)
  have HV4 := Lib.hid (HV3.out.below hB4)
  have HG4 := Lib.hid (HG23.out.below hB4)
  clear hB4 HB3 HV3 HG23 HG3
  obtain ⟨D, hD⟩ : ∃ D, D = logicalL L := ⟨_, rfl⟩
  rw [← hD] at HG4 ⊢
  replace hD := Lib.hid hD
  go_wp2_with fail
  go_loopw [5, 6, 7] (fun t s i wr => ∃ k : Nat, k ≤ 9 ∧ t = .int .i64 k ∧ Hid (Below w4.heap.size w4 wr)) (fun t _ _ _ => 9 - (intOf t).toNat)
  case atStart => exact ⟨0, by omega, rfl, Below.refl _ _⟩
  case round =>
    obtain ⟨k, hk, rfl, HB⟩ := hrel
    by_cases h9 : k < 9
    · have hki : (k : Int) ≤ 8 := by omega
      go_wp2_with fail
      go_loopw [6, 7] (fun s i wx => ∃ j : Nat, j ≤ L.len ∧ i = .int .i64 j ∧ s = .bool (anyOne L k j) ∧ Hid (Below w4.heap.size w4 wx)) (fun _ i _ => L.len - (intOf i).toNat)
      case atStart => exact ⟨0, by omega, rfl, rfl, HB⟩
      case round =>
        clear HB
        obtain ⟨j, hj, rfl, rfl, HB⟩ := hrel
        have hz := HB.out.size
        by_cases hjl : j < L.len
        · obtain ⟨b, o, rfl, hb1, hb2, hA⟩ := HV4.out (by omega)
          have HA := Lib.hid (hA.below HB.out)
          have hji : (j : Int) < (L.len : Int) := by omega
          have hjc : (j : Int) + 1 ≤ (d1 : Int) := by omega
          have hs : Hid (anyOne L k (j + 1) = (anyOne L k j || decide ((k : Int) ∈ logicalL (L.one j)))) := Lib.hid rfl
          clear hA
          cases hq : anyOne L k j
          · rw [hq] at hs
            clear hq
            go_wp2_with fail
            refine (c_LogOne L (d1 - j) wr HA.out hb1 hb2 (by omega) hjl HS.out).mono ?_
            rintro e w6 ⟨r6, rfl, o6, hB6⟩
            obtain ⟨G6, e6, rfl, hG6⟩ := o6.reads
            have HG6 := Lib.hid hG6
            have HB6 := Lib.hid (bgo HB.out hB6)
            clear o6 hG6 hB6
            go_wp2_with fail
            refine (c_slHas G6 e6 _ _ _ HG6.out).mono ?_
            rintro e w7 ⟨rfl, hB7⟩
            have HB7 := Lib.hid (bgo HB6.out hB7)
            clear hB7
            go_wp2_with fail
            go_round
            case rel => exact ⟨j + 1, by omega, by go_num, by rw [hs.out]; rfl, HB7⟩
            case measure => simp [intOf]; omega
          · rw [hq] at hs
            clear hq
            go_wp2_with fail
            go_round
            case rel => exact ⟨j + 1, by omega, by go_num, by rw [hs.out]; rfl, HB⟩
            case measure => simp [intOf]; omega
        · obtain rfl : j = L.len := by omega
          go_wp2_with fail
          refine (c_impl_ProgramValid L A1 d1 wr (HV4.out.below HB.out) (by omega) Hsm.out).mono ?_
          rintro e w8 ⟨rfl, hB8⟩
          have HB8 := Lib.hid (bgo HB.out hB8)
          clear hB8 HB
          have hbig : Hid ((k : Int) ∈ D → 4 < k) := Lib.hid (by rw [hD.out]; exact log_big)
          cases hp : L.prog
          · have hno : decide ((k : Int) ∈ D) = false := by rw [hD.out, log_none hp]; simp
            clear hp
            go_wp2_with fail
            refine (c_slHas G2 e2 D _ _ (HG4.out.below HB8.out)).mono ?_
            rintro e w9 ⟨rfl, hB9⟩
            rw [hno]
            have HB9 := Lib.hid (bgo HB8.out hB9)
            clear hB9
            go_wp2_with fail
            go_round
            case rel => exact ⟨k + 1, by omega, by go_num, HB9⟩
            case measure => simp [intOf]; omega
          · have hsame := Lib.hid (log_any (n := k) hp (by omega))
            rw [← hD.out] at hsame
            clear hp
            go_wp2_with fail
            refine (c_slHas G2 e2 D _ _ (HG4.out.below HB8.out)).mono ?_
            rintro e w9 ⟨rfl, hB9⟩
            have HB9 := Lib.hid (bgo HB8.out hB9)
            clear hB9
            rw [hsame.out]
            cases hd : decide ((k : Int) ∈ D)
            · go_wp2_with fail
              refine (c_slHas G2 e2 D _ _ (HG4.out.below HB9.out)).mono ?_
              rintro e w10 ⟨rfl, hB10⟩
              rw [hd]
              have HB10 := Lib.hid (bgo HB9.out hB10)
              clear hB10 hd
              go_wp2_with fail
              go_round
              case rel => exact ⟨k + 1, by omega, by go_num, HB10⟩
              case measure => simp [intOf]; omega
            · have h4 : ¬ (k : Int) ≤ 4 := by have := hbig.out (of_decide_eq_true hd); omega
              go_wp2_with fail
              refine (c_slHas G2 e2 D _ _ (HG4.out.below HB9.out)).mono ?_
              rintro e w10 ⟨rfl, hB10⟩
              rw [hd]
              have HB10 := Lib.hid (bgo HB9.out hB10)
              clear hB10 hd
              go_wp2_with fail
              go_round
              case rel => exact ⟨k + 1, by omega, by go_num, HB10⟩
              case measure => simp [intOf]; omega
    · obtain rfl : k = 9 := by omega
      go_wp2_with fail
      go_ret
      exact ⟨rfl, bgo HB4.out HB.out⟩
--@
end Go.Proofs.Ytciabhddppdioaa
