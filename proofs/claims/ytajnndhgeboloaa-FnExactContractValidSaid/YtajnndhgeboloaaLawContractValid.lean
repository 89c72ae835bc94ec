/- 'laws.FnExactContractValid' returns true for every contract that can be read. -/
import Derived.Test.YtajnndhgeboloaaArg
import Derived.Test.YtajnndhgeboloaaVal
import Derived.Deep.RegionHeld3
namespace Go.Proofs.Ytajnndhgeboloaa
open Go Go.RowKit Go.Proofs

def szC (k : Ctr) (left : Int) : Int := if szA k.pre left < 0 then -1 else if szA k.post (szA k.pre left) < 0 then -1 else szL k.changes.length (szA k.post (szA k.pre left))
theorem szL_le {n : Nat} {left : Int} (h : ¬ szL n left < 0) : szL n left = left - n ∧ 0 ≤ left - n := by unfold szL at h ⊢; split <;> simp_all <;> omega
theorem szA_le {a : Asn} {left : Int} (h : ¬ szA a left < 0) : 0 ≤ szA a left ∧ szA a left = left - a.facts.length - a.atoms.length ∧ 0 ≤ left := by
  unfold szA at h ⊢
  split at h
  · omega
  · rename_i h1
    have e1 := szL_le h1
    have e2 := szL_le h
    rw [if_neg h1]
    omega

--@ laws.szContract
set_option maxHeartbeats 800000 in
theorem c_szContract (A1 A2 A3 A4 A5 : Option Addr) (c1 c2 c3 c4 c5 : Nat) (k : Ctr) (w : World) (h1 : k.pre.facts.length ≤ 9223372036854775807) (h2 : k.pre.atoms.length ≤ 9223372036854775807) (h3 : k.post.facts.length ≤ 9223372036854775807) (h4 : k.post.atoms.length ≤ 9223372036854775807) (h5 : k.changes.length ≤ 9223372036854775807) (left : Int) (h0 : 0 ≤ left) (hl : left ≤ 1048576) :
    Calls Try.prog 8 #[.agg #[.slice A1 k.pre.facts.length c1, .slice A2 k.pre.atoms.length c2, .slice A3 k.post.facts.length c3, .slice A4 k.post.atoms.length c4, .slice A5 k.changes.length c5], .int .i64 left] w fun e w' => e = .returned (.int .i64 (szC k left)) ∧ Below w.heap.size w w' := by
  have hH : Hid (szC k left = if szA k.pre left < 0 then -1 else if szA k.post (szA k.pre left) < 0 then -1 else szL k.changes.length (szA k.post (szA k.pre left))) := rfl
  by_cases g1 : szA k.pre left < 0
  · go_enter Try.func8, Try.ntmps8
    go_wp2_with (go_at_call 19; refine (c_szAssertion _ _ _ _ _ _ _ h1 h2 h0 hl).mono ?_; rintro e w1 ⟨rfl, hB1⟩; have hq := (Blk.next (Blk.new _ _ _) hB1).cell)
    go_ret
    exact ⟨ret_int (by rw [hH.out, if_pos g1]), bgo (w := w) (by repeat (first | (with_reducible exact Below.refl _ _) | (with_reducible assumption) | (with_reducible apply bbox) | ((with_reducible apply Below.setCell); (case hp => (first | exact Nat.le_refl _ | (simp; done) | (simp; omega) | (simp only; omega) | omega))) | (with_reducible apply Below.drew) | (with_reducible apply below_drewN))) hB1⟩
  · have e1 : 0 ≤ szA k.pre left ∧ szA k.pre left ≤ left := by have := szA_le g1; omega
    by_cases g2 : szA k.post (szA k.pre left) < 0
    · go_enter Try.func8, Try.ntmps8
      go_wp2_with fail
      refine (c_szAssertion _ _ _ _ k.pre _ _ h1 h2 h0 hl).mono ?_; rintro e w1 ⟨rfl, hB1⟩
      have hB := bgo (w := w) (by repeat (first | (with_reducible exact Below.refl _ _) | (with_reducible assumption) | (with_reducible apply bbox) | ((with_reducible apply Below.setCell); (case hp => (first | exact Nat.le_refl _ | (simp; done) | (simp; omega) | (simp only; omega) | omega))) | (with_reducible apply Below.drew) | (with_reducible apply below_drewN))) hB1
      have hq := (Blk.next (Blk.new _ _ _) hB1).cell
      go_wp2_with fail
      refine (c_szAssertion _ _ _ _ k.post _ _ h3 h4 (by omega) (by omega)).mono ?_; rintro e w2 ⟨rfl, hB2⟩
      go_wp2_with fail
      go_ret
      exact ⟨ret_int (by rw [hH.out, if_neg (by omega), if_pos g2]), bgo hB hB2⟩
    · have e2 : 0 ≤ szA k.post (szA k.pre left) ∧ szA k.post (szA k.pre left) ≤ left := by have := szA_le g2; omega
      by_cases g3 : szL k.changes.length (szA k.post (szA k.pre left)) < 0
      all_goals
        go_enter Try.func8, Try.ntmps8
        go_wp2_with fail
        refine (c_szAssertion _ _ _ _ k.pre _ _ h1 h2 h0 hl).mono ?_; rintro e w1 ⟨rfl, hB1⟩
        have hB := bgo (w := w) (by repeat (first | (with_reducible exact Below.refl _ _) | (with_reducible assumption) | (with_reducible apply bbox) | ((with_reducible apply Below.setCell); (case hp => (first | exact Nat.le_refl _ | (simp; done) | (simp; omega) | (simp only; omega) | omega))) | (with_reducible apply Below.drew) | (with_reducible apply below_drewN))) hB1
        have hk := Blk.next (Blk.new _ _ _) hB1
        have hq := hk.cell
        go_wp2_with fail
        refine (c_szAssertion _ _ _ _ k.post _ _ h3 h4 (by omega) (by omega)).mono ?_; rintro e w2 ⟨rfl, hB2⟩
        have hq2 := (hk.next hB2).cell
        have hB3 := bgo hB hB2
        go_wp2_with fail
        refine (c_szIntS _ _ _ _ _ h5 (by omega) (by omega)).mono ?_; rintro e w3 ⟨rfl, rfl⟩
        go_wp2_with fail
        go_ret
      · exact ⟨ret_int (by rw [hH.out, if_neg (by omega), if_neg (by omega), szL_neg g3]), hB3⟩
      · exact ⟨ret_int (by rw [hH.out, if_neg (by omega), if_neg (by omega)]), hB3⟩

--@ laws.FnExactContractValid
set_option maxHeartbeats 800000 in
theorem c_FnExactContractValid (v : Value) (k : Ctr) (w : World) (h : CtrR w v k) : Calls Try.prog 3 #[v] w fun e w' => e = .returned (.bool true) ∧ Below w.heap.size w w' := by
  obtain ⟨A1, c1, A2, c2, A3, c3, A4, c4, A5, c5, rfl, h1, h2, h3, h4, h5⟩ := h
  by_cases hs : szC k 1048576 < 0
  · go_enter Try.func3, Try.ntmps3
    go_wp2_with (go_at_call 8; refine (c_szContract _ _ _ _ _ _ _ _ _ _ k _ h1.2 h2.2 h3.2 h4.2 h5.2 _ (by omega) (by omega)).mono ?_; rintro e w1 ⟨rfl, hB1⟩)
    go_ret
    exact ⟨rfl, bgo (w := w) (by repeat (first | (with_reducible exact Below.refl _ _) | (with_reducible assumption) | (with_reducible apply bbox) | ((with_reducible apply Below.setCell); (case hp => (first | exact Nat.le_refl _ | (simp; done) | (simp; omega) | (simp only; omega) | omega))) | (with_reducible apply Below.drew) | (with_reducible apply below_drewN))) hB1⟩
  · have hV : CtrV w 0 w.heap.size (.agg #[.slice A1 k.pre.facts.length c1, .slice A2 k.pre.atoms.length c2, .slice A3 k.post.facts.length c3, .slice A4 k.post.atoms.length c4, .slice A5 k.changes.length c5]) k := by
      unfold szC at hs
      have g1 : ¬ szA k.pre 1048576 < 0 := fun g => hs (by rw [if_pos g]; omega)
      rw [if_neg g1] at hs
      have g2 : ¬ szA k.post (szA k.pre 1048576) < 0 := fun g => hs (by rw [if_pos g]; omega)
      rw [if_neg g2] at hs
      have e1 := szA_le g1
      have e2 := szA_le g2
      have e3 := szL_le hs
      exact ⟨_, _, _, _, _, _, rfl, ⟨_, _, _, _, rfl, h1.toV (by omega), h2.toV (by omega)⟩, ⟨_, _, _, _, rfl, h3.toV (by omega), h4.toV (by omega)⟩, h5.toV (by omega)⟩
    have hV' := Lib.hid hV
    clear hV
    go_enter Try.func3, Try.ntmps3
    have hb0 := bbox (Below.refl w.heap.size w) (.cells #[.slice A1 k.pre.facts.length c1, .slice A2 k.pre.atoms.length c2, .slice A3 k.post.facts.length c3, .slice A4 k.post.atoms.length c4, .slice A5 k.changes.length c5] 28)
    go_wp2_with fail
    refine (c_szContract _ _ _ _ _ _ _ _ _ _ k _ h1.2 h2.2 h3.2 h4.2 h5.2 _ (by omega) (by omega)).mono ?_; rintro e w1 ⟨rfl, hB1⟩
    have hB := bgo hb0 hB1
    have hk := Blk.next (Blk.new _ _ _) hB1
    have q1 := hk.cell
    go_wp2_with fail
    refine (c_toContract _ k _ (hV'.out.below hB)).mono ?_; rintro e w2 ⟨v2, rfl, hv2, hB2⟩
    have hk2 := hk.next hB2
    have hBw2 := bgo hB hB2
    clear q1
    go_wp2_with fail
    refine (c_spec_ContractValid v2 k _ hv2).mono ?_; rintro e w3 ⟨rfl, hB3⟩
    have hk3 := hk2.next hB3
    have q3 := hk3.cell
    have hBw3 := bgo hBw2 hB3
    go_wp2_with fail
    refine (c_toContract _ k _ (hV'.out.below hBw3)).mono ?_; rintro e w4 ⟨v4, rfl, hv4, hB4⟩
    have hk4 := hk3.next hB4
    have hBw4 := bgo hBw3 hB4
    clear q3
    obtain ⟨x1, x2, x3, x4, B5, y5, rfl, g1, g2, g3⟩ := hv4
    have hone1 : ∃ B1 d1 B2 d2 B3 d3 B4 d4, x1 = .slice B1 k.pre.facts.length d1 ∧ x2 = .slice B2 k.pre.atoms.length d2 ∧ x3 = .slice B3 k.post.facts.length d3 ∧ x4 = .slice B4 k.post.atoms.length d4 := by
      obtain ⟨B1, d1, B2, d2, e, -, -⟩ := g1
      obtain ⟨B3, d3, B4, d4, e', -, -⟩ := g2
      simp only [Value.agg.injEq, Array.mk.injEq, List.cons.injEq, and_true] at e e'
      exact ⟨B1, d1, B2, d2, B3, d3, B4, d4, e.1, e.2, e'.1, e'.2⟩
    obtain ⟨B1, d1, B2, d2, B3, d3, B4, d4, rfl, rfl, rfl, rfl⟩ := hone1
    go_wp2_with fail
    refine (c_impl_ContractValid _ k _ ⟨_, _, _, _, _, _, rfl, g1.below (by repeat (first | (with_reducible exact Below.refl _ _) | (with_reducible assumption) | (with_reducible apply bbox) | ((with_reducible apply Below.setCell); (case hp => (first | exact Nat.le_refl _ | (simp; done) | (simp; omega) | (simp only; omega) | omega))) | (with_reducible apply Below.drew) | (with_reducible apply below_drewN))), g2.below (by repeat (first | (with_reducible exact Below.refl _ _) | (with_reducible assumption) | (with_reducible apply bbox) | ((with_reducible apply Below.setCell); (case hp => (first | exact Nat.le_refl _ | (simp; done) | (simp; omega) | (simp only; omega) | omega))) | (with_reducible apply Below.drew) | (with_reducible apply below_drewN))), g3.below (by repeat (first | (with_reducible exact Below.refl _ _) | (with_reducible assumption) | (with_reducible apply bbox) | ((with_reducible apply Below.setCell); (case hp => (first | exact Nat.le_refl _ | (simp; done) | (simp; omega) | (simp only; omega) | omega))) | (with_reducible apply Below.drew) | (with_reducible apply below_drewN)))⟩).mono ?_; rintro e w5 ⟨rfl, hB5⟩
    have hr5 := bgo (w := w4) (by repeat (first | (with_reducible exact Below.refl _ _) | (with_reducible assumption) | (with_reducible apply bbox) | ((with_reducible apply Below.setCell); (case hp => (first | exact Nat.le_refl _ | (simp; done) | (simp; omega) | (simp only; omega) | omega))) | (with_reducible apply Below.drew) | (with_reducible apply below_drewN))) hB5
    have hBw5 := bgo hBw4 hr5
    have hk5 := hk4.next hr5
    have hk6 := Blk.next (Blk.new _ _ _) hB5
    have q5 := hk5.cell
    have q6 := hk6.cell
    go_wp2_with fail
    clear q5 q6 hk hk2 hk3 hk4
    go_region_held3 (fun w' => (∀ i, w'.cell? ⟨w.heap.size, i, none⟩ = #[.slice A1 k.pre.facts.length c1, .slice A2 k.pre.atoms.length c2, .slice A3 k.post.facts.length c3, .slice A4 k.post.atoms.length c4, .slice A5 k.changes.length c5][i]?) ∧ (∀ i, w'.cell? ⟨w4.heap.size, i, none⟩ = #[.slice B1 k.pre.facts.length d1, .slice B2 k.pre.atoms.length d2, .slice B3 k.post.facts.length d3, .slice B4 k.post.atoms.length d4, .slice B5 k.changes.length y5][i]?))
      (first | exact ⟨hk5.drew.cell, hk6.drew.cell⟩ | exact ⟨hk7.cell, hk8.cell⟩ | exact ⟨hk9.cell, hk10.cell⟩)
      (first
        | (go_at_call 10; refine (c_toContract _ k _ (hV'.out.below hBw5.drew)).mono ?_; rintro e w6 ⟨v6, rfl, hv6, hB6⟩; have hk7 := hk5.drew.next hB6; have hk8 := hk6.drew.next hB6; have hBw6 := bgo hBw5.drew hB6)
        | (go_at_call 12; refine (c_eqContract _ v6 k _ ⟨_, _, _, _, _, _, rfl, (g1.below hr5.drew).below hB6, (g2.below hr5.drew).below hB6, (g3.below hr5.drew).below hB6⟩ hv6).mono ?_; rintro e w7 ⟨rfl, hB7⟩; have hk9 := hk7.next hB7; have hk10 := hk8.next hB7))
    go_wp2_with fail
    trace_state
    go_ret
    exact ⟨rfl, bgo hBw6 hB7⟩
end Go.Proofs.Ytajnndhgeboloaa
