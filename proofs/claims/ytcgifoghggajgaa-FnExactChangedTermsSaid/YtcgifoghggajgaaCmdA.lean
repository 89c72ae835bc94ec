/- Programs: the laws' own helpers: the size. -/
import Derived.Test.YtcgifoghggajgaaCmd
import Derived.Test.YtcgifoghggajgaaArg
set_option linter.unusedSimpArgs false
set_option linter.unusedVariables false
namespace Go.Proofs.Ytcgifoghggajgaa
open Go Go.RowKit Go.Proofs

def Cms.sz : Cms → Nat
  | .nil => 0
  | .cons _ _ _ _ _ body els r => body.sz + els.sz + r.sz + 1
theorem Cms.sz_drop : ∀ (n : Nat) (L : Cms), (L.drop n).sz ≤ L.sz
  | 0, L => Nat.le_refl _
  | n + 1, .nil => Nat.le_refl _
  | n + 1, .cons _ _ _ _ _ _ _ r => by simp only [Cms.drop, Cms.sz]; have := Cms.sz_drop n r; omega
theorem Cms.cost_drop : ∀ (n : Nat) (L : Cms), (L.drop n).cost ≤ L.cost
  | 0, L => Nat.le_refl _
  | n + 1, .nil => Nat.le_refl _
  | n + 1, .cons _ _ _ _ _ _ _ r => by simp only [Cms.drop, Cms.cost]; have := Cms.cost_drop n r; omega
theorem szL_add {m n : Nat} {left : Int} (h : ¬ szL m left < 0) : szL n (szL m left) = szL (m + n) left := by
  have := szL_le h
  rw [this.1]; unfold szL
  have : left - (m : Int) - n = left - ((m + n : Nat) : Int) := by omega
  rw [this]
theorem szL_more {m n : Nat} {left : Int} (h : szL m left < 0) : szL (m + n) left = -1 := by
  unfold szL at h ⊢; split at h
  · rw [if_pos (by omega)]
  · omega
theorem szA_eq {a : Asn} {left : Int} : szA a left = szL (a.facts.length + a.atoms.length) left := by
  unfold szA; split
  · rename_i h; rw [szL_more h]
  · rename_i h; rw [szL_add h]
/-- one command's own size -/
def cost1 (i : Asn) (body els : Cms) : Nat := i.facts.length + i.atoms.length + (body.len + body.cost) + (els.len + els.cost)

--@ laws.szCmd
set_option maxHeartbeats 1600000 in
theorem c_szCmd (k a b : Int) (t : Fct) (i : Asn) (A1 A2 A3 A4 : Option Addr) (c1 c2 c3 c4 : Nat) (body els : Cms) (left : Int) (w : World)
    (hb : CmsV w 0 w.heap.size A3 body) (he : CmsV w 0 w.heap.size A4 els) (h1 : i.facts.length ≤ 9223372036854775807) (h2 : i.atoms.length ≤ 9223372036854775807) (hl0 : 0 ≤ left) (hl1 : left ≤ 1048576)
    (IB : ∀ (left : Int) (w : World), CmsV w 0 w.heap.size A3 body → 0 ≤ left → left ≤ 1048576 → Calls Try.prog 15 #[.slice A3 body.len c3, .int .i64 left] w fun e w' => e = .returned (.int .i64 (szL (body.len + body.cost) left)) ∧ Below w.heap.size w w')
    (IE : ∀ (left : Int) (w : World), CmsV w 0 w.heap.size A4 els → 0 ≤ left → left ≤ 1048576 → Calls Try.prog 15 #[.slice A4 els.len c4, .int .i64 left] w fun e w' => e = .returned (.int .i64 (szL (els.len + els.cost) left)) ∧ Below w.heap.size w w') :
    Calls Try.prog 73 #[.agg #[.int .i64 k, .int .i64 a, .int .i64 b, .bool t.eq, .int .i64 t.a, .int .i64 t.b, .slice A1 i.facts.length c1, .slice A2 i.atoms.length c2, .slice A3 body.len c3, .slice A4 els.len c4], .int .i64 left] w fun e w' =>
      e = .returned (.int .i64 (szL (cost1 i body els) left)) ∧ Below w.heap.size w w' := by
  obtain ⟨m0, hm0⟩ : ∃ m0, m0 = i.facts.length + i.atoms.length := ⟨_, rfl⟩
  obtain ⟨m1, hm1⟩ : ∃ m1, m1 = body.len + body.cost := ⟨_, rfl⟩
  obtain ⟨m2, hm2⟩ : ∃ m2, m2 = els.len + els.cost := ⟨_, rfl⟩
  rw [← hm1] at IB
  rw [← hm2] at IE
  obtain ⟨x0, hx0⟩ : ∃ x0, x0 = szL m0 left := ⟨_, rfl⟩
  obtain ⟨x1, hx1⟩ : ∃ x1, x1 = szL m1 x0 := ⟨_, rfl⟩
  obtain ⟨x2, hx2⟩ : ∃ x2, x2 = szL m2 x1 := ⟨_, rfl⟩
  have b0 : ¬ x0 < 0 → x0 ≤ 1048576 := fun h => by rw [hx0] at h ⊢; have := szL_le h; omega
  have b1 : ¬ x0 < 0 → ¬ x1 < 0 → x1 ≤ 1048576 := fun h0 h => by have := b0 h0; rw [hx1] at h ⊢; have := szL_le h; omega
  have ea : szA i left = x0 := by rw [szA_eq, hx0, hm0]
  have r1 : x0 < 0 → szL (cost1 i body els) left = -1 := fun h => by
    rw [show cost1 i body els = m0 + (m1 + m2) from by unfold cost1; omega]; exact szL_more (by rw [← hx0]; exact h)
  have r2 : ¬ x0 < 0 → x1 < 0 → szL (cost1 i body els) left = -1 := fun h0 h => by
    rw [show cost1 i body els = m0 + m1 + m2 from by unfold cost1; omega]; refine szL_more ?_
    rw [← szL_add (by rw [← hx0]; exact h0), ← hx0, ← hx1]; exact h
  have r3 : ¬ x0 < 0 → ¬ x1 < 0 → szL (cost1 i body els) left = x2 := fun h0 h => by
    rw [show cost1 i body els = m0 + m1 + m2 from by unfold cost1; omega, ← szL_add, ← szL_add (by rw [← hx0]; exact h0), ← hx0, ← hx1, hx2]
    rw [← szL_add (by rw [← hx0]; exact h0), ← hx0, ← hx1]; exact h
  have r4 : x2 < 0 → x2 = -1 := fun h => by rw [hx2] at h ⊢; exact szL_neg h
  have hz0 := Lib.hid hx0
  have hz1 := Lib.hid hx1
  have hz2 := Lib.hid hx2
  have hr1 := Lib.hid r1
  have hr2 := Lib.hid r2
  have hr3 := Lib.hid r3
  have hr4 := Lib.hid r4
  have hb0 := Lib.hid b0
  have hb1 := Lib.hid b1
  have hIB := Lib.hid IB
  have hIE := Lib.hid IE
  have hea := Lib.hid ea
  clear hm0 hm1 hm2 hx0 hx1 hx2 r1 r2 r3 r4 b0 b1 IB IE ea
  generalize hR : szL (cost1 i body els) left = R at hr1 hr2 hr3 ⊢
  have hRh := Lib.hid hR
  clear hR
  have hHb := Lib.hid hb
  have hHe := Lib.hid he
  clear hb he
  obtain ⟨B0, hB0e⟩ : ∃ B0, B0 = w.heap.size := ⟨_, rfl⟩
  go_enter Try.func73, Try.ntmps73
  go_wp2_with fail
  refine (c_szAssertion _ _ _ _ _ _ _ h1 h2 hl0 hl1).mono ?_
  rintro e w1 ⟨rfl, hB1⟩
  rw [hea.out]
  have hB := bgo (w := w) bel hB1
  have k0 := (Blk.new w _ _).next hB1
  have q := k0.cell
  have r := k0.frozen
  have lt := k0.lt
  by_cases q0 : x0 < 0
  · go_wp2_with fail
    go_ret
    exact ⟨ret_int (by rw [hr1.out (by omega)]), bel⟩
  have g0 := hb0.out (by omega)
  go_wp2_with fail
  refine (hIB.out _ _ (hHb.out.below bel |>.mono (Nat.le_refl _) (by have := hB.size; first | omega | (simp; omega))) (by omega) g0).mono ?_
  rintro e w2 ⟨rfl, hB2⟩
  rw [← hz1.out]
  have hBB := bgo (w := w) bel hB2
  have k1 := k0.next hB2
  clear q r lt
  have q := k1.cell
  have r := k1.frozen
  have lt := k1.lt
  by_cases q1 : x1 < 0
  · go_wp2_with fail
    go_ret
    exact ⟨ret_int (by rw [hr2.out (by omega) (by omega)]), bel⟩
  have g1 := hb1.out (by omega) (by omega)
  go_wp2_with fail
  refine (hIE.out _ _ (hHe.out.below bel |>.mono (Nat.le_refl _) (by have := hBB.size; first | omega | (simp; omega))) (by omega) g1).mono ?_
  rintro e w3 ⟨rfl, hB3⟩
  rw [← hz2.out]
  have hBBB := bgo (w := w) bel hB3
  by_cases q2 : x2 < 0
  · go_wp2_with fail
    go_ret
    exact ⟨ret_int (by rw [hr3.out (by omega) (by omega), hr4.out (by omega)]), bel⟩
  · go_wp2_with fail
    go_ret
    exact ⟨ret_int (by rw [hr3.out (by omega) (by omega)]), bel⟩

--@ laws.szCmdS
set_option maxHeartbeats 1600000 in
theorem szCmdS_go : ∀ (N : Nat) (L : Cms), L.sz < N → ∀ (A : Option Addr) (c : Nat) (left : Int) (w : World), CmsV w 0 w.heap.size A L → L.len ≤ 9223372036854775807 → L.small 9223372036854775807 → 0 ≤ left → left ≤ 1048576 →
    Calls Try.prog 15 #[.slice A L.len c, .int .i64 left] w fun e w' => e = .returned (.int .i64 (szL (L.len + L.cost) left)) ∧ Below w.heap.size w w' := by
  intro N
  induction N with
  | zero => intro L h; omega
  | succ N IH =>
    intro L hsz A c left w hV hlen hsm hl0 hl1
    replace IH := Lib.hid IH
    replace hV := Lib.hid hV
    replace hsm := Lib.hid hsm
    replace hsz := Lib.hid hsz
    obtain ⟨n, hn⟩ : ∃ n, n = L.len := ⟨_, rfl⟩
    obtain ⟨tot, htot⟩ : ∃ tot, tot = n + L.cost := ⟨_, rfl⟩
    obtain ⟨R, hR⟩ : ∃ R, R = szL tot left := ⟨_, rfl⟩
    rw [← hn, ← htot, ← hR]
    rw [← hn] at hlen
    have hRneg : left < tot → R = -1 := fun h => by rw [hR]; unfold szL; rw [if_pos (by omega)]
    have hRpos : ¬ left < tot → R = left - tot := fun h => by rw [hR]; unfold szL; rw [if_neg (by omega)]
    replace htot := Lib.hid htot
    replace hR := Lib.hid hR
    replace hRneg := Lib.hid hRneg
    replace hRpos := Lib.hid hRpos
    replace hn := Lib.hid hn
    by_cases q0 : left - n < 0
    · go_enter Try.func15, Try.ntmps15
      go_wp2_with fail
      go_ret
      exact ⟨ret_int (by rw [hRneg.out (by have := htot.out; omega)]), bel⟩
    go_enter Try.func15, Try.ntmps15
    go_wp2_with fail
    go_loopw [1, 5] (fun x i wr => ∃ (j m : Nat), j ≤ n ∧ i = .int .i64 j ∧ x = .int .i64 (left - m) ∧ 0 ≤ left - m ∧ Hid (m + (L.drop j).cost = tot) ∧ Below w.heap.size w wr) (fun _ i _ => n - (intOf i).toNat)
    case atStart => exact ⟨0, n, Nat.zero_le _, rfl, rfl, by omega, Lib.hid htot.out.symm, bel⟩
    case round =>
      obtain ⟨j, m, hj, rfl, rfl, hm0, hM, hB⟩ := hrel
      by_cases hlt : j < n
      · have hpos : 0 < (L.drop j).len := by rw [Cms.drop_len, ← hn.out]; omega
        obtain ⟨k, a, b, t, i, body, els, r, eL⟩ := Cms.cons_of_len hpos
        obtain ⟨bl, o, rfl, -, -, hAt⟩ := (hV.out.below hB) (by rw [← hn.out]; omega)
        have hD := hAt.drop j
        have hS := Cms.small_drop j hsm.out
        have hZ := Cms.sz_drop j L
        have hDs := Cms.drop_succ j L eL
        have hM' := hM.out
        rw [eL] at hD hS hZ hM'
        obtain ⟨⟨p0, p1, p2, p3, p4, p5⟩, ⟨A6, c6, p6, -⟩, ⟨A7, c7, p7, -⟩, ⟨A8, c8, p8, g8⟩, ⟨A9, c9, p9, g9⟩, -⟩ := hD
        obtain ⟨s1, s2, s3, s4, s5, s6, -⟩ := hS
        simp only [Cms.sz] at hZ
        have hbs : body.sz < N := by have := hsz.out; omega
        have hes : els.sz < N := by have := hsz.out; omega
        have hM2 : m + cost1 i body els + r.cost = tot := by simp only [Cms.cost] at hM'; unfold cost1; omega
        replace hM2 := Lib.hid hM2
        replace hbs := Lib.hid hbs
        replace hes := Lib.hid hes
        replace s3 := Lib.hid s3
        replace s4 := Lib.hid s4
        replace s5 := Lib.hid s5
        replace s6 := Lib.hid s6
        replace g8 := Lib.hid g8
        replace g9 := Lib.hid g9
        replace hDs := Lib.hid hDs
        replace eL := Lib.hid eL
        clear hM' hZ hpos hAt
        go_wp2_with fail
        refine (c_szCmd k a b t i A6 A7 A8 A9 c6 c7 c8 c9 body els (left - m) wr ((show CmsV wr 0 w.heap.size A8 body from g8.out).mono (Nat.le_refl _) hB.size) ((show CmsV wr 0 w.heap.size A9 els from g9.out).mono (Nat.le_refl _) hB.size) s1 s2 (by omega) (by omega) (fun left w h1 h2 h3 => IH.out body hbs.out _ _ _ _ h1 s3.out s5.out h2 h3) (fun left w h1 h2 h3 => IH.out els hes.out _ _ _ _ h1 s4.out s6.out h2 h3)).mono ?_
        rintro e w2 ⟨rfl, hB2⟩
        have hB3 := bgo hB hB2
        clear p0 p1 p2 p3 p4 p5 p6 p7 p8 p9
        by_cases q1 : szL (cost1 i body els) (left - m) < 0
        · go_wp2_with fail
          go_ret
          refine ⟨ret_int ?_, hB3⟩
          rw [hRneg.out ?_]
          have := hM2.out
          unfold szL at q1; split at q1 <;> omega
        · have q2 := szL_le q1
          rw [q2.1] at q1 ⊢
          have q2 := q2.2
          go_wp2_with fail
          go_round
          case rel => exact ⟨j + 1, m + cost1 i body els, by omega, by go_num, by push_cast; congr 1; omega, by push_cast; omega, Lib.hid (by rw [hDs.out]; exact hM2.out), hB3⟩
          case measure => simp [intOf]; omega
      · go_wp2_with fail
        go_ret
        obtain rfl : j = n := by omega
        have e0 : (L.drop j).cost = 0 := by
          have := Cms.drop_len j L
          rw [← hn.out, Nat.sub_self] at this
          cases h : L.drop j with
          | nil => rfl
          | cons => rw [h] at this; simp [Cms.len] at this
        have hM' := hM.out
        rw [e0] at hM'
        exact ⟨ret_int (by rw [hRpos.out (by omega)]; omega), hB⟩
theorem c_szCmdS (L : Cms) (A : Option Addr) (c : Nat) (left : Int) (w : World) (hV : CmsV w 0 w.heap.size A L) (hlen : L.len ≤ 9223372036854775807) (hsm : L.small 9223372036854775807) (h0 : 0 ≤ left) (h1 : left ≤ 1048576) :
    Calls Try.prog 15 #[.slice A L.len c, .int .i64 left] w fun e w' => e = .returned (.int .i64 (szL (L.len + L.cost) left)) ∧ Below w.heap.size w w' :=
  szCmdS_go _ L (Nat.lt_succ_self _) A c left w hV hlen hsm h0 h1
--@
end Go.Proofs.Ytcgifoghggajgaa
