/- Contracts: impl's model of a case. -/
import Derived.Test.YtlmjjflalmegfaaGreatMModQ
import Derived.Test.YtlmjjflalmegfaaGreatMDrawT
import Derived.Test.YtlmjjflalmegfaaGreatMStSame
import Derived.IntWalk
set_option linter.unusedSimpArgs false
set_option linter.unusedVariables false
namespace Go.Proofs.YtlmjjflalmegfaaGreat
open Go Go.RowKit Go.Proofs
attribute [local go_sem ↓] Go.wp_at_zero Go.wp_at_succ

/-- a block that is a row of numbers -/
def RowI (w : World) (g : Nat) (vs : List Int) : Prop := Blk w g tI (encI vs).toArray
theorem RowI.cl {w : World} {g k : Nat} {vs : List Int} (h : RowI w g vs) (hk : k < vs.length) : w.cell? ⟨g, k, none⟩ = some (.int .i64 (cl vs k)) := case_cell h hk
theorem RowI.set_ {w : World} {g : Nat} {vs : List Int} (h : RowI w g vs) (k : Nat) (v : Int) : RowI (w.setCell ⟨g, k, none⟩ (.int .i64 v)) g (vs.set k v) := by
  have := Blk.set_ h k (.int .i64 v)
  unfold RowI
  rw [List.setIfInBounds_toArray] at this
  rw [show encI (vs.set k v) = (encI vs).set k (.int .i64 v) from List.map_set]
  exact this
theorem RowI.fr {w w' : World} {g x : Nat} {vs : List Int} (h : RowI w x vs) (hf : Fr g w w') (hx : x ≠ g) : RowI w' x vs := Blk.fr h hf hx
theorem RowI.toO {w : World} {g base n : Nat} {vs : List Int} (h : RowI w g vs) (hb : base ≤ g) (hl : vs.length = n) (hn : n ≤ 1000) : IntsO w base (.slice (some ⟨g, 0, none⟩) n n) vs := by
  refine ⟨?_, by rw [hl]; unfold Lim; omega⟩
  rw [hl]
  exact own_of_blk (n := n) (cap := n) h hb (by simp [encI, hl]) (by intro j hj; simp) (Nat.le_refl _) (by unfold maxLen; omega) (by simp [encI, hl])
theorem RowI.toV {w : World} {g : Nat} {vs : List Int} (h : RowI w g vs) (hl : vs.length ≤ 100) : IntsV w g (g + 1) (some ⟨g, 0, none⟩) vs := IntsV.lit h rfl hl
def zero8 : List Int := List.replicate 8 0
theorem mkI8 (w : World) : (Instr.makeSlice 27 (.int .i64 8) (.int .i64 8)).run Tryz.prog w = .ok (.slice (some ⟨w.heap.size, 0, none⟩) 8 8) (w.alloc (.cells (encI zero8).toArray tI)) :=
  (mkI 8 (by decide) w).trans (by rw [show (madeCells #[.int .i64 0] (8 * 1)) = (encI zero8).toArray from by kernel_rfl])
theorem c_termV8 {lo hi : Nat} (A : Option Addr) (c : Nat) (vs : List Int) (t : Int) (w : World) (h : IntsV w lo hi A vs) (hl : vs.length = 8) (h0 : 0 ≤ t) (h8 : t ≤ 8) : Calls Tryz.prog 135 #[.slice A 8 c, .int .i64 t] w fun e w' => e = .returned (.int .i64 (tval vs t)) ∧ w = w' := by
  have := c_impl_termValue A c vs t w h h0 (by rw [hl]; exact h8)
  rwa [hl] at this

--@ impl.caseState
set_option maxRecDepth 100000 in
set_option maxHeartbeats 6400000 in
theorem c_impl_caseState {lo hi : Nat} (v : Value) (a : Asn) (S : Nat) (c : List Int) (w : World) (h : AsnV w lo hi v a) (hv : a.valid = true) (h0 : S.testBit 0 = true) (hS : ∀ t ∈ termsL a, S.testBit t.toNat = true) (hc : c ∈ cases a S) :
    Calls Tryz.prog 63 #[v, .agg (case9 c)] w fun e w' => ∃ r, e = .returned r ∧ StateO w' w.heap.size r (modS a c) ∧ Below w.heap.size w w' := by
  have hV := Lib.hid h
  have HC := Lib.hid (csd_of h0 hc)
  have HF := Lib.hid (filled_ok hv h0 hS hc)
  have HOK := Lib.hid (Asn.valid_ok hv)
  have HMV := Lib.hid (modV_ok c)
  obtain ⟨A1, c1, A2, c2, rfl, -, h2⟩ := h
  have H2 := Lib.hid h2
  clear h2 hv h0 hS hc
  go_enter Tryz.func63, Tryz.ntmps63
  have k0 : Blk (((w.alloc (.cells #[.slice A1 a.facts.length c1, .slice A2 a.atoms.length c2] tAs)).alloc (.cells (case9 c) tTc)).alloc (.cells #[.slice none 0 0, .slice none 0 0] tSt)) w.heap.size tAs #[.slice A1 a.facts.length c1, .slice A2 a.atoms.length c2] := blks
  have k1 : Blk (((w.alloc (.cells #[.slice A1 a.facts.length c1, .slice A2 a.atoms.length c2] tAs)).alloc (.cells (case9 c) tTc)).alloc (.cells #[.slice none 0 0, .slice none 0 0] tSt)) (w.heap.size + 1) tTc (case9 c) := blks
  have k2 : Blk (((w.alloc (.cells #[.slice A1 a.facts.length c1, .slice A2 a.atoms.length c2] tAs)).alloc (.cells (case9 c) tTc)).alloc (.cells #[.slice none 0 0, .slice none 0 0] tSt)) (w.heap.size + 1 + 1) tSt #[.slice none 0 0, .slice none 0 0] := blks
  have hB0 : Below w.heap.size w (((w.alloc (.cells #[.slice A1 a.facts.length c1, .slice A2 a.atoms.length c2] tAs)).alloc (.cells (case9 c) tTc)).alloc (.cells #[.slice none 0 0, .slice none 0 0] tSt)) := bel
  have hs0 : w.heap.size + 3 ≤ (((w.alloc (.cells #[.slice A1 a.facts.length c1, .slice A2 a.atoms.length c2] tAs)).alloc (.cells (case9 c) tTc)).alloc (.cells #[.slice none 0 0, .slice none 0 0] tSt)).heap.size := by simp
  have hmk := mkI8
  go_wp2_with fail
  generalize (((w.alloc (.cells #[.slice A1 a.facts.length c1, .slice A2 a.atoms.length c2] tAs)).alloc (.cells (case9 c) tTc)).alloc (.cells #[.slice none 0 0, .slice none 0 0] tSt)) = W at k0 k1 k2 hB0 hs0 ⊢
  refine wp_region_noPanic ?_
  refine wp_region_held_drew (S := (fun _ => True)) (by kernel_rfl) (trivial) (fun hHeld => ?_)
  refine wpAnyH_par [0, 1, 2, 3, 4] #[true, true, true, true, true] 5 (by kernel_rfl) hHeld
    (fun a0 D a1 w' => Hid (Below W.heap.size W w') ∧ ∃ v11 v12 v13 v5, a1 = (((a0.put (some 11) v11).put (some 12) v12).put (some 13) v13).put (some 5) v5 ∧
      Hid (dn D 0 = true → ∃ x, v11 = .slice (some ⟨x, 0, none⟩) 8 8 ∧ W.heap.size ≤ x ∧ RowI w' x zero8) ∧
      Hid (dn D 1 = true → ∃ x, v12 = .slice (some ⟨x, 0, none⟩) 8 8 ∧ W.heap.size ≤ x ∧ RowI w' x zero8) ∧
      Hid (dn D 0 = true → dn D 1 = true → ∀ x y, v11 = .slice (some ⟨x, 0, none⟩) 8 8 → v12 = .slice (some ⟨y, 0, none⟩) 8 8 → x ≠ y) ∧
      Hid ((dn D 2 = true → (dn D 0 = true ∧ dn D 1 = true) ∧ v13 = .agg #[v11, v12]) ∧ (dn D 4 = true → dn D 2 = true ∧ dn D 3 = true)) ∧
      Hid (dn D 3 = true → ∃ x, v5 = .pointer (some ⟨x, 0, none⟩) ∧ W.heap.size ≤ x ∧ Blk w' x tSt (if dn D 4 = true then #[v11, v12] else #[.slice none 0 0, .slice none 0 0]))) ?start ?steps ?fin
  case start => exact ⟨(Below.refl _ _).drew, undef, undef, undef, undef, rfl, (fun h => absurd h (by decide)), (fun h => absurd h (by decide)), (fun h => absurd h (by decide)), ⟨(fun h => absurd h (by decide)), (fun h => absurd h (by decide))⟩, (fun h => absurd h (by decide))⟩
  case steps =>
    refine ParSteps.cons rfl (fun D a1 w' hu hd hI hS K' hK G hG => ?_) (ParSteps.cons rfl (fun D a1 w' hu hd hI hS K' hK G hG => ?_) (ParSteps.cons rfl (fun D a1 w' hu hd hI hS K' hK G hG => ?_) (ParSteps.cons rfl (fun D a1 w' hu hd hI hS K' hK G hG => ?_) (ParSteps.cons rfl (fun D a1 w' hu hd hI hS K' hK G hG => ?_) ParSteps.nil))))
    · obtain ⟨HW, v11, v12, v13, v5, ha, h0, h1, hx, h2, h3⟩ := hI
      rw [ha] at hG
      clear ha a1
      have u0 := dn_un hu
      have u2 : dn D 2 = false := by cases e : dn D 2; rfl; have := (h2.out.1 e).1.1; rw [u0] at this; cases this
      have u4 : dn D 4 = false := by cases e : dn D 4; rfl; have := (h2.out.2 e).1; rw [u2] at this; cases this
      have HU := Lib.hid (And.intro u2 u4)
      clear u0 u2 u4
      refine hG ?_
      clear hG hd
      try simp only [Act.put, List.setIfInBounds_toArray, List.set_cons_zero, List.set_cons_succ]
      go_simp
      refine hK.out _ _ trivial ⟨HW.out.trans ((bbox (Below.refl _ _) _).mono HW.out.size), .slice (some ⟨w'.heap.size, 0, none⟩) 8 8, v12, v13, v5, rfl, fun _ => ⟨_, rfl, HW.out.size, Blk.new _ _ _⟩, fun h => ?_, fun _ h x y ex ey => ?_, ⟨fun h => ?_, fun h => ?_⟩, fun h => ?_⟩
      · rw [dn_ne (by decide)] at h; obtain ⟨x, ex, hx, kx⟩ := h1.out h; exact ⟨x, ex, hx, Blk.alloc kx _⟩
      · rw [dn_ne (by decide)] at h; obtain ⟨z, ez, hz, kz⟩ := h1.out h; rw [ez] at ey; injection ex with ex; injection ex with ex; injection ex with ex; injection ey with ey; injection ey with ey; injection ey with ey; have := Blk.lt kz; omega
      · rw [dn_ne (by decide), HU.out.1] at h; cases h
      · rw [dn_ne (by decide), HU.out.2] at h; cases h
      · rw [dn_ne (by decide)] at h; obtain ⟨x, ex, hx, kx⟩ := h3.out h; refine ⟨x, ex, hx, ?_⟩; rw [dn_ne (by decide)]; rw [HU.out.2, if_neg (by decide)] at kx ⊢; exact kx.alloc _
    · obtain ⟨HW, v11, v12, v13, v5, ha, h0, h1, hx, h2, h3⟩ := hI
      rw [ha] at hG
      clear ha a1
      have u1 := dn_un hu
      have u2 : dn D 2 = false := by cases e : dn D 2; rfl; have := (h2.out.1 e).1.2; rw [u1] at this; cases this
      have u4 : dn D 4 = false := by cases e : dn D 4; rfl; have := (h2.out.2 e).1; rw [u2] at this; cases this
      have HU := Lib.hid (And.intro u2 u4)
      clear u1 u2 u4
      refine hG ?_
      clear hG hd
      try simp only [Act.put, List.setIfInBounds_toArray, List.set_cons_zero, List.set_cons_succ]
      go_simp
      refine hK.out _ _ trivial ⟨HW.out.trans ((bbox (Below.refl _ _) _).mono HW.out.size), v11, .slice (some ⟨w'.heap.size, 0, none⟩) 8 8, v13, v5, rfl, fun h => ?_, fun _ => ⟨_, rfl, HW.out.size, Blk.new _ _ _⟩, fun h _ x y ex ey => ?_, ⟨fun h => ?_, fun h => ?_⟩, fun h => ?_⟩
      · rw [dn_ne (by decide)] at h; obtain ⟨x, ex, hx, kx⟩ := h0.out h; exact ⟨x, ex, hx, Blk.alloc kx _⟩
      · rw [dn_ne (by decide)] at h; obtain ⟨z, ez, hz, kz⟩ := h0.out h; rw [ez] at ex; injection ex with ex; injection ex with ex; injection ex with ex; injection ey with ey; injection ey with ey; injection ey with ey; have := Blk.lt kz; omega
      · rw [dn_ne (by decide), HU.out.1] at h; cases h
      · rw [dn_ne (by decide), HU.out.2] at h; cases h
      · rw [dn_ne (by decide)] at h; obtain ⟨x, ex, hx, kx⟩ := h3.out h; refine ⟨x, ex, hx, ?_⟩; rw [dn_ne (by decide)]; rw [HU.out.2, if_neg (by decide)] at kx ⊢; exact kx.alloc _
    · obtain ⟨HW, v11, v12, v13, v5, ha, h0, h1, hx, h2, h3⟩ := hI
      rw [ha] at hG
      clear ha a1
      have t0 : dn D 0 = true := hd ⟨0, .data⟩ (by simp) (by decide)
      have t1 : dn D 1 = true := hd ⟨1, .data⟩ (by simp) (by decide)
      have u2 := dn_un hu
      have u4 : dn D 4 = false := by cases e : dn D 4; rfl; have := (h2.out.2 e).1; rw [u2] at this; cases this
      have HU := Lib.hid (And.intro u4 (And.intro t0 t1))
      obtain ⟨x1, e1, hx1, kx1⟩ := h0.out t0
      obtain ⟨x2, e2, hx2, kx2⟩ := h1.out t1
      have HX := Lib.hid (hx.out t0 t1)
      subst e1 e2
      clear u2 u4 t0 t1 h0 h1 hx
      refine hG ?_
      clear hG hd
      try simp only [Act.put, List.setIfInBounds_toArray, List.set_cons_zero, List.set_cons_succ]
      go_simp
      refine hK.out _ _ trivial ⟨HW.out, .slice (some ⟨x1, 0, none⟩) 8 8, .slice (some ⟨x2, 0, none⟩) 8 8, .agg #[.slice (some ⟨x1, 0, none⟩) 8 8, .slice (some ⟨x2, 0, none⟩) 8 8], v5, rfl, fun _ => ⟨x1, rfl, hx1, kx1⟩, fun _ => ⟨x2, rfl, hx2, kx2⟩, fun _ _ => HX.out, ⟨fun h => ⟨⟨?_, ?_⟩, rfl⟩, fun h => ?_⟩, fun h => ?_⟩
      · rw [dn_ne (by decide)]; exact HU.out.2.1
      · rw [dn_ne (by decide)]; exact HU.out.2.2
      · rw [dn_ne (by decide), HU.out.1] at h; cases h
      · rw [dn_ne (by decide)] at h ⊢; exact h3.out h
    · obtain ⟨HW, v11, v12, v13, v5, ha, h0, h1, hx, h2, h3⟩ := hI
      rw [ha] at hG
      clear ha a1
      have u3 := dn_un hu
      have u4 : dn D 4 = false := by cases e : dn D 4; rfl; have := (h2.out.2 e).2; rw [u3] at this; cases this
      have HU := Lib.hid u4
      clear u3 u4
      refine hG ?_
      clear hG hd
      try simp only [Act.put, List.setIfInBounds_toArray, List.set_cons_zero, List.set_cons_succ]
      go_simp
      refine hK.out _ _ trivial ⟨HW.out.trans ((bbox (Below.refl _ _) _).mono HW.out.size), v11, v12, v13, .pointer (some ⟨w'.heap.size, 0, none⟩), rfl, fun h => ?_, fun h => ?_, fun h h' => ?_, ⟨fun h => ?_, fun h => ?_⟩, fun _ => ⟨_, rfl, HW.out.size, ?_⟩⟩
      · rw [dn_ne (by decide)] at h; obtain ⟨x, ex, hx, kx⟩ := h0.out h; exact ⟨x, ex, hx, Blk.alloc kx _⟩
      · rw [dn_ne (by decide)] at h; obtain ⟨x, ex, hx, kx⟩ := h1.out h; exact ⟨x, ex, hx, Blk.alloc kx _⟩
      · rw [dn_ne (by decide)] at h h'; exact hx.out h h'
      · rw [dn_ne (by decide)] at h; obtain ⟨⟨t0, t1⟩, e⟩ := h2.out.1 h; exact ⟨⟨by rw [dn_ne (by decide)]; exact t0, by rw [dn_ne (by decide)]; exact t1⟩, e⟩
      · rw [dn_ne (by decide), HU.out] at h; cases h
      · rw [dn_ne (by decide), HU.out, if_neg (by decide)]; exact Blk.new _ _ _
    · obtain ⟨HW, v11, v12, v13, v5, ha, h0, h1, hx, h2, h3⟩ := hI
      rw [ha] at hG
      clear ha a1
      have t2 : dn D 2 = true := hd ⟨2, .data⟩ (by simp) (by decide)
      have t3 : dn D 3 = true := hd ⟨3, .data⟩ (by simp) (by decide)
      have u4 := dn_un hu
      obtain ⟨⟨t0, t1⟩, e13⟩ := h2.out.1 t2
      obtain ⟨x5, e5, hx5, kx5⟩ := h3.out t3
      rw [u4, if_neg (by decide)] at kx5
      obtain ⟨x1, e1, hx1, kx1⟩ := h0.out t0
      obtain ⟨x2, e2, hx2, kx2⟩ := h1.out t1
      have HX := Lib.hid (hx.out t0 t1)
      have HT := Lib.hid (And.intro (And.intro t0 t1) (And.intro t2 t3))
      have ne1 := Blk.ne_ kx5 kx1 (by decide)
      have ne2 := Blk.ne_ kx5 kx2 (by decide)
      have q5 := kx5.cell
      have r5 := kx5.frozen
      have l5 := kx5.lt
      subst e1 e2 e13 e5
      clear h0 h1 hx h2 h3 u4 t0 t1 t2 t3 hd
      refine hG ?_
      clear hG
      try simp only [Act.put, List.setIfInBounds_toArray, List.set_cons_zero, List.set_cons_succ]
      go_simp
      refine hK.out _ _ trivial ⟨(HW.out.setCell (p := ⟨x5, 0, none⟩) (by simp only; omega) _).setCell (p := ⟨x5, 1, none⟩) (by simp only; omega) _, .slice (some ⟨x1, 0, none⟩) 8 8, .slice (some ⟨x2, 0, none⟩) 8 8, .agg #[.slice (some ⟨x1, 0, none⟩) 8 8, .slice (some ⟨x2, 0, none⟩) 8 8], .pointer (some ⟨x5, 0, none⟩), rfl, fun _ => ⟨x1, rfl, hx1, ?_⟩, fun _ => ⟨x2, rfl, hx2, ?_⟩, fun _ _ => HX.out, ⟨fun _ => ⟨⟨?_, ?_⟩, rfl⟩, fun _ => ⟨?_, ?_⟩⟩, fun _ => ⟨x5, rfl, hx5, ?_⟩⟩
      · exact (Blk.far kx1 (p := ⟨x5, 0, none⟩) (by simp only; omega) _).far (p := ⟨x5, 1, none⟩) (by simp only; omega) _
      · exact (Blk.far kx2 (p := ⟨x5, 0, none⟩) (by simp only; omega) _).far (p := ⟨x5, 1, none⟩) (by simp only; omega) _
      · rw [dn_ne (by decide)]; exact HT.out.1.1
      · rw [dn_ne (by decide)]; exact HT.out.1.2
      · rw [dn_ne (by decide)]; exact HT.out.2.1
      · rw [dn_ne (by decide)]; exact HT.out.2.2
      · rw [dn_self hu, if_pos rfl]; exact (kx5.set_ 0 _).set_ 1 _
  case fin =>
    rintro a1 w1 hHeld ⟨HW, v11, v12, v13, v5, rfl, h0, h1, hx, h2, h3⟩
    obtain ⟨x1, rfl, hx1, j1⟩ := h0.out (by decide)
    obtain ⟨x2, rfl, hx2, j2⟩ := h1.out (by decide)
    obtain rfl := (h2.out.1 (by decide)).2
    obtain ⟨x5, rfl, hx5, j5⟩ := h3.out (by decide)
    rw [if_pos (by decide)] at j5
    have ne12 := hx.out (by decide) (by decide) x1 x2 rfl rfl
    have ne15 := Blk.ne_ j5 j1 (by decide)
    have ne25 := Blk.ne_ j5 j2 (by decide)
    replace k0 := k0.next HW.out
    replace k1 := k1.next HW.out
    replace k2 := k2.next HW.out
    have HB1 : Hid (Below w.heap.size w w1) := hB0.trans (HW.out.mono (by omega))
    have l1 := Blk.lt j1
    have l2 := Blk.lt j2
    have l5 := Blk.lt j5
    have hw1 := HW.out.size
    have J1 := Lib.hid j1
    have J2 := Lib.hid j2
    clear h0 h1 hx h2 h3 HW hB0 hmk j1 j2
    try simp only [Act.put, List.setIfInBounds_toArray, List.set_cons_zero, List.set_cons_succ]
    refine wpAnyH_done (by kernel_rfl) ?_ _
    refine NoPanic.normal ?_
    clear hHeld
    (replace qk0 := k0.cell; replace rk0 := k0.frozen; replace lk0 := k0.lt; replace qk1 := k1.cell; replace rk1 := k1.frozen; replace lk1 := k1.lt; replace qk2 := k2.cell; replace rk2 := k2.frozen; replace lk2 := k2.lt)
    have q5 := j5.cell
    have r5 := j5.frozen
    go_wp2_with fail
    clear q5 r5 qk0 rk0 lk0 qk1 rk1 lk1 qk2 rk2 lk2
    have hw3 : w.heap.size + 3 ≤ w1.heap.size := by omega
    have HZ8 : Hid (RowI w1 x2 (blankTo 0)) := J2.out
    go_loopw [17] (fun i wr => ∃ k : Nat, k ≤ 8 ∧ i = .int .i64 k ∧ Hid (RowI wr x2 (blankTo k)) ∧ Hid (Fr x2 w1 wr)) (fun i _ => 8 - (intOf i).toNat)
    case atStart => exact ⟨0, by omega, rfl, HZ8.out, Fr.refl _ _⟩
    case round =>
      obtain ⟨k, hk, rfl, HRW, HFR⟩ := hrel
      have i5 := j5.fr HFR.out (by omega)
      have q5 := i5.cell
      have r5 := i5.frozen
      by_cases hlt : k < 8
      · have hki : (k : Int) < 8 := by omega
        have qx := HRW.out.cl (k := k) (by rw [blankTo_len (by omega)]; exact hlt)
        have rx := Blk.frozen HRW.out
        have lx := Blk.lt HRW.out
        have HS := Lib.hid (HRW.out.set_ k (-1))
        rw [blankTo_set hlt] at HS
        have HF2 := Lib.hid (HFR.out.set_ (p := ⟨x2, k, none⟩) (Or.inl rfl) (.int .i64 (-1)))
        clear HRW HFR
        go_wp2_with fail
        go_round
        case rel => exact ⟨k + 1, by omega, by go_num, HS.out, HF2.out⟩
        case measure => simp [intOf]; omega
      · obtain rfl : k = 8 := by omega
        rw [show ((8 : Nat) : Int) = 8 from rfl]
        have HR2 : Hid (RowI wr x2 blank8) := HRW.out
        have HR1 : Hid (RowI wr x1 (modT c 1)) := by show RowI _ _ _; rw [modT_start]; exact J1.out.fr HFR.out ne12
        have HB2 : Hid (Below w.heap.size w wr) := HB1.out.trans (HFR.out.below (by omega) (by omega))
        have hz2 := HFR.out.size
        replace k0 := k0.fr HFR.out (by omega)
        replace k1 := k1.fr HFR.out (by omega)
        replace k2 := k2.fr HFR.out (by omega)
        clear HRW HFR J1 J2 HZ8 HB1 j5
        go_wp2_with fail
        clear q5 r5
        go_loopw [7, 8] (fun nx i wy => ∃ n : Nat, n ≤ 8 ∧ i = .int .i64 ((n : Int) + 1) ∧ nx = .int .i64 ((rk c n : Int) + 1) ∧ Hid (RowI wy x1 (modT c (n + 1))) ∧ Hid (Fr x1 wr wy)) (fun _ i _ => 9 - (intOf i).toNat)
        case atStart => exact ⟨0, by omega, rfl, by rw [show ((0 : Nat) : Int) = 0 from rfl, rk_zero]; rfl, HR1.out, Fr.refl _ _⟩
        case round =>
          clear HR1
          obtain ⟨n, hn, rfl, rfl, HRW, HFR⟩ := hrel
          have y5 := i5.fr HFR.out (by omega)
          have y1 := k1.fr HFR.out (by omega)
          have q5 := y5.cell
          have r5 := y5.frozen
          by_cases hlt : n < 8
          · have hni : (n : Int) + 1 ≤ 8 := by omega
            have hni9 : (n : Int) + 1 < 9 := by omega
            have qc : wr.cell? ⟨w.heap.size + 1, n + 1, none⟩ = some (.int .i64 (cl c ((n + 1 : Nat) : Int))) := case_cell (y1.case HC.out.len) (by rw [HC.out.len]; omega)
            have rc := y1.frozen
            have HLE := Lib.hid (HC.out.le (n + 1) (by omega))
            have HID := Lib.hid (HC.out.idem (n + 1) (by omega))
            have HROOT : Hid (cl c ((n + 1 : Nat) : Int) = ((n + 1 : Nat) : Int) → mval c ((n + 1 : Nat) : Int) = (rk c (n : Int) : Int) + 1 ∧ rk c ((n + 1 : Nat) : Int) = rk c (n : Int) + 1) := fun h => by
              have := mval_root (c := c) (t := n + 1) (by omega) (by omega) h
              rw [show (((n + 1 : Nat) : Int) - 1) = n from by omega] at this
              exact ⟨by rw [this.1]; rfl, this.2⟩
            have HSAME : Hid (cl c ((n + 1 : Nat) : Int) ≠ ((n + 1 : Nat) : Int) → rk c ((n + 1 : Nat) : Int) = rk c (n : Int)) := fun h => by
              have := rk_same (c := c) (t := n + 1) (by omega) (by omega) h
              rwa [show (((n + 1 : Nat) : Int) - 1) = n from by omega] at this
            have HNONE : Hid (cl c ((n + 1 : Nat) : Int) ≤ 0 → modT c (n + 1 + 1) = modT c (n + 1)) := fun h => modT_keep c (by omega) (by omega) (mval_none h)
            have HOLD : Hid (∀ r : Nat, cl c ((n + 1 : Nat) : Int) = r → cl c (r : Int) = r → mval c (r : Int) = mval c ((n + 1 : Nat) : Int)) := fun r h h' => mval_old h h'
            have HST : Hid (RowI (wr.setCell ⟨x1, n, none⟩ (.int .i64 (mval c ((n + 1 : Nat) : Int)))) x1 (modT c (n + 1 + 1))) := by
              have := HRW.out.set_ n (mval c ((n + 1 : Nat) : Int))
              rwa [show (modT c (n + 1)).set n (mval c ((n + 1 : Nat) : Int)) = modT c (n + 1 + 1) from modT_set c (t := n + 1) (by omega) (by omega)] at this
            have HF2 : Hid (∀ v, Fr x1 _ (wr.setCell ⟨x1, n, none⟩ v)) := fun v => HFR.out.set_ (p := ⟨x1, n, none⟩) (Or.inl rfl) v
            have qx := HRW.out.cl (k := n) (by rw [modT_len]; exact hlt)
            have rx := Blk.frozen HRW.out
            have lx := Blk.lt HRW.out
            have hrk : rk c (n : Int) ≤ 8 := rk_le _ _
            obtain ⟨x, hx⟩ : ∃ x, x = cl c ((n + 1 : Nat) : Int) := ⟨_, rfl⟩
            rw [← hx] at qc HLE HID HROOT HSAME HNONE HOLD
            generalize (rk c (n : Int)) = R at HROOT HSAME hrk ⊢
            generalize (cl (modT c (n + 1)) (n : Int)) = y at qx
            clear hx
            by_cases hroot : x = (n : Int) + 1
            · have hb : (x == (n : Int) + 1) = true := by simpa using hroot
              have e1 := HROOT.out (by omega)
              rw [e1.1] at HST
              have HRK := Lib.hid e1.2
              clear HROOT HSAME HNONE HOLD HID HLE e1 HRW HFR
              rw [hroot] at qc
              clear hroot hb
              go_wp2_with fail
              go_round
              case rel => exact ⟨n + 1, by omega, by go_num, by rw [HRK.out]; go_num, HST.out, HF2.out _⟩
              case measure => simp [intOf]; omega
            · have hb : (x == (n : Int) + 1) = false := by simpa using hroot
              have HRK := Lib.hid (HSAME.out (by omega))
              clear HSAME HROOT
              by_cases hpos : 0 < x
              · obtain ⟨r, rfl⟩ : ∃ r : Nat, x = (r : Int) + 1 := ⟨(x - 1).toNat, by omega⟩
                have hle := HLE.out.2
                have hrn : r < n := by omega
                have hid := HID.out (by omega)
                have hold := HOLD.out (r + 1) (by omega) (by rw [show (((r + 1 : Nat) : Int)) = (r : Int) + 1 from by omega]; exact hid)
                have hcl : cl (modT c (n + 1)) (r : Int) = mval c ((n + 1 : Nat) : Int) := by
                  rw [modT_cl c (by omega), if_pos (by omega)]; exact hold
                have qv := HRW.out.cl (k := r) (by rw [modT_len]; omega)
                rw [hcl] at qv
                have qv2 := HST.out.cl (k := r) (by rw [modT_len]; omega)
                rw [show cl (modT c (n + 1 + 1)) (r : Int) = mval c ((n + 1 : Nat) : Int) from by rw [modT_cl c (by omega), if_pos (by omega)]; exact hold] at qv2
                have QV2 := Lib.hid qv2
                clear qv2
                have hr8 : (r : Int) < 8 := by omega
                have hn8 : (n : Int) < 8 := by omega
                have hrne : r ≠ n := by omega
                have hn0 : 0 ≤ (n : Int) + 1 := by omega
                have hr0 : 0 ≤ (r : Int) + 1 := by omega
                have hn00 : 0 ≤ (n : Int) := by omega
                have hr00 : 0 ≤ (r : Int) := by omega
                have hwr : IntKind.i64.wrap (r : Int) = (r : Int) := IntWalk.i64_in _ (by omega)
                have hwn : IntKind.i64.wrap (n : Int) = (n : Int) := IntWalk.i64_in _ (by omega)
                generalize mval c ((n + 1 : Nat) : Int) = m at HST qv QV2
                clear hcl hold hid HOLD HID HLE HNONE hroot hle HRW
                go_wp2_with fail
                refine wp_region_noPanic ?_
                refine wp_region_held_drew (S := (fun w' => (∀ i, w'.cell? ⟨x5, i, none⟩ = #[.slice (some ⟨x1, 0, none⟩) 8 8, .slice (some ⟨x2, 0, none⟩) 8 8][i]?) ∧ w'.cell? ⟨w.heap.size + 1, n + 1, none⟩ = some (.int .i64 ((r : Int) + 1)) ∧ w'.cell? ⟨x1, r, none⟩ = some (.int .i64 m))) (by kernel_rfl) (⟨y5.drew.cell, qc, qv⟩) (fun hHeld => ?_)
                refine wpAnyH_take (i := 0) (v := ?_) rfl (by kernel_rfl) (by kernel_rfl) (by kernel_rfl) (fun _ _ _ h => h) (Or.inl ⟨by rfl, fun w hSw => ?_⟩) hHeld ?_
                rotate_left
                · ((try dsimp only at hSw); go_split_ands; go_simp; (try with_reducible rfl))
                try simp only [Act.put, List.getElem_toArray, List.getElem_cons_zero, List.getElem_cons_succ, List.setIfInBounds_toArray, List.set_cons_zero, List.set_cons_succ]
                refine wpAnyH_take (i := 1) (v := ?_) rfl (by kernel_rfl) (by kernel_rfl) (by kernel_rfl) (fun _ _ _ h => h) (Or.inl ⟨by rfl, fun w hSw => ?_⟩) hHeld ?_
                rotate_left
                · ((try dsimp only at hSw); go_split_ands; go_simp; (try with_reducible rfl))
                try simp only [Act.put, List.getElem_toArray, List.getElem_cons_zero, List.getElem_cons_succ, List.setIfInBounds_toArray, List.set_cons_zero, List.set_cons_succ]
                refine wpAnyH_take (i := 2) (v := ?_) rfl (by kernel_rfl) (by kernel_rfl) (by kernel_rfl) (fun _ _ _ h => h) (Or.inl ⟨by rfl, fun w hSw => ?_⟩) hHeld ?_
                rotate_left
                · ((try dsimp only at hSw); go_split_ands; go_simp; (try with_reducible rfl))
                try simp only [Act.put, List.getElem_toArray, List.getElem_cons_zero, List.getElem_cons_succ, List.setIfInBounds_toArray, List.set_cons_zero, List.set_cons_succ]
                refine wpAnyH_take (i := 3) (v := ?_) rfl (by kernel_rfl) (by kernel_rfl) (by kernel_rfl) (fun _ _ _ h => h) (Or.inl ⟨by rfl, fun w hSw => ?_⟩) hHeld ?_
                rotate_left
                · ((try dsimp only at hSw); go_split_ands; go_simp; (try with_reducible rfl))
                try simp only [Act.put, List.getElem_toArray, List.getElem_cons_zero, List.getElem_cons_succ, List.setIfInBounds_toArray, List.set_cons_zero, List.set_cons_succ]
                refine wpAnyH_take (i := 4) (v := ?_) rfl (by kernel_rfl) (by kernel_rfl) (by kernel_rfl) (fun _ _ _ h => h) (Or.inl ⟨by rfl, fun w hSw => ?_⟩) hHeld ?_
                rotate_left
                · ((try dsimp only at hSw); go_split_ands; go_simp; (try with_reducible rfl))
                try simp only [Act.put, List.getElem_toArray, List.getElem_cons_zero, List.getElem_cons_succ, List.setIfInBounds_toArray, List.set_cons_zero, List.set_cons_succ]
                refine wpAnyH_take (i := 5) (v := ?_) rfl (by kernel_rfl) (by kernel_rfl) (by kernel_rfl) (fun _ _ _ h => h) (Or.inl ⟨by rfl, fun w hSw => ?_⟩) hHeld ?_
                rotate_left
                · ((try dsimp only at hSw); go_split_ands; go_simp; (try with_reducible rfl))
                try simp only [Act.put, List.getElem_toArray, List.getElem_cons_zero, List.getElem_cons_succ, List.setIfInBounds_toArray, List.set_cons_zero, List.set_cons_succ]
                refine wpAnyH_take (i := 6) (v := ?_) rfl (by kernel_rfl) (by kernel_rfl) (by kernel_rfl) (fun _ _ _ h => h) (Or.inl ⟨by rfl, fun w hSw => ?_⟩) hHeld ?_
                rotate_left
                · ((try dsimp only at hSw); go_split_ands; go_simp; (try with_reducible rfl))
                try simp only [Act.put, List.getElem_toArray, List.getElem_cons_zero, List.getElem_cons_succ, List.setIfInBounds_toArray, List.set_cons_zero, List.set_cons_succ]
                refine wpAnyH_take (i := 7) (v := ?_) rfl (by kernel_rfl) (by kernel_rfl) (by kernel_rfl) (fun _ _ _ h => h) (Or.inl ⟨by rfl, fun w hSw => ?_⟩) hHeld ?_
                rotate_left
                · ((try dsimp only at hSw); go_split_ands; go_simp; (try with_reducible rfl))
                try simp only [Act.put, List.getElem_toArray, List.getElem_cons_zero, List.getElem_cons_succ, List.setIfInBounds_toArray, List.set_cons_zero, List.set_cons_succ]
                refine wpAnyH_take (i := 8) (v := ?_) rfl (by kernel_rfl) (by kernel_rfl) (by kernel_rfl) (fun _ _ _ h => h) (Or.inl ⟨by rfl, fun w hSw => ?_⟩) hHeld ?_
                rotate_left
                · ((try dsimp only at hSw); go_split_ands; go_simp; (try with_reducible rfl))
                try simp only [Act.put, List.getElem_toArray, List.getElem_cons_zero, List.getElem_cons_succ, List.setIfInBounds_toArray, List.set_cons_zero, List.set_cons_succ]
                refine wpAnyH_take (i := 9) (v := ?_) rfl (by kernel_rfl) (by kernel_rfl) (by kernel_rfl) (fun _ _ _ h => h) (Or.inl ⟨by rfl, fun w hSw => ?_⟩) hHeld ?_
                rotate_left
                · ((try dsimp only at hSw); go_split_ands; go_simp; (try with_reducible rfl))
                try simp only [Act.put, List.getElem_toArray, List.getElem_cons_zero, List.getElem_cons_succ, List.setIfInBounds_toArray, List.set_cons_zero, List.set_cons_succ]
                refine wpAnyH_take (i := 10) (v := ?_) rfl (by kernel_rfl) (by kernel_rfl) (by kernel_rfl) (fun _ _ _ h => h) (Or.inl ⟨by rfl, fun w hSw => ?_⟩) hHeld ?_
                rotate_left
                · ((try dsimp only at hSw); go_split_ands; go_simp; (try with_reducible rfl))
                try simp only [Act.put, List.getElem_toArray, List.getElem_cons_zero, List.getElem_cons_succ, List.setIfInBounds_toArray, List.set_cons_zero, List.set_cons_succ]
                refine wpAnyH_take (i := 11) (v := ?_) rfl (by kernel_rfl) (by kernel_rfl) (by kernel_rfl) (fun _ _ _ h => h) (Or.inl ⟨by rfl, fun w hSw => ?_⟩) hHeld ?_
                rotate_left
                · ((try dsimp only at hSw); go_split_ands; go_simp; (try with_reducible rfl))
                try simp only [Act.put, List.getElem_toArray, List.getElem_cons_zero, List.getElem_cons_succ, List.setIfInBounds_toArray, List.set_cons_zero, List.set_cons_succ]
                refine wpAnyH_take (i := 12) (v := ?_) rfl (by kernel_rfl) (by kernel_rfl) (by kernel_rfl) (fun _ _ _ h => h) (Or.inl ⟨by rfl, fun w hSw => ?_⟩) hHeld ?_
                rotate_left
                · ((try dsimp only at hSw); go_split_ands; go_simp; (try with_reducible rfl))
                try simp only [Act.put, List.getElem_toArray, List.getElem_cons_zero, List.getElem_cons_succ, List.setIfInBounds_toArray, List.set_cons_zero, List.set_cons_succ]
                refine wpAnyH_ready (rs := [13]) (by kernel_rfl) (by simp) ?_
                refine AllReadyH.cons rfl (fun K hK => ?_) AllReadyH.nil
                try simp only [List.getElem_toArray, List.getElem_cons_zero, List.getElem_cons_succ]
                go_simp
                refine hK.out _ _ (⟨(y5.drew.far (p := ⟨x1, n, none⟩) (by simp only; omega) _).cell, ((y1.drew.far (p := ⟨x1, n, none⟩) (by simp only; omega) _).cell _).trans ((y1.cell _).symm.trans qc), QV2.out⟩) (fun hHeldN => ?_)
                clear hHeld hK K
                have hHeld := hHeldN
                clear hHeldN
                try simp only [Act.put, List.getElem_toArray, List.getElem_cons_zero, List.getElem_cons_succ, List.setIfInBounds_toArray, List.set_cons_zero, List.set_cons_succ]
                refine wpAnyH_done (by kernel_rfl) ?_ _
                refine NoPanic.normal ?_
                clear hwr hwn
                go_wp2_with fail
                go_round
                case rel => exact ⟨n + 1, by omega, by go_num, by rw [HRK.out], HST.out, (HF2.out _).drew⟩
                case measure => simp [intOf]; omega
              · have e := HNONE.out (by omega)
                have HN : Hid (RowI wr x1 (modT c (n + 1 + 1))) := by show RowI _ _ _; rw [e]; exact HRW.out
                clear e HNONE HOLD HID HLE hroot HRW
                go_wp2_with fail
                go_round
                case rel => exact ⟨n + 1, by omega, by go_num, by rw [HRK.out], HN.out, HFR.out⟩
                case measure => simp [intOf]; omega
          · obtain rfl : n = 8 := by omega
            rw [show ((8 : Nat) : Int) = 8 from rfl]
            have HRV : Hid (RowI wr x1 (modV c)) := by show RowI _ _ _; rw [← modT_end]; exact HRW.out
            have HRH := Lib.hid (HR2.out.fr HFR.out (by omega))
            have HB3 : Hid (Below w.heap.size w wr) := HB2.out.trans (HFR.out.below (by omega) (by omega))
            replace k0 := k0.fr HFR.out (by omega)
            replace k2 := k2.fr HFR.out (by omega)
            have hz3 := HFR.out.size
            have K1 := Lib.hid (y1.case HC.out.len)
            have l1b := y1.lt
            clear HRW HFR HR2 HB2 i5 k1 y1
            (replace qk0 := k0.cell; replace rk0 := k0.frozen; replace lk0 := k0.lt)
            go_wp2_with fail
            refine (c_impl_filled A2 c2 a.atoms c (w.heap.size + 1) _ (H2.out.below HB3.out) K1.out HC.out.len HOK.out.2).mono ?_
            rintro e w4 ⟨r4, rfl, o4, hB4⟩
            obtain ⟨A4, c4, rfl, f4⟩ := o4.reads
            have HLV := Lib.hid f4
            replace HB3 := Lib.hid (bgo HB3.out hB4)
            replace HRV := Lib.hid (Blk.next HRV.out hB4)
            replace HRH := Lib.hid (Blk.next HRH.out hB4)
            replace k2 := k2.next hB4
            replace y5 := y5.next hB4
            have hz4 := hB4.size
            have hL := f4.le
            clear o4 f4 hB4 k0 qk0 rk0 lk0 K1 q5 r5
            obtain ⟨L, hLe⟩ : ∃ L, L = filledL a.atoms c := ⟨_, rfl⟩
            have HLE := Lib.hid hLe
            rw [← hLe] at HLV HF hL ⊢
            clear hLe
            go_wp2_with fail
            go_loopw [65] (fun i wr => ∃ k : Nat, k ≤ L.length ∧ i = .int .i64 k ∧ Hid (RowI wr x2 (heapS (modV c) blank8 (L.take k))) ∧ Hid (Fr x2 w4 wr)) (fun i _ => L.length - (intOf i).toNat)
            case atStart => exact ⟨0, Nat.zero_le _, rfl, HRH.out, Fr.refl _ _⟩
            case round =>
              clear HRH
              obtain ⟨k, hk, rfl, HRW, HFR⟩ := hrel
              have i5 := y5.fr HFR.out (by omega)
              have hzr := HFR.out.size
              by_cases hlt : k < L.length
              · have hki : (k : Int) < (L.length : Int) := by omega
                have hlv : AtomsV wr _ _ A4 L := ⟨HLV.out.raw.fr HFR.out (Or.inl (by omega)), HLV.out.lim⟩
                obtain ⟨b, o, rfl, g0, g1, g2⟩ := hlv.at hlt
                have hbl := block_lt_of_cell g0
                have HXF := Lib.hid (HF.out _ (List.getElem_mem hlt))
                have HST := Lib.hid (heapS_take (modV c) blank8 L hlt)
                obtain ⟨x, hx⟩ : ∃ x, x = L[k] := ⟨_, rfl⟩
                rw [← hx] at g0 g1 g2 HXF HST
                have hxa := HXF.out.1
                have hxb := HXF.out.2.1
                obtain ⟨m, hm⟩ : ∃ m : Nat, tval (modV c) x.a = (m : Int) + 1 := ⟨(tval (modV c) x.a - 1).toNat, by have := HXF.out.2.2.1; omega⟩
                have hm8 : m < 8 := by have := HXF.out.2.2.1; omega
                have hmi : (m : Int) < 8 := by omega
                have hm0 : 0 ≤ (m : Int) := by omega
                have hwm : IntKind.i64.wrap (m : Int) = (m : Int) := IntWalk.i64_in _ (by omega)
                have HM := Lib.hid hm
                rw [hm, show ((m : Int) + 1 - 1).toNat = m from by omega] at HST
                have HRV2 : Hid (RowI (wr.alloc (.cells #[.int .i64 x.kind, .int .i64 x.a, .int .i64 x.b] tA)) x1 (modV c)) := Blk.alloc (HRV.out.fr HFR.out ne12) _
                have HRW2 : Hid (RowI (wr.alloc (.cells #[.int .i64 x.kind, .int .i64 x.a, .int .i64 x.b] tA)) x2 (heapS (modV c) blank8 (L.take k))) := Blk.alloc HRW.out _
                have HF2 := Lib.hid (HFR.out.alloc (.cells #[.int .i64 x.kind, .int .i64 x.a, .int .i64 x.b] tA))
                have j5 := i5.alloc (.cells #[.int .i64 x.kind, .int .i64 x.a, .int .i64 x.b] tA)
                have kx : Blk (wr.alloc (.cells #[.int .i64 x.kind, .int .i64 x.a, .int .i64 x.b] tA)) wr.heap.size tA #[.int .i64 x.kind, .int .i64 x.a, .int .i64 x.b] := Blk.new _ _ _
                have lx5 := i5.lt
                clear hx hm HXF HRW HFR
                go_wp2_with fail
                have l2x := Blk.lt HRW2.out
                rw [World.size_alloc] at l2x
                have hxw : x2 < wr.heap.size := by have := HF2.out.size; omega
                have qw := HRW2.out.cl (k := m) (by rw [heapS_len]; exact hm8)
                have rw_ := Blk.frozen HRW2.out
                have lw := Blk.lt HRW2.out
                generalize hX : wr.heap.size = X at kx hxw lx5 hbl ⊢
                clear hX
                generalize (wr.alloc (.cells #[.int .i64 x.kind, .int .i64 x.a, .int .i64 x.b] tA)) = W5 at kx j5 HRV2 HRW2 HF2 qw rw_ lw ⊢
                refine wp_region_noPanic ?_
                refine wp_region_held_drew (S := (fun w' => (∀ i, w'.cell? ⟨x5, i, none⟩ = #[.slice (some ⟨x1, 0, none⟩) 8 8, .slice (some ⟨x2, 0, none⟩) 8 8][i]?) ∧ (∀ i, w'.cell? ⟨X, i, none⟩ = #[.int .i64 x.kind, .int .i64 x.a, .int .i64 x.b][i]?))) (by kernel_rfl) (⟨j5.drew.cell, kx.drew.cell⟩) (fun hHeld => ?_)
                refine wpAnyH_take (i := 0) (v := ?_) rfl (by kernel_rfl) (by kernel_rfl) (by kernel_rfl) (fun _ _ _ h => h) (Or.inl ⟨by rfl, fun w hSw => ?_⟩) hHeld ?_
                rotate_left
                · ((try dsimp only at hSw); go_split_ands; go_simp; (try with_reducible rfl))
                try simp only [Act.put, List.getElem_toArray, List.getElem_cons_zero, List.getElem_cons_succ, List.setIfInBounds_toArray, List.set_cons_zero, List.set_cons_succ]
                refine wpAnyH_take (i := 1) (v := ?_) rfl (by kernel_rfl) (by kernel_rfl) (by kernel_rfl) (fun _ _ _ h => h) (Or.inl ⟨by rfl, fun w hSw => ?_⟩) hHeld ?_
                rotate_left
                · ((try dsimp only at hSw); go_split_ands; go_simp; (try with_reducible rfl))
                try simp only [Act.put, List.getElem_toArray, List.getElem_cons_zero, List.getElem_cons_succ, List.setIfInBounds_toArray, List.set_cons_zero, List.set_cons_succ]
                refine wpAnyH_take (i := 2) (v := ?_) rfl (by kernel_rfl) (by kernel_rfl) (by kernel_rfl) (fun _ _ _ h => h) (Or.inl ⟨by rfl, fun w hSw => ?_⟩) hHeld ?_
                rotate_left
                · ((try dsimp only at hSw); go_split_ands; go_simp; (try with_reducible rfl))
                try simp only [Act.put, List.getElem_toArray, List.getElem_cons_zero, List.getElem_cons_succ, List.setIfInBounds_toArray, List.set_cons_zero, List.set_cons_succ]
                refine wpAnyH_take (i := 3) (v := ?_) rfl (by kernel_rfl) (by kernel_rfl) (by kernel_rfl) (fun _ _ _ h => h) (Or.inl ⟨by rfl, fun w hSw => ?_⟩) hHeld ?_
                rotate_left
                · ((try dsimp only at hSw); go_split_ands; go_simp; (try with_reducible rfl))
                try simp only [Act.put, List.getElem_toArray, List.getElem_cons_zero, List.getElem_cons_succ, List.setIfInBounds_toArray, List.set_cons_zero, List.set_cons_succ]
                refine wpAnyH_take (i := 4) (v := ?_) rfl (by kernel_rfl) (by kernel_rfl) (by kernel_rfl) (fun _ _ _ h => h) (Or.inl ⟨by rfl, fun w hSw => ?_⟩) hHeld ?_
                rotate_left
                · ((try dsimp only at hSw); go_split_ands; go_simp; (try with_reducible rfl))
                try simp only [Act.put, List.getElem_toArray, List.getElem_cons_zero, List.getElem_cons_succ, List.setIfInBounds_toArray, List.set_cons_zero, List.set_cons_succ]
                refine wpAnyH_take (i := 5) (v := ?_) rfl (by kernel_rfl) (by kernel_rfl) (by kernel_rfl) (fun _ _ _ h => h) (Or.inl ⟨by rfl, fun w hSw => ?_⟩) hHeld ?_
                rotate_left
                · ((try dsimp only at hSw); go_split_ands; go_simp; (try with_reducible rfl))
                try simp only [Act.put, List.getElem_toArray, List.getElem_cons_zero, List.getElem_cons_succ, List.setIfInBounds_toArray, List.set_cons_zero, List.set_cons_succ]
                refine wpAnyH_take (i := 8) (v := ?_) rfl (by kernel_rfl) (by kernel_rfl) (by kernel_rfl) (fun _ _ _ h => h) (Or.inl ⟨by rfl, fun w hSw => ?_⟩) hHeld ?_
                rotate_left
                · ((try dsimp only at hSw); go_split_ands; go_simp; (try with_reducible rfl))
                try simp only [Act.put, List.getElem_toArray, List.getElem_cons_zero, List.getElem_cons_succ, List.setIfInBounds_toArray, List.set_cons_zero, List.set_cons_succ]
                refine wpAnyH_take (i := 9) (v := ?_) rfl (by kernel_rfl) (by kernel_rfl) (by kernel_rfl) (fun _ _ _ h => h) (Or.inl ⟨by rfl, fun w hSw => ?_⟩) hHeld ?_
                rotate_left
                · ((try dsimp only at hSw); go_split_ands; go_simp; (try with_reducible rfl))
                try simp only [Act.put, List.getElem_toArray, List.getElem_cons_zero, List.getElem_cons_succ, List.setIfInBounds_toArray, List.set_cons_zero, List.set_cons_succ]
                refine wpAnyH_take (i := 10) (v := ?_) rfl (by kernel_rfl) (by kernel_rfl) (by kernel_rfl) (fun _ _ _ h => h) (Or.inl ⟨by rfl, fun w hSw => ?_⟩) hHeld ?_
                rotate_left
                · ((try dsimp only at hSw); go_split_ands; go_simp; (try with_reducible rfl))
                try simp only [Act.put, List.getElem_toArray, List.getElem_cons_zero, List.getElem_cons_succ, List.setIfInBounds_toArray, List.set_cons_zero, List.set_cons_succ]
                refine wpAnyH_take (i := 11) (v := ?_) rfl (by kernel_rfl) (by kernel_rfl) (by kernel_rfl) (fun _ _ _ h => h) (Or.inl ⟨by rfl, fun w hSw => ?_⟩) hHeld ?_
                rotate_left
                · ((try dsimp only at hSw); go_split_ands; go_simp; (try with_reducible rfl))
                try simp only [Act.put, List.getElem_toArray, List.getElem_cons_zero, List.getElem_cons_succ, List.setIfInBounds_toArray, List.set_cons_zero, List.set_cons_succ]
                refine wpAnyH_ready (rs := [6]) (by kernel_rfl) (by simp) ?_
                refine AllReadyH.cons rfl (fun K hK => ?_) AllReadyH.nil
                try simp only [List.getElem_toArray, List.getElem_cons_zero, List.getElem_cons_succ]
                (go_simp; refine (c_termV8 _ 8 (modV c) x.a _ (IntsV.below (RowI.toV HRV2.out (by rw [HMV.out.1]; omega)) (Below.refl _ _).drew) HMV.out.1 hxa.1 hxa.2).mono ?_; rintro e w6 ⟨rfl, rfl⟩; rw [HM.out])
                refine hK.out _ _ (⟨j5.drew.cell, kx.drew.cell⟩) (fun hHeldN => ?_)
                clear hHeld hK K
                have hHeld := hHeldN
                clear hHeldN
                try simp only [Act.put, List.getElem_toArray, List.getElem_cons_zero, List.getElem_cons_succ, List.setIfInBounds_toArray, List.set_cons_zero, List.set_cons_succ]
                refine wpAnyH_take (i := 7) (v := ?_) rfl (by kernel_rfl) (by kernel_rfl) (by kernel_rfl) (fun _ _ _ h => h) (Or.inl ⟨by rfl, fun w hSw => ?_⟩) hHeld ?_
                rotate_left
                · ((try dsimp only at hSw); go_split_ands; go_simp; (try with_reducible rfl))
                try simp only [Act.put, List.getElem_toArray, List.getElem_cons_zero, List.getElem_cons_succ, List.setIfInBounds_toArray, List.set_cons_zero, List.set_cons_succ]
                refine wpAnyH_ready (rs := [12]) (by kernel_rfl) (by simp) ?_
                refine AllReadyH.cons rfl (fun K hK => ?_) AllReadyH.nil
                try simp only [List.getElem_toArray, List.getElem_cons_zero, List.getElem_cons_succ]
                (go_simp; refine (c_termV8 _ 8 (modV c) x.b _ (IntsV.below (RowI.toV HRV2.out (by rw [HMV.out.1]; omega)) (Below.refl _ _).drew) HMV.out.1 hxb.1 hxb.2).mono ?_; rintro e w6 ⟨rfl, rfl⟩)
                refine hK.out _ _ (⟨j5.drew.cell, kx.drew.cell⟩) (fun hHeldN => ?_)
                clear hHeld hK K
                have hHeld := hHeldN
                clear hHeldN
                try simp only [Act.put, List.getElem_toArray, List.getElem_cons_zero, List.getElem_cons_succ, List.setIfInBounds_toArray, List.set_cons_zero, List.set_cons_succ]
                refine wpAnyH_take (i := 13) (v := ?_) rfl (by kernel_rfl) (by kernel_rfl) (by kernel_rfl) (fun _ _ _ h => h) (Or.inl ⟨by rfl, fun w hSw => ?_⟩) hHeld ?_
                rotate_left
                · ((try dsimp only at hSw); go_split_ands; go_simp; (try with_reducible rfl))
                try simp only [Act.put, List.getElem_toArray, List.getElem_cons_zero, List.getElem_cons_succ, List.setIfInBounds_toArray, List.set_cons_zero, List.set_cons_succ]
                refine wpAnyH_ready (rs := [14]) (by kernel_rfl) (by simp) ?_
                refine AllReadyH.cons rfl (fun K hK => ?_) AllReadyH.nil
                try simp only [List.getElem_toArray, List.getElem_cons_zero, List.getElem_cons_succ]
                go_simp
                refine hK.out _ _ (⟨(j5.drew.far (p := ⟨x2, m, none⟩) (by simp only; omega) _).cell, (kx.drew.far (p := ⟨x2, m, none⟩) (by simp only; omega) _).cell⟩) (fun hHeldN => ?_)
                clear hHeld hK K
                have hHeld := hHeldN
                clear hHeldN
                try simp only [Act.put, List.getElem_toArray, List.getElem_cons_zero, List.getElem_cons_succ, List.setIfInBounds_toArray, List.set_cons_zero, List.set_cons_succ]
                refine wpAnyH_done (by kernel_rfl) ?_ _
                refine NoPanic.normal ?_
                have HN : Hid (RowI (W5.setCell ⟨x2, m, none⟩ (.int .i64 (tval (modV c) x.b))).drew x2 (heapS (modV c) blank8 (L.take (k + 1)))) := by
                  show RowI _ _ _
                  rw [HST.out]
                  exact HRW2.out.set_ m _
                have HFN := Lib.hid ((HF2.out.set_ (p := ⟨x2, m, none⟩) (Or.inl rfl) (.int .i64 (tval (modV c) x.b))).drew)
                clear qw rw_ lw hwm HRW2 HF2
                go_wp2_with fail
                go_round
                case rel => exact ⟨k + 1, by omega, by go_num, HN.out, HFN.out⟩
                case measure => simp [intOf]; omega
              · obtain rfl : k = L.length := by omega
                rw [List.take_length] at HRW
                have z2 := k2.fr HFR.out (by omega)
                have HRV3 := Lib.hid (HRV.out.fr HFR.out ne12)
                have HB5 : Hid (Below w.heap.size w wr) := HB3.out.trans (HFR.out.below (by omega) (by omega))
                have HH8 : Hid ((heapS (modV c) blank8 L).length = 8) := heapS_len _ _ _
                have q5 := i5.cell
                have r5 := i5.frozen
                have q2 := z2.cell
                have r2 := z2.frozen
                have l2c := z2.lt
                clear HFR
                go_wp2_with fail
                refine bodyPost_ret (v := .agg #[.slice (some ⟨x1, 0, none⟩) 8 8, .slice (some ⟨x2, 0, none⟩) 8 8]) (by simp [results, Tryz.results63, go_sem, q2, l2c]) rfl ⟨_, rfl, ⟨_, _, rfl, ?_, ?_, ?_⟩, ?_⟩
                · exact RowI.toO (vs := modV c) (Blk.far (Blk.far HRV3.out (p := ⟨w.heap.size + 1 + 1, 0, none⟩) (by simp only; omega) _) (p := ⟨w.heap.size + 1 + 1, 1, none⟩) (by simp only; omega) _) (by omega) HMV.out.1 (by omega)
                · show IntsO _ _ _ (heapS (modV c) blank8 (filledL a.atoms c))
                  rw [← HLE.out]
                  exact RowI.toO (Blk.far (Blk.far HRW.out (p := ⟨w.heap.size + 1 + 1, 0, none⟩) (by simp only; omega) _) (p := ⟨w.heap.size + 1 + 1, 1, none⟩) (by simp only; omega) _) (by omega) HH8.out (by omega)
                · intro g e1 e2
                  simp only [Value.ownBlock, Option.some.injEq] at e1 e2
                  omega
                · exact (HB5.out.setCell (p := ⟨w.heap.size + 1 + 1, 0, none⟩) (by simp only; omega) _).setCell (p := ⟨w.heap.size + 1 + 1, 1, none⟩) (by simp only; omega) _
end Go.Proofs.YtlmjjflalmegfaaGreat
