/- 'laws.FnRunFrame' returns true for all bytes that can be read. -/
import Derived.Test.YteogcababfenfaaGreatMDrawZb
import Derived.Test.YteogcababfenfaaGreatRunT
import Derived.Test.YteogcababfenfaaGreatMRunS
import Derived.Test.YteogcababfenfaaGreatDrawKeep
import Derived.Test.YteogcababfenfaaGreatMKeepAny
import Derived.Test.YteogcababfenfaaGreatMSlNews
set_option linter.unusedSimpArgs false
set_option linter.unusedVariables false
namespace Go.Proofs.YteogcababfenfaaGreat
open Go Go.RowKit Go.Proofs
attribute [local go_sem ↓] Go.wp_at_zero Go.wp_at_succ

theorem frame_law {s : Ste} {xs : List Int} {L : Cms} {f : Int} (hs : s.valid = true) (hL : L.noNew = true) (h0 : codeF (keepS s fun x => decide (x ∈ xs)) L f = 0) :
    codeF s L f = 0 ∧ (afterF (keepS s fun x => decide (x ∈ xs)) L f).valid = true ∧ (Ste.mk (afterF (keepS s fun x => decide (x ∈ xs)) L f).values (keepS s fun x => !decide (x ∈ xs)).heap).valid = true ∧
    (∀ i : Nat, i < 8 → 0 ≤ cont (keepS s fun x => !decide (x ∈ xs)).heap ((i : Int) + 1) → cont (afterF (keepS s fun x => decide (x ∈ xs)) L f).heap ((i : Int) + 1) < 0) ∧
    Ste.mk (afterF (keepS s fun x => decide (x ∈ xs)) L f).values (joinH (afterF (keepS s fun x => decide (x ∈ xs)) L f).heap (keepS s fun x => !decide (x ∈ xs)).heap) = afterF s L f := by
  obtain ⟨h1, h2, h3⟩ := frame_run (p := keepS s fun x => decide (x ∈ xs)) hs rfl (Glue.keep hs _) hL h0
  obtain ⟨g1, g2⟩ := h3.join
  have yv := run_after_valid h0
  have rv := keep_valid hs (fun x => !decide (x ∈ xs))
  rw [Ste.valid_iff] at rv
  have yv2 := Ste.valid_iff.1 yv
  refine ⟨h1, yv, Ste.valid_iff.2 ⟨yv2.1, rv.2.1, yv2.2.2.1, rv.2.2.2⟩, g2, ?_⟩
  rw [g1, ← h2]
/-- a state in a variable; its rows lie in blocks of [lo, hi) -/
structure SD (W : World) (lo hi x : Nat) (V : Option Addr) (c : Nat) (H : Option Addr) (d : Nat) (s : Ste) : Prop where
  st : StateV W lo hi (.agg #[.slice V s.values.length c, .slice H s.heap.length d]) s
  blk : Blk W x tSt #[.slice V s.values.length c, .slice H s.heap.length d]
section
variable {W W' : World} {lo hi x c d : Nat} {V H : Option Addr} {s : Ste}
theorem SD.next (h : SD W lo hi x V c H d s) (hB : Below W.heap.size W W') : SD W' lo hi x V c H d s := ⟨h.st.below hB, h.blk.next hB⟩
theorem SD.sb (h : SD W lo hi x V c H d s) : SB W x V c H d s := ⟨⟨lo, hi, h.st⟩, h.blk⟩
theorem SD.set (h : SD W lo hi x V c H d s) {p : Addr} (h1 : p.block < lo ∨ hi ≤ p.block) (h2 : x ≠ p.block) (u : Value) : SD (W.setCell p u) lo hi x V c H d s := by
  obtain ⟨⟨A1, c1, A2, c2, e, i1, i2⟩, hb⟩ := h
  exact ⟨⟨A1, c1, A2, c2, e, Rd.setb i1 h1 u, Rd.setb i2 h1 u⟩, hb.far h2 u⟩
theorem SD.new (h : StateV W lo hi (.agg #[.slice V s.values.length c, .slice H s.heap.length d]) s) : SD (W.alloc (.cells #[.slice V s.values.length c, .slice H s.heap.length d] tSt)) lo hi W.heap.size V c H d s :=
  ⟨h.below (bbox (Below.refl _ _) _), Blk.new _ _ _⟩
theorem SD.keepB {base : Nat} (h : SD W lo hi x V c H d s) (hB : Below base W W') (h1 : hi ≤ base) (h2 : x < base) : SD W' lo hi x V c H d s := by
  obtain ⟨⟨A1, c1, A2, c2, e, i1, i2⟩, hb⟩ := h
  exact ⟨⟨A1, c1, A2, c2, e, Rd.keep i1 fun b _ hb => hB.block b (by omega), Rd.keep i2 fun b _ hb => hB.block b (by omega)⟩, hb.below hB h2⟩
theorem SD.at (h : SD W lo hi x V c H d s) : IntsV W lo hi V s.values ∧ IntsV W lo hi H s.heap := by
  obtain ⟨⟨A1, c1, A2, c2, e, i1, i2⟩, -⟩ := h
  injection e with e; injection e with e; injection e with e1 e2; injection e1 with e1 e3 e4
  injection e2 with e2 e5; injection e2 with e2 e6 e7
  subst e1 e2
  exact ⟨i1, i2⟩
end
--@ impl.KeepCells
theorem kp_impl {W : World} {lo hi lo' hi' x c d g : Nat} {V H G : Option Addr} {s : Ste} {xs : List Int} (ho : okC s xs) (hS : SD W lo hi x V c H d s) (hG : IntsV W lo' hi' G xs) :
    Calls Tryz.prog 17 #[.agg #[.slice V s.values.length c, .slice H s.heap.length d], .slice G xs.length g] W fun e w' => ∃ V2 e2 H2 g2, e = .returned (.tuple #[.agg #[.slice V2 (keepS s fun x => decide (x ∈ xs)).values.length e2, .slice H2 (keepS s fun x => decide (x ∈ xs)).heap.length g2], .bool true]) ∧
      Hid (StateV w' W.heap.size w'.heap.size (.agg #[.slice V2 (keepS s fun x => decide (x ∈ xs)).values.length e2, .slice H2 (keepS s fun x => decide (x ∈ xs)).heap.length g2]) (keepS s fun x => decide (x ∈ xs))) ∧ Below W.heap.size W w' := by
  refine (c_impl_KeepCells _ s G g xs W hS.st hG ho.1 ho.2.1 ho.2.2).mono ?_
  rintro e w' ⟨r, rfl, o, hB⟩
  obtain ⟨V2, e2, H2, g2, rfl, hV⟩ := o.open_
  exact ⟨V2, e2, H2, g2, rfl, hV, hB⟩
--@ impl.DropCells
theorem dp_impl {W : World} {lo hi lo' hi' x c d g : Nat} {V H G : Option Addr} {s : Ste} {xs : List Int} (ho : okC s xs) (hS : SD W lo hi x V c H d s) (hG : IntsV W lo' hi' G xs) :
    Calls Tryz.prog 18 #[.agg #[.slice V s.values.length c, .slice H s.heap.length d], .slice G xs.length g] W fun e w' => ∃ V2 e2 H2 g2, e = .returned (.tuple #[.agg #[.slice V2 (keepS s fun x => !decide (x ∈ xs)).values.length e2, .slice H2 (keepS s fun x => !decide (x ∈ xs)).heap.length g2], .bool true]) ∧
      Hid (StateV w' W.heap.size w'.heap.size (.agg #[.slice V2 (keepS s fun x => !decide (x ∈ xs)).values.length e2, .slice H2 (keepS s fun x => !decide (x ∈ xs)).heap.length g2]) (keepS s fun x => !decide (x ∈ xs))) ∧ Below W.heap.size W w' := by
  refine (c_impl_DropCells _ s G g xs W hS.st hG ho.1 ho.2.1 ho.2.2).mono ?_
  rintro e w' ⟨r, rfl, o, hB⟩
  obtain ⟨V2, e2, H2, g2, rfl, hV⟩ := o.open_
  exact ⟨V2, e2, H2, g2, rfl, hV, hB⟩
--@ laws.FnRunFrame
theorem BytesR.next {w w' : World} {A : Option Addr} {n c : Nat} (h : BytesR w A n c) (hB : Below w.heap.size w w') : BytesR w' A n c := by
  obtain ⟨bs, h1, h2, h3⟩ := h
  exact ⟨bs, h1, (h2.below hB).mono (Nat.le_refl _) hB.size, h3⟩
set_option maxRecDepth 100000 in
set_option maxHeartbeats 6400000 in
theorem c_FnRunFrame (v : Value) (A : Option Addr × Nat × Nat) (v' : Value) (A' : Option Addr × Nat × Nat) (w : World) (h : v = .slice A.1 A.2.1 A.2.2 ∧ BytesR w A.1 A.2.1 A.2.2) (h' : v' = .slice A'.1 A'.2.1 A'.2.2 ∧ BytesR w A'.1 A'.2.1 A'.2.2) : Calls Tryz.prog 4 #[v, v'] w fun e w' => e = .returned (.bool true) ∧ Below w.heap.size w w' := by
  obtain ⟨A, n, c⟩ := A
  obtain ⟨A', n', c'⟩ := A'
  obtain ⟨rfl, hR⟩ := h
  obtain ⟨rfl, hR'⟩ := h'
  simp only at hR hR' ⊢
  have HR := Lib.hid hR
  have HR' := Lib.hid hR'
  clear hR hR'
  by_cases hn : 1048576 < n
  · have hni : (1048576 : Int) < (n : Int) := by omega
    clear hn
    go_enter Tryz.func4, Tryz.ntmps4
    go_wp2_with fail
    go_ret
    exact ⟨rfl, bel⟩
  have hni : ¬ (1048576 : Int) < (n : Int) := by omega
  clear hn
  by_cases hn : 1048576 < n'
  · have hni' : (1048576 : Int) < (n' : Int) := by omega
    clear hn
    go_enter Tryz.func4, Tryz.ntmps4
    go_wp2_with fail
    go_ret
    exact ⟨rfl, bel⟩
  have hni' : ¬ (1048576 : Int) < (n' : Int) := by omega
  clear hn
  go_enter Tryz.func4, Tryz.ntmps4
  go_wp2_with fail
  refine (c_DrawRun A n c _ HR.out).mono ?_
  rintro e w1 ⟨r, s, B, d, L, f, rfl, o, -, -, hV, hLS, -, -, hB1⟩
  obtain ⟨V1, e1, H1, g1, rfl, HS1⟩ := o.open_
  have hbx : Below w1.heap.size w1 (w1.alloc (.cells #[.slice V1 s.values.length e1, .slice H1 s.heap.length g1] tSt)) := bbox (Below.refl _ _) _
  have hS := Lib.hid (SD.new HS1.out)
  have hP := Lib.hid ((PB.mk (w := w) hB1 ⟨hV, by omega⟩).next hbx)
  have HR1 := Lib.hid ((HR'.out.next hB1).next hbx)
  have hz := hB1.size
  have hLen : Hid (L.len ≤ 1049600 ∧ L.small 1049600) := Lib.hid ⟨by omega, Cms.cost_small (by omega)⟩
  clear o hB1 hV HR HR' HS1 hbx hLS
  obtain ⟨K, hK⟩ : ∃ K, K = codeF s L f := ⟨_, rfl⟩
  obtain ⟨X, hX⟩ : ∃ X, X = afterF s L f := ⟨_, rfl⟩
  have c1 := Lib.hid (fun W n hS hP => r_impl (w := w) (W := W) (x := w1.heap.size) (c := e1) (d := g1) (n := n) (V := V1) (H := H1) (B := B) (s := s) (L := L) f hS hP)
  have c2 := Lib.hid (fun W n hS hP => r_spec (w := w) (W := W) (x := w1.heap.size) (c := e1) (d := g1) (n := n) (V := V1) (H := H1) (B := B) (s := s) (L := L) f hS hP)
  rw [← hK, ← hX] at c1 c2
  replace hK := Lib.hid hK
  replace hX := Lib.hid hX
  go_wp2_with fail
  refine (c_DrawKeep A' n' c' _ HR1.out).mono ?_
  rintro e w2 ⟨Va, ca, la, Ha, da, lb, r2, xs, rfl, o2, hB2⟩
  obtain ⟨G, g, rfl, hG⟩ := o2.reads
  have hbx := bbox hB2 (.cells #[.slice Va la ca, .slice Ha lb da] tSt)
  replace hS := Lib.hid (hS.out.next hbx)
  replace hP := Lib.hid (hP.out.next hbx)
  have HG := Lib.hid (hG.below (bbox (Below.refl _ _) (.cells #[.slice Va la ca, .slice Ha lb da] tSt)))
  clear o2 hG hB2 hbx HR1
  have q1 := hS.out.blk.cell
  have r1 := hS.out.blk.frozen
  have l1 := hS.out.blk.lt
  go_wp2_with fail
  refine (c1.out _ _ hS.out.sb hP.out).mono ?_
  rintro e w3 ⟨V3, e3, H3, g3, rfl, hV3, hB3⟩
  have hbx := bbox hB3 (.cells #[.slice V3 X.values.length e3, .slice H3 X.heap.length g3] tSt)
  replace hS := Lib.hid (hS.out.next hbx)
  replace hP := Lib.hid (hP.out.next hbx)
  replace HG := Lib.hid (HG.out.below hbx)
  have hXs := Lib.hid (SD.new hV3.out)
  clear hB3 hbx q1 r1 l1 hV3
  have q1 := hS.out.blk.cell
  have r1 := hS.out.blk.frozen
  have l1 := hS.out.blk.lt
  go_wp2_with fail
  refine (c2.out _ _ hS.out.sb hP.out).mono ?_
  rintro e w4 ⟨V4, e4, H4, g4, rfl, hV4, hB4⟩
  have hbx := bbox hB4 (.cells #[.slice V4 X.values.length e4, .slice H4 X.heap.length g4] tSt)
  replace hS := Lib.hid (hS.out.next hbx)
  replace hP := Lib.hid (hP.out.next hbx)
  replace HG := Lib.hid (HG.out.below hbx)
  replace hXs := Lib.hid (hXs.out.next hbx)
  have hWs := Lib.hid (SD.new hV4.out)
  have z4 := hB4.size
  clear hB4 hbx q1 r1 l1 hV4 c1 c2
  have q1 := hS.out.blk.cell
  have r1 := hS.out.blk.frozen
  have l1 := hS.out.blk.lt
  by_cases hok : okC s xs
  case neg =>
    have HOK := Lib.hid hok
    clear hok hK hX
    go_wp2_with fail
    refine (c_impl_KeepNo _ s G g xs _ hS.out.st HG.out HOK.out).mono ?_
    rintro e w5 ⟨rfl, hB5⟩
    have hbx := bbox hB5 (.cells #[.slice none 0 0, .slice none 0 0] tSt)
    replace hS := Lib.hid (hS.out.next hbx)
    replace hP := Lib.hid (hP.out.next hbx)
    replace HG := Lib.hid (HG.out.below hbx)
    replace hXs := Lib.hid (hXs.out.next hbx)
    replace hWs := Lib.hid (hWs.out.next hbx)
    clear hB5 hbx q1 r1 l1
    have q1 := hS.out.blk.cell
    have r1 := hS.out.blk.frozen
    have l1 := hS.out.blk.lt
    go_wp2_with fail
    refine (c_impl_DropNo _ s G g xs _ hS.out.st HG.out HOK.out).mono ?_
    rintro e w6 ⟨rfl, hB6⟩
    have hbx := bbox hB6 (.cells #[.slice none 0 0, .slice none 0 0] tSt)
    replace hP := Lib.hid (hP.out.next hbx)
    replace hXs := Lib.hid (hXs.out.next hbx)
    replace hWs := Lib.hid (hWs.out.next hbx)
    clear hB6 hbx q1 r1 l1 hS HG HOK
    have q2 := hXs.out.blk.cell
    have r2 := hXs.out.blk.frozen
    have l2 := hXs.out.blk.lt
    have q3 := hWs.out.blk.cell
    have r3 := hWs.out.blk.frozen
    have l3 := hWs.out.blk.lt
    go_wp2_with fail
    refine (same_T rfl hXs.out.sb hWs.out.sb).mono ?_
    rintro e w7 ⟨rfl, hB7⟩
    replace hP := Lib.hid (hP.out.next hB7)
    replace hXs := Lib.hid (hXs.out.next hB7)
    replace hWs := Lib.hid (hWs.out.next hB7)
    clear hB7 q2 r2 l2 q3 r3 l3
    have q2 := hXs.out.blk.cell
    have r2 := hXs.out.blk.frozen
    have l2 := hXs.out.blk.lt
    have q3 := hWs.out.blk.cell
    have r3 := hWs.out.blk.frozen
    have l3 := hWs.out.blk.lt
    go_wp2_with fail
    refine (same_T rfl hXs.out.sb hWs.out.sb).mono ?_
    rintro e w8 ⟨rfl, hB8⟩
    go_wp2_with fail
    go_ret
    exact ⟨rfl, bgo hP.out.bel hB8⟩
  have HOK := Lib.hid hok
  have kp := Lib.hid (fun W hS hG => kp_impl (W := W) (lo := w.heap.size) (hi := w1.heap.size) (lo' := (w1.alloc (.cells #[.slice V1 s.values.length e1, .slice H1 s.heap.length g1] tSt)).heap.size) (hi' := w2.heap.size) (x := w1.heap.size) (c := e1) (d := g1) (g := g) (V := V1) (H := H1) (G := G) HOK.out hS hG)
  have dp := Lib.hid (fun W hS hG => dp_impl (W := W) (lo := w.heap.size) (hi := w1.heap.size) (lo' := (w1.alloc (.cells #[.slice V1 s.values.length e1, .slice H1 s.heap.length g1] tSt)).heap.size) (hi' := w2.heap.size) (x := w1.heap.size) (c := e1) (d := g1) (g := g) (V := V1) (H := H1) (G := G) HOK.out hS hG)
  have law := Lib.hid (fun hL h0 => frame_law (s := s) (xs := xs) (L := L) (f := f) HOK.out.1 hL h0)
  rw [← hK.out, ← hX.out] at law
  clear hok
  obtain ⟨p, hp⟩ : ∃ p, p = keepS s (fun x => decide (x ∈ xs)) := ⟨_, rfl⟩
  obtain ⟨t, ht⟩ : ∃ t, t = keepS s (fun x => !decide (x ∈ xs)) := ⟨_, rfl⟩
  rw [← hp] at kp law
  rw [← ht] at dp law
  clear hp ht hK hX HOK
  go_wp2_with fail
  refine (kp.out _ hS.out HG.out).mono ?_
  rintro e w5 ⟨V5, e5, H5, g5, rfl, hV5, hB5⟩
  have hbx := bbox hB5 (.cells #[.slice V5 p.values.length e5, .slice H5 p.heap.length g5] tSt)
  replace hS := Lib.hid (hS.out.next hbx)
  replace hP := Lib.hid (hP.out.next hbx)
  replace HG := Lib.hid (HG.out.below hbx)
  replace hXs := Lib.hid (hXs.out.next hbx)
  replace hWs := Lib.hid (hWs.out.next hbx)
  have hPs := Lib.hid (SD.new hV5.out)
  have hP5 := hP.out.bel.size
  have z5 := hB5.size
  clear hB5 hbx q1 r1 l1 hV5 kp
  have q1 := hS.out.blk.cell
  have r1 := hS.out.blk.frozen
  have l1 := hS.out.blk.lt
  go_wp2_with fail
  refine (dp.out _ hS.out HG.out).mono ?_
  rintro e w6 ⟨V6, e6, H6, g6, rfl, hV6, hB6⟩
  have hbx := bbox hB6 (.cells #[.slice V6 t.values.length e6, .slice H6 t.heap.length g6] tSt)
  replace hP := Lib.hid (hP.out.next hbx)
  replace hXs := Lib.hid (hXs.out.next hbx)
  replace hWs := Lib.hid (hWs.out.next hbx)
  replace hPs := Lib.hid (hPs.out.next hbx)
  have hTs := Lib.hid (SD.new hV6.out)
  have z6 := hB6.size
  clear hB6 hbx q1 r1 l1 hV6 dp hS HG
  have q2 := hXs.out.blk.cell
  have r2 := hXs.out.blk.frozen
  have l2 := hXs.out.blk.lt
  have q3 := hWs.out.blk.cell
  have r3 := hWs.out.blk.frozen
  have l3 := hWs.out.blk.lt
  go_wp2_with fail
  refine (same_T rfl hXs.out.sb hWs.out.sb).mono ?_
  rintro e w7 ⟨rfl, hB7⟩
  replace hP := Lib.hid (hP.out.next hB7)
  replace hXs := Lib.hid (hXs.out.next hB7)
  replace hWs := Lib.hid (hWs.out.next hB7)
  replace hPs := Lib.hid (hPs.out.next hB7)
  replace hTs := Lib.hid (hTs.out.next hB7)
  clear hB7 q2 r2 l2 q3 r3 l3
  go_wp2_with fail
  refine (c_slNews L B d _ hP.out.prog.1 hLen.out.1 hLen.out.2).mono ?_
  rintro e w8 ⟨rfl, hB8⟩
  replace hP := Lib.hid (hP.out.next hB8)
  replace hXs := Lib.hid (hXs.out.next hB8)
  replace hWs := Lib.hid (hWs.out.next hB8)
  replace hPs := Lib.hid (hPs.out.next hB8)
  replace hTs := Lib.hid (hTs.out.next hB8)
  clear hB8
  cases hL : L.noNew
  · clear law hL
    have q2 := hXs.out.blk.cell
    have r2 := hXs.out.blk.frozen
    have l2 := hXs.out.blk.lt
    have q3 := hWs.out.blk.cell
    have r3 := hWs.out.blk.frozen
    have l3 := hWs.out.blk.lt
    go_wp2_with fail
    refine (same_T rfl hXs.out.sb hWs.out.sb).mono ?_
    rintro e w9 ⟨rfl, hB9⟩
    go_wp2_with fail
    go_ret
    exact ⟨rfl, bgo hP.out.bel hB9⟩
  have law2 := Lib.hid (law.out hL)
  clear law hL hWs hLen
  obtain ⟨M, hM⟩ : ∃ M, M = codeF p L f := ⟨_, rfl⟩
  obtain ⟨Y, hY⟩ : ∃ Y, Y = afterF p L f := ⟨_, rfl⟩
  have c3 := Lib.hid (fun W n hS hP => r_impl (w := w) (W := W) (x := w5.heap.size) (c := e5) (d := g5) (n := n) (V := V5) (H := H5) (B := B) (s := p) (L := L) f hS hP)
  rw [← hM, ← hY] at c3 law2
  clear hM hY
  have q1 := hPs.out.blk.cell
  have r1 := hPs.out.blk.frozen
  have l1 := hPs.out.blk.lt
  go_wp2_with fail
  refine (c3.out _ _ hPs.out.sb hP.out).mono ?_
  rintro e w9 ⟨V9, e9, H9, g9, rfl, hV9, hB9⟩
  have hbx := bbox hB9 (.cells #[.slice V9 Y.values.length e9, .slice H9 Y.heap.length g9] tSt)
  have hbe := Lib.hid (hP.out.next hbx).bel
  have z8 := hXs.out.blk.lt
  have z9 := hB9.size
  have z8t := hTs.out.blk.lt
  replace hXs := Lib.hid (hXs.out.next hbx)
  replace hTs := Lib.hid (hTs.out.next hbx)
  have hYs := Lib.hid (SD.new hV9.out)
  clear hB9 hbx q1 r1 l1 hV9 c3 hPs hP
  by_cases hM0 : M = 0
  case neg =>
    have hMb : (M != 0) = true := by simpa using hM0
    clear law2
    go_wp2_with fail
    go_ret
    exact ⟨rfl, hbe.out⟩
  obtain ⟨hK0, hYv, hTv, hdj, hXe⟩ := law2.out hM0
  subst hM0 hK0
  have HYV := Lib.hid hYv
  have HTV := Lib.hid hTv
  have HDJ := Lib.hid hdj
  have HXE := Lib.hid hXe
  have HY8 := Lib.hid (Ste.valid_len hYv).1
  clear law2 hYv hTv hdj hXe
  have qY := hYs.out.blk.cell
  have rY := hYs.out.blk.frozen
  have lY := hYs.out.blk.lt
  have qT := hTs.out.blk.cell
  have rT := hTs.out.blk.frozen
  have lT := hTs.out.blk.lt
  obtain ⟨W9, hW9⟩ : ∃ W9, W9 = (w9.alloc (.cells #[.slice V9 Y.values.length e9, .slice H9 Y.heap.length g9] tSt)).alloc (.cells #[] tI) := ⟨_, rfl⟩
  have hbn : Below (w9.alloc (.cells #[.slice V9 Y.values.length e9, .slice H9 Y.heap.length g9] tSt)).heap.size (w9.alloc (.cells #[.slice V9 Y.values.length e9, .slice H9 Y.heap.length g9] tSt)) ((w9.alloc (.cells #[.slice V9 Y.values.length e9, .slice H9 Y.heap.length g9] tSt)).alloc (.cells #[] tI)) := bbox (Below.refl _ _) _
  have hXn := Lib.hid (hXs.out.next hbn)
  have hYn := Lib.hid (hYs.out.next hbn)
  have hTn := Lib.hid (hTs.out.next hbn)
  have hO : Hid (IntsO ((w9.alloc (.cells #[.slice V9 Y.values.length e9, .slice H9 Y.heap.length g9] tSt)).alloc (.cells #[] tI)) (w9.heap.size + 1) (.slice (some ⟨w9.heap.size + 1, 0, none⟩) 0 0) []) := Lib.hid (IntsO.empty _ (by simp))
  clear hW9
  go_wp2_with (at_builtin; refine appIL (ys := Y.values) (base := w9.heap.size + 1) rfl _ _ rfl rfl hO.out rfl hYn.out.at.1 (by have := HY8.out; simp; omega) (by simp) ?_; intro A10 c10 w10 o10 hg10 hB10; have qYx := (hYn.out.blk.below (g := w9.heap.size) hB10 (by omega)).cell; have kTx := hTn.out.blk.below (g := w6.heap.size) hB10 (by omega); have qTx := kTx.cell; have rTx := kTx.frozen; have lTx := kTx.lt; have hz10 := hg10.size; have HB10 := Lib.hid hB10; have HO10 := Lib.hid o10; clear hg10 hB10 o10)
  have z3 : w3.heap.size + 1 ≤ w4.heap.size := by simpa using z4
  have z45 : w4.heap.size + 1 ≤ w5.heap.size := by simpa using z5
  have z56 : w5.heap.size + 1 ≤ w6.heap.size := by simpa using z6
  have hX10 := Lib.hid ((hXn.out.keepB HB10.out (by omega) (by omega)).set (p := ⟨w6.heap.size, 0, none⟩) (Or.inr (by simp only; omega)) (by simp only; omega) (.slice A10 Y.values.length c10))
  have hY10 := Lib.hid ((hYn.out.keepB HB10.out (by omega) (by omega)).set (p := ⟨w6.heap.size, 0, none⟩) (Or.inl (by simp only; omega)) (by simp only; omega) (.slice A10 Y.values.length c10))
  have hT10 := hTn.out.keepB HB10.out (by omega) (by omega)
  have hT2 : IntsV (w10.setCell ⟨w6.heap.size, 0, none⟩ (.slice A10 Y.values.length c10)) 0 w10.heap.size H6 t.heap := (Rd.setb hT10.at.2 (Or.inr (by simp only; omega)) _ : IntsV _ _ _ _ _).mono (Nat.zero_le _) (by simp only [World.size_alloc] at hz10; omega)
  have hV10 : IntsV (w10.setCell ⟨w6.heap.size, 0, none⟩ (.slice A10 Y.values.length c10)) 0 w10.heap.size A10 Y.values := by
    have := HO10.out.readsI.2
    simp only [List.nil_append] at this
    exact (Rd.setb this (Or.inl (by simp only; omega)) _ : IntsV _ _ _ _ _).mono (Nat.zero_le _) (Nat.le_refl _)
  have hST : Hid (StateV (w10.setCell ⟨w6.heap.size, 0, none⟩ (.slice A10 Y.values.length c10)) 0 w10.heap.size (.agg #[.slice A10 Y.values.length c10, .slice H6 t.heap.length g6]) ⟨Y.values, t.heap⟩) := Lib.hid ⟨_, _, _, _, rfl, hV10, hT2⟩
  have hbe10 := Lib.hid (((bgo hbe.out hbn).trans (HB10.out.mono (by have := hbe.out.size; simp only [World.size_alloc] at this; omega))).setCell (p := ⟨w6.heap.size, 0, none⟩) (by simp only [World.size_alloc] at hP5; simp only; omega) (.slice A10 Y.values.length c10))
  clear hV10 hT2 hT10 HO10 HB10 hO hXn hYn hTn hbn hXs hYs hTs hbe qYx qTx rTx kTx
  refine (c_impl_JoinStates _ _ Y ⟨Y.values, t.heap⟩ _ hY10.out.st hST.out HYV.out HTV.out rfl HDJ.out).mono ?_
  rintro e w11 ⟨r, rfl, o, hB11⟩
  rw [HXE.out] at o
  obtain ⟨V11, e11, H11, g11, rfl, hV11⟩ := o.open_
  have hbx := bbox hB11 (.cells #[.slice V11 X.values.length e11, .slice H11 X.heap.length g11] tSt)
  replace hX10 := Lib.hid (hX10.out.next hbx)
  have hbe11 := Lib.hid (bgo hbe10.out hbx)
  have hZs := Lib.hid (SD.new hV11.out)
  clear hB11 hbx hV11 o hbe10 hST hY10
  have q2 := hX10.out.blk.cell
  have r2 := hX10.out.blk.frozen
  have l2 := hX10.out.blk.lt
  have q3 := hZs.out.blk.cell
  have r3 := hZs.out.blk.frozen
  have l3 := hZs.out.blk.lt
  go_wp2_with fail
  refine (same_T rfl hZs.out.sb hX10.out.sb).mono ?_
  rintro e w12 ⟨rfl, hB12⟩
  go_wp2_with fail
  go_ret
  exact ⟨rfl, bgo hbe11.out hB12⟩
--@
end Go.Proofs.YteogcababfenfaaGreat
