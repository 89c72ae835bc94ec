/- Running programs: impl's small parts. -/
import Derived.Test.YteogcababfenfaaGreatMCells
import Derived.Test.YteogcababfenfaaGreatMDrawV
import Derived.Test.YteogcababfenfaaGreatMCmd
import Derived.IntWalk
import Derived.Test.YteogcababfenfaaGreatMVisP
import Derived.Deep.LoopGhost
set_option linter.unusedSimpArgs false
set_option linter.unusedVariables false
namespace Go.Proofs.YteogcababfenfaaGreat
open Go Go.RowKit Go.Proofs

--@ impl.machine
abbrev tM : Nat := 68
/-- a machine of our own: it and its state's rows lie in blocks from B on -/
def Mach (w : World) (B g : Nat) (s : Ste) (f : Nat) : Prop := B ≤ g ∧ ∃ fv hv, Blk w g tM #[fv, hv, .int .i64 (f : Int)] ∧ StateO w B (.agg #[fv, hv]) s
theorem Mach.below {w w' : World} {B g f : Nat} {s : Ste} (h : Mach w B g s f) (hb : Below w.heap.size w w') : Mach w' B g s f := by
  obtain ⟨h1, fv, hv, k, o⟩ := h
  exact ⟨h1, fv, hv, k.next hb, o.below hb⟩
theorem Mach.lt {w : World} {B g f : Nat} {s : Ste} (h : Mach w B g s f) : g < w.heap.size := by
  obtain ⟨h1, fv, hv, k, o⟩ := h
  exact k.lt
theorem Mach.form {w : World} {B g f : Nat} {s : Ste} (h : Mach w B g s f) : ∃ F e1 G e2, B ≤ g ∧ Blk w g tM #[.slice F s.values.length e1, .slice G s.heap.length e2, .int .i64 (f : Int)] ∧ IntsO w B (.slice F s.values.length e1) s.values ∧ IntsO w B (.slice G s.heap.length e2) s.heap ∧ (∀ x, (Value.slice F s.values.length e1).ownBlock = some x → (Value.slice G s.heap.length e2).ownBlock ≠ some x) := by
  obtain ⟨h1, fv, hv, k, fv', hv', e, o1, o2, dj⟩ := h
  injection e with e; injection e with e; injection e with ea eb; injection eb with eb; subst ea eb
  obtain ⟨F, e1, rfl, -⟩ := o1.reads
  obtain ⟨G, e2, rfl, -⟩ := o2.reads
  exact ⟨F, e1, G, e2, h1, k, o1, o2, dj⟩
--@ []impl.Cmd
/-- what the machine leaves: all below B and the variables that hold commands -/
structure Rf (B : Nat) (w w' : World) : Prop where
  below : Below B w w'
  size : w.heap.size ≤ w'.heap.size
  boxes : ∀ k cs, Blk w k tC cs → Blk w' k tC cs
section
variable {B : Nat} {w a b : World}
theorem Rf.of (h : Below w.heap.size w a) (hB : B ≤ w.heap.size) : Rf B w a := ⟨btoB h hB, h.size, fun _ _ k => k.next h⟩
theorem Rf.trans (h : Rf B w a) (h2 : Rf B a b) : Rf B w b := ⟨h.below.trans h2.below, Nat.le_trans h.size h2.size, fun k cs hk => h2.boxes k cs (h.boxes k cs hk)⟩
theorem Rf.go (h : Rf B w a) (h2 : Below a.heap.size a b) (hB : B ≤ w.heap.size) : Rf B w b := h.trans (Rf.of h2 (Nat.le_trans hB h.size))
theorem Rf.drew (h : Rf B w a) : Rf B w a.drew := ⟨h.below.drew, h.size, fun k cs hk => (h.boxes k cs hk).drew⟩
theorem Rf.alloc (h : Rf B w a) (hB : B ≤ w.heap.size) (o : Obj) : Rf B w (a.alloc o) := h.go (bbox (Below.refl _ _) o) hB
theorem Rf.set (h : Rf B w a) {p : Addr} {t : TypeId} {cs : Array Value} (hk : Blk a p.block t cs) (ht : t ≠ tC) (hp : B ≤ p.block) (u : Value) : Rf B w (a.setCell p u) :=
  ⟨h.below.setCell hp u, by simpa using h.size, fun k cs' hk' => (h.boxes k cs' hk').far (p := p) ((h.boxes k cs' hk').ne_ hk (Ne.symm ht)) u⟩
end
--@ impl.TestHolds
set_option maxRecDepth 100000 in
set_option maxHeartbeats 1600000 in
theorem c_impl_TestHolds {lo hi : Nat} (v : Value) (s : Ste) (t : Fct) (w : World) (h : StateV w lo hi v s) (hs : s.valid = true) (ht : t.valid = true) : Calls Tryz.prog 156 #[v, t.val] w fun e w' => e = .returned (.bool (t.holds s.values)) ∧ Below w.heap.size w w' := by
  have hV := Lib.hid h
  obtain ⟨A1, c1, A2, c2, rfl, h1, -⟩ := h
  have HS := Lib.hid hs
  have HT := Lib.hid ht
  have h8 := Lib.hid (Ste.valid_len hs).1
  have hv1 : isTermB t.a = true ∧ isTermB t.b = true := by simpa [Fct.valid] using ht
  have ha := Lib.hid (isTermB_iff.1 hv1.1)
  have hb := Lib.hid (isTermB_iff.1 hv1.2)
  have H1 := Lib.hid h1
  clear hs ht hv1 h1
  obtain ⟨x, hx⟩ : ∃ x, x = tval s.values t.a := ⟨_, rfl⟩
  obtain ⟨y, hy⟩ : ∃ x, x = tval s.values t.b := ⟨_, rfl⟩
  have HR : Hid (t.holds s.values = ((x == y) == t.eq)) := by show _ = _; rw [Fct.holds, ← hx, ← hy]; rfl
  replace hx := Lib.hid hx
  replace hy := Lib.hid hy
  go_enter Tryz.func156, Tryz.ntmps156
  go_wp2_with fail
  refine (c_impl_StateValid _ s _ (hV.out.below bel)).mono ?_
  rintro e w1 ⟨rfl, hB1⟩
  rw [HS.out]
  have hB := bgo (w := w) bel hB1
  have k0 : Blk w1 w.heap.size 25 #[.slice A1 s.values.length c1, .slice A2 s.heap.length c2] := Blk.next blks hB1
  have k1 : Blk w1 (w.heap.size + 1) 88 #[.bool t.eq, .int .i64 t.a, .int .i64 t.b] := Blk.next blks hB1
  (replace qk0 := k0.cell; replace rk0 := k0.frozen; replace lk0 := k0.lt; replace qk1 := k1.cell; replace rk1 := k1.frozen; replace lk1 := k1.lt)
  clear hB1
  go_wp2_with fail
  refine (c_impl_FactValid t _).mono ?_
  rintro e w2 ⟨rfl, hB2⟩
  rw [HT.out]
  (replace hB := bgo hB hB2; replace k0 := k0.next hB2; replace qk0 := k0.cell; replace rk0 := k0.frozen; replace lk0 := k0.lt; replace k1 := k1.next hB2; replace qk1 := k1.cell; replace rk1 := k1.frozen; replace lk1 := k1.lt)
  clear hB2
  go_wp2_with fail
  refine wp_region_noPanic ?_
  refine wp_region_held_drew (S := (fun w' => (∀ j, w'.cell? ⟨w.heap.size, j, none⟩ = #[Value.slice A1 s.values.length c1, .slice A2 s.heap.length c2][j]?) ∧ (∀ j, w'.cell? ⟨w.heap.size + 1, j, none⟩ = #[Value.bool t.eq, .int .i64 t.a, .int .i64 t.b][j]?))) (by kernel_rfl) (⟨k0.cell, k1.cell⟩) (fun hHeld => ?_)
  refine wpAnyH_take (i := 0) (v := ?_) rfl (by kernel_rfl) (by kernel_rfl) (by kernel_rfl) (fun _ _ _ h => h) (Or.inl ⟨by rfl, fun w hSw => ?_⟩) hHeld ?_
  rotate_left
  · ((try dsimp only at hSw); go_split_ands; go_simp; (try with_reducible rfl))
  try simp only [Act.put, List.getElem_toArray, List.getElem_cons_zero, List.getElem_cons_succ, List.setIfInBounds_toArray, List.set_cons_zero, List.set_cons_succ]
  refine wpAnyH_take (i := 1) (v := ?_) rfl (by kernel_rfl) (by kernel_rfl) (by kernel_rfl) (fun _ _ _ h => h) (Or.inl ⟨by rfl, fun w hSw => ?_⟩) hHeld ?_
  rotate_left
  · ((try dsimp only at hSw); go_split_ands; go_simp; (try with_reducible rfl))
  try simp only [Act.put, List.getElem_toArray, List.getElem_cons_zero, List.getElem_cons_succ, List.setIfInBounds_toArray, List.set_cons_zero, List.set_cons_succ]
  refine wpAnyH_take (i := 2) (v := ?_) rfl (by kernel_rfl) (by kernel_rfl) (by kernel_rfl) (fun _ _ _ h => h) (Or.inl ⟨by rfl, fun w hSw => ?_⟩) hHeld ?_
  rotate_left
  · ((try dsimp only at hSw); go_split_ands; go_simp; (try with_reducible rfl))
  try simp only [Act.put, List.getElem_toArray, List.getElem_cons_zero, List.getElem_cons_succ, List.setIfInBounds_toArray, List.set_cons_zero, List.set_cons_succ]
  refine wpAnyH_take (i := 3) (v := ?_) rfl (by kernel_rfl) (by kernel_rfl) (by kernel_rfl) (fun _ _ _ h => h) (Or.inl ⟨by rfl, fun w hSw => ?_⟩) hHeld ?_
  rotate_left
  · ((try dsimp only at hSw); go_split_ands; go_simp; (try with_reducible rfl))
  try simp only [Act.put, List.getElem_toArray, List.getElem_cons_zero, List.getElem_cons_succ, List.setIfInBounds_toArray, List.set_cons_zero, List.set_cons_succ]
  refine wpAnyH_take (i := 5) (v := ?_) rfl (by kernel_rfl) (by kernel_rfl) (by kernel_rfl) (fun _ _ _ h => h) (Or.inl ⟨by rfl, fun w hSw => ?_⟩) hHeld ?_
  rotate_left
  · ((try dsimp only at hSw); go_split_ands; go_simp; (try with_reducible rfl))
  try simp only [Act.put, List.getElem_toArray, List.getElem_cons_zero, List.getElem_cons_succ, List.setIfInBounds_toArray, List.set_cons_zero, List.set_cons_succ]
  refine wpAnyH_take (i := 6) (v := ?_) rfl (by kernel_rfl) (by kernel_rfl) (by kernel_rfl) (fun _ _ _ h => h) (Or.inl ⟨by rfl, fun w hSw => ?_⟩) hHeld ?_
  rotate_left
  · ((try dsimp only at hSw); go_split_ands; go_simp; (try with_reducible rfl))
  try simp only [Act.put, List.getElem_toArray, List.getElem_cons_zero, List.getElem_cons_succ, List.setIfInBounds_toArray, List.set_cons_zero, List.set_cons_succ]
  refine wpAnyH_take (i := 7) (v := ?_) rfl (by kernel_rfl) (by kernel_rfl) (by kernel_rfl) (fun _ _ _ h => h) (Or.inl ⟨by rfl, fun w hSw => ?_⟩) hHeld ?_
  rotate_left
  · ((try dsimp only at hSw); go_split_ands; go_simp; (try with_reducible rfl))
  try simp only [Act.put, List.getElem_toArray, List.getElem_cons_zero, List.getElem_cons_succ, List.setIfInBounds_toArray, List.set_cons_zero, List.set_cons_succ]
  refine wpAnyH_take (i := 8) (v := ?_) rfl (by kernel_rfl) (by kernel_rfl) (by kernel_rfl) (fun _ _ _ h => h) (Or.inl ⟨by rfl, fun w hSw => ?_⟩) hHeld ?_
  rotate_left
  · ((try dsimp only at hSw); go_split_ands; go_simp; (try with_reducible rfl))
  try simp only [Act.put, List.getElem_toArray, List.getElem_cons_zero, List.getElem_cons_succ, List.setIfInBounds_toArray, List.set_cons_zero, List.set_cons_succ]
  refine wpAnyH_take (i := 11) (v := ?_) rfl (by kernel_rfl) (by kernel_rfl) (by kernel_rfl) (fun _ _ _ h => h) (Or.inl ⟨by rfl, fun w hSw => ?_⟩) hHeld ?_
  rotate_left
  · ((try dsimp only at hSw); go_split_ands; go_simp; (try with_reducible rfl))
  try simp only [Act.put, List.getElem_toArray, List.getElem_cons_zero, List.getElem_cons_succ, List.setIfInBounds_toArray, List.set_cons_zero, List.set_cons_succ]
  refine wpAnyH_take (i := 12) (v := ?_) rfl (by kernel_rfl) (by kernel_rfl) (by kernel_rfl) (fun _ _ _ h => h) (Or.inl ⟨by rfl, fun w hSw => ?_⟩) hHeld ?_
  rotate_left
  · ((try dsimp only at hSw); go_split_ands; go_simp; (try with_reducible rfl))
  try simp only [Act.put, List.getElem_toArray, List.getElem_cons_zero, List.getElem_cons_succ, List.setIfInBounds_toArray, List.set_cons_zero, List.set_cons_succ]
  refine wpAnyH_ready (rs := [4]) (by kernel_rfl) (by simp) ?_
  refine AllReadyH.cons rfl (fun K hK => ?_) AllReadyH.nil
  try simp only [List.getElem_toArray, List.getElem_cons_zero, List.getElem_cons_succ]
  (go_simp; refine (c_impl_termValue A1 c1 s.values t.a _ (H1.out.below (hB.drew)) ha.out.1 (by rw [h8.out]; exact ha.out.2)).mono ?_; rintro e w3 ⟨rfl, rfl⟩; rw [← hx.out])
  refine hK.out _ _ (⟨k0.cell, k1.cell⟩) (fun hHeldN => ?_)
  clear hHeld hK K
  have hHeld := hHeldN
  clear hHeldN
  try simp only [Act.put, List.getElem_toArray, List.getElem_cons_zero, List.getElem_cons_succ, List.setIfInBounds_toArray, List.set_cons_zero, List.set_cons_succ]
  refine wpAnyH_ready (rs := [9]) (by kernel_rfl) (by simp) ?_
  refine AllReadyH.cons rfl (fun K hK => ?_) AllReadyH.nil
  try simp only [List.getElem_toArray, List.getElem_cons_zero, List.getElem_cons_succ]
  (go_simp; refine (c_impl_termValue A1 c1 s.values t.b _ (H1.out.below (hB.drew)) hb.out.1 (by rw [h8.out]; exact hb.out.2)).mono ?_; rintro e w3 ⟨rfl, rfl⟩; rw [← hy.out])
  refine hK.out _ _ (⟨k0.cell, k1.cell⟩) (fun hHeldN => ?_)
  clear hHeld hK K
  have hHeld := hHeldN
  clear hHeldN
  try simp only [Act.put, List.getElem_toArray, List.getElem_cons_zero, List.getElem_cons_succ, List.setIfInBounds_toArray, List.set_cons_zero, List.set_cons_succ]
  refine wpAnyH_take (i := 10) (v := ?_) rfl (by kernel_rfl) (by kernel_rfl) (by kernel_rfl) (fun _ _ _ h => h) (Or.inl ⟨by rfl, fun w hSw => ?_⟩) hHeld ?_
  rotate_left
  · ((try dsimp only at hSw); go_split_ands; go_simp; (try with_reducible rfl))
  try simp only [Act.put, List.getElem_toArray, List.getElem_cons_zero, List.getElem_cons_succ, List.setIfInBounds_toArray, List.set_cons_zero, List.set_cons_succ]
  refine wpAnyH_take (i := 13) (v := ?_) rfl (by kernel_rfl) (by kernel_rfl) (by kernel_rfl) (fun _ _ _ h => h) (Or.inl ⟨by rfl, fun w hSw => ?_⟩) hHeld ?_
  rotate_left
  · ((try dsimp only at hSw); go_split_ands; go_simp; (try with_reducible rfl))
  try simp only [Act.put, List.getElem_toArray, List.getElem_cons_zero, List.getElem_cons_succ, List.setIfInBounds_toArray, List.set_cons_zero, List.set_cons_succ]
  refine wpAnyH_take (i := 14) (v := ?_) rfl (by kernel_rfl) (by kernel_rfl) (by kernel_rfl) (fun _ _ _ h => h) (Or.inl ⟨by rfl, fun w hSw => ?_⟩) hHeld ?_
  rotate_left
  · ((try dsimp only at hSw); go_split_ands; go_simp; (try with_reducible rfl))
  try simp only [Act.put, List.getElem_toArray, List.getElem_cons_zero, List.getElem_cons_succ, List.setIfInBounds_toArray, List.set_cons_zero, List.set_cons_succ]
  refine wpAnyH_done (by kernel_rfl) ?_ _
  refine NoPanic.normal ?_
  go_wp2_with fail
  go_ret
  exact ⟨ret_bool HR.out.symm, hB.drew⟩
--@ impl.AllocCell
set_option maxRecDepth 100000 in
set_option maxHeartbeats 3200000 in
theorem c_impl_AllocX {lo hi : Nat} (v : Value) (s : Ste) (w : World) (h : StateV w lo hi v s) (hs : s.valid = true) :
    Calls Tryz.prog 182 #[v] w fun e w' => ((freeK s.heap = none ∧ e = .returned (.tuple #[.agg #[.slice none 0 0, .slice none 0 0], .int .i64 0, .bool false])) ∨ (∃ (k : Nat) (r : Value), freeK s.heap = some k ∧ e = .returned (.tuple #[r, .int .i64 ((k : Int) + 1), .bool true]) ∧ StateO w' w.heap.size r ⟨s.values, s.heap.set k 0⟩)) ∧ Below w.heap.size w w' := by
  have hV := Lib.hid h
  obtain ⟨A1, c1, A2, c2, rfl, -, -⟩ := h
  have HS := Lib.hid hs
  have H8 := Lib.hid (Ste.valid_len hs)
  clear hs
  go_enter Tryz.func182, Tryz.ntmps182
  obtain ⟨k0, k1⟩ := blk2 w tSt tSt #[.slice A1 s.values.length c1, .slice A2 s.heap.length c2] #[.slice none 0 0, .slice none 0 0]
  go_wp2_with fail
  refine (c_impl_StateValid _ s _ (hV.out.below bel)).mono ?_
  rintro e w1 ⟨rfl, hB1⟩
  rw [HS.out]
  have hB := bgo (w := w) bel hB1
  (replace k0 := k0.next hB1; replace qk0 := k0.cell; replace rk0 := k0.frozen; replace lk0 := k0.lt; replace k1 := k1.next hB1; replace qk1 := k1.cell; replace rk1 := k1.frozen; replace lk1 := k1.lt)
  clear hB1
  go_wp2_with fail
  go_loopw [5] (fun i wr => ∃ k : Nat, k ≤ 8 ∧ i = .int .i64 ((k : Int) + 1) ∧ Hid (∀ j : Nat, j < k → allocB s.heap ((j : Int) + 1) = true) ∧ Blk wr w.heap.size tSt #[.slice A1 s.values.length c1, .slice A2 s.heap.length c2] ∧ Blk wr (w.heap.size + 1) tSt #[.slice none 0 0, .slice none 0 0] ∧ Hid (Below w.heap.size w wr)) (fun i _ => 10 - (intOf i).toNat)
  case atStart => exact ⟨0, by omega, rfl, Lib.hid (fun j hj => by omega), k0, k1, hB⟩
  case round =>
    clear k0 k1 hB qk0 rk0 lk0 qk1 rk1 lk1
    obtain ⟨k, hk, rfl, HALL, k0, k1, HB⟩ := hrel
    (replace qk0 := k0.cell; replace rk0 := k0.frozen; replace lk0 := k0.lt; replace qk1 := k1.cell; replace rk1 := k1.frozen; replace lk1 := k1.lt)
    have hsz := HB.out.size
    by_cases hlt : k < 8
    · have hki : (k : Int) + 1 ≤ 8 := by omega
      go_wp2_with fail
      refine (c_impl_allocated _ s _ _ (hV.out.below HB.out) H8.out.2).mono ?_
      rintro e w2 ⟨rfl, hB2⟩
      have hB3 : Below w.heap.size w w2 := bgo HB.out hB2
      (replace k0 := k0.next hB2; replace qk0 := k0.cell; replace rk0 := k0.frozen; replace lk0 := k0.lt; replace k1 := k1.next hB2; replace qk1 := k1.cell; replace rk1 := k1.frozen; replace lk1 := k1.lt)
      clear hB2
      cases ha : allocB s.heap ((k : Int) + 1)
      · have HF := Lib.hid (freeK_some hlt ha HALL.out)
        clear ha HALL
        go_wp2_with fail
        refine (c_impl_copyState _ s _ (hV.out.below hB3)).mono ?_
        rintro e w4 ⟨r, rfl, o, hB4⟩
        have hz := hB3.size
        (replace hB3 := bgo hB3 hB4; replace k0 := k0.next hB4; replace qk0 := k0.cell; replace rk0 := k0.frozen; replace lk0 := k0.lt; replace k1 := k1.next hB4; replace qk1 := k1.cell; replace rk1 := k1.frozen; replace lk1 := k1.lt)
        clear hB4
        obtain ⟨fv, av, rfl, o1, o2, dj⟩ := o
        obtain ⟨F, e1, rfl, -⟩ := o1.reads
        obtain ⟨G, e2, rfl, -⟩ := o2.reads
        have hnl : (k : Int) < (s.heap.length : Int) := by have := H8.out.2; omega
        obtain ⟨g, cur, -, rfl, hg, kg, hc, hset⟩ := (o2.lower (base' := w.heap.size) hz).cell_ (k := k) (by omega)
        have q := kg.cell k
        rw [hc] at q
        obtain ⟨y, hy⟩ : ∃ y, y = s.heap[k]'(by omega) := ⟨_, rfl⟩
        rw [← hy] at q
        have f := kg.frozen k
        have hgl := kg.lt
        have HSET := Lib.hid (hset 0)
        have O1 := Lib.hid (o1.lower (base' := w.heap.size) hz)
        have HD := Lib.hid dj
        have hne : w.heap.size + 1 ≠ g := k1.ne_ kg (by decide)
        clear hset o1 o2 dj hc hy
        go_wp2_with fail
        have k6 := k1.far (p := ⟨g, k, none⟩) hne (.int .i64 0)
        refine bodyPost_ret (v := .tuple #[.agg #[.slice F s.values.length e1, .slice (some ⟨g, 0, none⟩) s.heap.length e2], .int .i64 ((k : Int) + 1), .bool true]) (by simp [results, Tryz.results182, go_sem, qk1, lk1]) rfl ⟨Or.inr ⟨k, _, HF.out, rfl, ⟨_, _, rfl, ?_, ?_, HD.out⟩⟩, ?_⟩
        · exact (((O1.out.set_ne (q := ⟨g, k, none⟩) (fun e => HD.out g e rfl) (.int .i64 0)).setT k6 (by decide) 0 _).setT (k6.set_ 0 _) (by decide) 1 _).below (bbox (Below.refl _ _) _)
        · exact ((HSET.out.setT k6 (by decide) 0 _).setT (k6.set_ 0 _) (by decide) 1 _).below (bbox (Below.refl _ _) _)
        · exact bbox (((hB3.setCell (p := ⟨g, k, none⟩) hg _).setCell (p := ⟨w.heap.size + 1, 0, none⟩) (by simp only; omega) _).setCell (p := ⟨w.heap.size + 1, 1, none⟩) (by simp only; omega) _) _
      · have HA2 : Hid (∀ j : Nat, j < k + 1 → allocB s.heap ((j : Int) + 1) = true) := fun j hj => by
          rcases Nat.lt_or_ge j k with h | h
          · exact HALL.out j h
          · obtain rfl : j = k := by omega
            exact ha
        clear ha HALL
        go_wp2_with fail
        go_round
        case rel => exact ⟨k + 1, by omega, by go_num, HA2, k0, k1, hB3⟩
        case measure => simp [intOf]; omega
    · obtain rfl : k = 8 := by omega
      have hB := HB.out
      have HF := Lib.hid (freeK_none HALL.out)
      clear HALL
      go_wp2_with fail
      refine bodyPost_ret (v := .tuple #[.agg #[.slice none 0 0, .slice none 0 0], .int .i64 0, .bool false]) (by simp [results, Tryz.results182, go_sem, qk1]) rfl ⟨Or.inl ⟨HF.out, rfl⟩, bel⟩
--@ (*impl.machine).pay
set_option maxHeartbeats 1600000 in
theorem c_impl_pay_no (w : World) (B g : Nat) (s : Ste) (h : Mach w B g s 0) : Calls Tryz.prog 155 #[.pointer (some ⟨g, 0, none⟩)] w fun e w' => e = .returned (.bool false) ∧ w = w' := by
  obtain ⟨F, e1, G, e2, hBg, k, -, -, -⟩ := h.form
  have q := k.cell 2
  go_enter Tryz.func155, Tryz.ntmps155
  go_wp2_with fail
  go_ret
  exact ⟨rfl, rfl⟩
set_option maxHeartbeats 1600000 in
theorem c_impl_pay_yes (w : World) (B g : Nat) (s : Ste) (f : Nat) (h : Mach w B g s (f + 1)) (hf : f ≤ 200) : Calls Tryz.prog 155 #[.pointer (some ⟨g, 0, none⟩)] w fun e w' => e = .returned (.bool true) ∧ Mach w' B g s f ∧ Rf B w w' := by
  obtain ⟨F, e1, G, e2, hBg, k, o1, o2, dj⟩ := h.form
  have q : w.cell? ⟨g, 2, none⟩ = some (.int .i64 ((f : Int) + 1)) := k.cell 2
  have r := k.frozen 2
  have lt := k.lt
  replace k := Lib.hid k
  replace o1 := Lib.hid o1
  replace o2 := Lib.hid o2
  replace dj := Lib.hid dj
  clear h
  go_enter Tryz.func155, Tryz.ntmps155
  go_wp2_with fail
  go_ret
  refine ⟨rfl, ⟨hBg, _, _, k.out.set_ 2 _, _, _, rfl, o1.out.setT k.out (by decide) 2 _, o2.out.setT k.out (by decide) 2 _, dj.out⟩, (Rf.of (Below.refl _ _) (by omega)).set (p := ⟨g, 2, none⟩) k.out (by decide) hBg _⟩
--@
end Go.Proofs.YteogcababfenfaaGreat

/- Running programs: impl's basic commands. -/
namespace Go.Proofs.YteogcababfenfaaGreat
open Go Go.RowKit Go.Proofs

--@ (*impl.machine).basic
theorem Blk.drewX {w : World} {g : Nat} {t : TypeId} {cs : Array Value} (h : Blk w g t cs) : Blk w.drew g t cs := h
set_option maxRecDepth 100000 in
set_option maxHeartbeats 3200000 in
theorem basic_set (w : World) (B g : Nat) (s : Ste) (f : Nat) (m : Nat) (b : Int) (hm : m < 4) (hb : 0 ≤ b ∧ b ≤ 8) (t : Fct) (vF vA vB vE : Value) (hM : Mach w B g s f) (hs : s.valid = true) :
    Calls Tryz.prog 157 #[.pointer (some ⟨g, 0, none⟩), .agg #[.int .i64 1, .int .i64 ((m : Int) + 1), .int .i64 b, .bool t.eq, .int .i64 t.a, .int .i64 t.b, vF, vA, vB, vE]] w fun e w' => e = .returned (.int .i64 (basicF s 1 ((m : Int) + 1) b).2) ∧ Mach w' B g (basicF s 1 ((m : Int) + 1) b).1 f ∧ Rf B w w' := by
  have E : Hid (basicF s 1 ((m : Int) + 1) b = (⟨s.values.set m (tval s.values b), s.heap⟩, 0)) := by
    show _ = _
    unfold basicF
    rw [if_pos rfl, show ((m : Int) + 1 - 1).toNat = m by omega]
  rw [E.out]
  have HB := Lib.hid hb
  have hm4 : (m : Int) < 4 := by omega
  have hm8 : (m : Int) < 8 := by omega
  clear hb
  obtain ⟨F, e1, G, e2, hBg, kM, o1, o2, dj⟩ := hM.form
  have hgl := kM.lt
  have h8 := Lib.hid (Ste.valid_len hs)
  have HS := Lib.hid hs
  have V1 := Lib.hid (o1.readsI.2)
  obtain ⟨x, hx⟩ : ∃ x, x = tval s.values ((m : Int) + 1) := ⟨_, rfl⟩
  obtain ⟨y, hy⟩ : ∃ x, x = tval s.values b := ⟨_, rfl⟩
  have hxv : 0 ≤ x ∧ x ≤ 8 := by rw [hx]; exact tval_le (Ste.all_vals hs) _
  have hyv : 0 ≤ y ∧ y ≤ 8 := by rw [hy]; exact tval_le (Ste.all_vals hs) _
  replace hx := Lib.hid hx
  replace hy := Lib.hid hy
  replace o1 := Lib.hid o1
  replace o2 := Lib.hid o2
  replace dj := Lib.hid dj
  clear hM hs
  have hgne : g ≠ w.heap.size := by omega
  go_enter Tryz.func157, Tryz.ntmps157
  have k00 : Blk (w.alloc (.cells #[.int .i64 1, .int .i64 ((m : Int) + 1), .int .i64 b, .bool t.eq, .int .i64 t.a, .int .i64 t.b, vF, vA, vB, vE] tC)) w.heap.size tC #[.int .i64 1, .int .i64 ((m : Int) + 1), .int .i64 b, .bool t.eq, .int .i64 t.a, .int .i64 t.b, vF, vA, vB, vE] := Blk.new _ _ _
  have kM0 : Blk (w.alloc (.cells #[.int .i64 1, .int .i64 ((m : Int) + 1), .int .i64 b, .bool t.eq, .int .i64 t.a, .int .i64 t.b, vF, vA, vB, vE] tC)) g tM #[.slice F s.values.length e1, .slice G s.heap.length e2, .int .i64 (f : Int)] := kM.alloc _
  go_wp2_with fail
  refine wp_region_noPanic ?_
  refine wp_region_held_drew (S := (fun w' => (∀ j, w'.cell? ⟨w.heap.size, j, none⟩ = #[.int .i64 1, .int .i64 ((m : Int) + 1), .int .i64 b, .bool t.eq, .int .i64 t.a, .int .i64 t.b, vF, vA, vB, vE][j]?) ∧ (∀ j, w'.cell? ⟨g, j, none⟩ = #[.slice F s.values.length e1, .slice G s.heap.length e2, .int .i64 (f : Int)][j]?))) (by kernel_rfl) (⟨k00.cell, kM0.cell⟩) (fun hHeld => ?_)
  refine wpAnyH_take (i := 0) (v := ?_) rfl (by kernel_rfl) (by kernel_rfl) (by kernel_rfl) (fun _ _ _ h => h) (Or.inl ⟨by rfl, fun w hSw => ?_⟩) hHeld ?_
  rotate_left
  · ((try dsimp only at hSw); go_split_ands; go_simp; (try with_reducible rfl))
  try simp only [Act.put, List.getElem_toArray, List.getElem_cons_zero, List.getElem_cons_succ, List.setIfInBounds_toArray, List.set_cons_zero, List.set_cons_succ]
  refine wpAnyH_take (i := 1) (v := ?_) rfl (by kernel_rfl) (by kernel_rfl) (by kernel_rfl) (fun _ _ _ h => h) (Or.inl ⟨by rfl, fun w hSw => ?_⟩) hHeld ?_
  rotate_left
  · ((try dsimp only at hSw); go_split_ands; go_simp; (try with_reducible rfl))
  try simp only [Act.put, List.getElem_toArray, List.getElem_cons_zero, List.getElem_cons_succ, List.setIfInBounds_toArray, List.set_cons_zero, List.set_cons_succ]
  refine wpAnyH_take (i := 2) (v := ?_) rfl (by kernel_rfl) (by kernel_rfl) (by kernel_rfl) (fun _ _ _ h => h) (Or.inl ⟨by rfl, fun w hSw => ?_⟩) hHeld ?_
  rotate_left
  · ((try dsimp only at hSw); go_split_ands; go_simp; (try with_reducible rfl))
  try simp only [Act.put, List.getElem_toArray, List.getElem_cons_zero, List.getElem_cons_succ, List.setIfInBounds_toArray, List.set_cons_zero, List.set_cons_succ]
  refine wpAnyH_take (i := 3) (v := ?_) rfl (by kernel_rfl) (by kernel_rfl) (by kernel_rfl) (fun _ _ _ h => h) (Or.inl ⟨by rfl, fun w hSw => ?_⟩) hHeld ?_
  rotate_left
  · ((try dsimp only at hSw); go_split_ands; go_simp; (try with_reducible rfl))
  try simp only [Act.put, List.getElem_toArray, List.getElem_cons_zero, List.getElem_cons_succ, List.setIfInBounds_toArray, List.set_cons_zero, List.set_cons_succ]
  refine wpAnyH_take (i := 4) (v := ?_) rfl (by kernel_rfl) (by kernel_rfl) (by kernel_rfl) (fun _ _ _ h => h) (Or.inl ⟨by rfl, fun w hSw => ?_⟩) hHeld ?_
  rotate_left
  · ((try dsimp only at hSw); go_split_ands; go_simp; (try with_reducible rfl))
  try simp only [Act.put, List.getElem_toArray, List.getElem_cons_zero, List.getElem_cons_succ, List.setIfInBounds_toArray, List.set_cons_zero, List.set_cons_succ]
  refine wpAnyH_take (i := 5) (v := ?_) rfl (by kernel_rfl) (by kernel_rfl) (by kernel_rfl) (fun _ _ _ h => h) (Or.inl ⟨by rfl, fun w hSw => ?_⟩) hHeld ?_
  rotate_left
  · ((try dsimp only at hSw); go_split_ands; go_simp; (try with_reducible rfl))
  try simp only [Act.put, List.getElem_toArray, List.getElem_cons_zero, List.getElem_cons_succ, List.setIfInBounds_toArray, List.set_cons_zero, List.set_cons_succ]
  refine wpAnyH_take (i := 6) (v := ?_) rfl (by kernel_rfl) (by kernel_rfl) (by kernel_rfl) (fun _ _ _ h => h) (Or.inl ⟨by rfl, fun w hSw => ?_⟩) hHeld ?_
  rotate_left
  · ((try dsimp only at hSw); go_split_ands; go_simp; (try with_reducible rfl))
  try simp only [Act.put, List.getElem_toArray, List.getElem_cons_zero, List.getElem_cons_succ, List.setIfInBounds_toArray, List.set_cons_zero, List.set_cons_succ]
  refine wpAnyH_take (i := 8) (v := ?_) rfl (by kernel_rfl) (by kernel_rfl) (by kernel_rfl) (fun _ _ _ h => h) (Or.inl ⟨by rfl, fun w hSw => ?_⟩) hHeld ?_
  rotate_left
  · ((try dsimp only at hSw); go_split_ands; go_simp; (try with_reducible rfl))
  try simp only [Act.put, List.getElem_toArray, List.getElem_cons_zero, List.getElem_cons_succ, List.setIfInBounds_toArray, List.set_cons_zero, List.set_cons_succ]
  refine wpAnyH_take (i := 9) (v := ?_) rfl (by kernel_rfl) (by kernel_rfl) (by kernel_rfl) (fun _ _ _ h => h) (Or.inl ⟨by rfl, fun w hSw => ?_⟩) hHeld ?_
  rotate_left
  · ((try dsimp only at hSw); go_split_ands; go_simp; (try with_reducible rfl))
  try simp only [Act.put, List.getElem_toArray, List.getElem_cons_zero, List.getElem_cons_succ, List.setIfInBounds_toArray, List.set_cons_zero, List.set_cons_succ]
  refine wpAnyH_take (i := 10) (v := ?_) rfl (by kernel_rfl) (by kernel_rfl) (by kernel_rfl) (fun _ _ _ h => h) (Or.inl ⟨by rfl, fun w hSw => ?_⟩) hHeld ?_
  rotate_left
  · ((try dsimp only at hSw); go_split_ands; go_simp; (try with_reducible rfl))
  try simp only [Act.put, List.getElem_toArray, List.getElem_cons_zero, List.getElem_cons_succ, List.setIfInBounds_toArray, List.set_cons_zero, List.set_cons_succ]
  refine wpAnyH_take (i := 11) (v := ?_) rfl (by kernel_rfl) (by kernel_rfl) (by kernel_rfl) (fun _ _ _ h => h) (Or.inl ⟨by rfl, fun w hSw => ?_⟩) hHeld ?_
  rotate_left
  · ((try dsimp only at hSw); go_split_ands; go_simp; (try with_reducible rfl))
  try simp only [Act.put, List.getElem_toArray, List.getElem_cons_zero, List.getElem_cons_succ, List.setIfInBounds_toArray, List.set_cons_zero, List.set_cons_succ]
  refine wpAnyH_take (i := 12) (v := ?_) rfl (by kernel_rfl) (by kernel_rfl) (by kernel_rfl) (fun _ _ _ h => h) (Or.inl ⟨by rfl, fun w hSw => ?_⟩) hHeld ?_
  rotate_left
  · ((try dsimp only at hSw); go_split_ands; go_simp; (try with_reducible rfl))
  try simp only [Act.put, List.getElem_toArray, List.getElem_cons_zero, List.getElem_cons_succ, List.setIfInBounds_toArray, List.set_cons_zero, List.set_cons_succ]
  refine wpAnyH_take (i := 13) (v := ?_) rfl (by kernel_rfl) (by kernel_rfl) (by kernel_rfl) (fun _ _ _ h => h) (Or.inl ⟨by rfl, fun w hSw => ?_⟩) hHeld ?_
  rotate_left
  · ((try dsimp only at hSw); go_split_ands; go_simp; (try with_reducible rfl))
  try simp only [Act.put, List.getElem_toArray, List.getElem_cons_zero, List.getElem_cons_succ, List.setIfInBounds_toArray, List.set_cons_zero, List.set_cons_succ]
  refine wpAnyH_take (i := 14) (v := ?_) rfl (by kernel_rfl) (by kernel_rfl) (by kernel_rfl) (fun _ _ _ h => h) (Or.inl ⟨by rfl, fun w hSw => ?_⟩) hHeld ?_
  rotate_left
  · ((try dsimp only at hSw); go_split_ands; go_simp; (try with_reducible rfl))
  try simp only [Act.put, List.getElem_toArray, List.getElem_cons_zero, List.getElem_cons_succ, List.setIfInBounds_toArray, List.set_cons_zero, List.set_cons_succ]
  refine wpAnyH_ready (rs := [7]) (by kernel_rfl) (by simp) ?_
  refine AllReadyH.cons rfl (fun K hK => ?_) AllReadyH.nil
  try simp only [List.getElem_toArray, List.getElem_cons_zero, List.getElem_cons_succ]
  (go_simp; refine (c_impl_termValue F e1 s.values ((m : Int) + 1) _ (V1.out.below bel) (by omega) (by rw [h8.out.1]; exact (by omega))).mono ?_; rintro e w3 ⟨rfl, rfl⟩; rw [← hx.out])
  refine hK.out _ _ (⟨k00.cell, kM0.cell⟩) (fun hHeldN => ?_)
  clear hHeld hK K
  have hHeld := hHeldN
  clear hHeldN
  try simp only [Act.put, List.getElem_toArray, List.getElem_cons_zero, List.getElem_cons_succ, List.setIfInBounds_toArray, List.set_cons_zero, List.set_cons_succ]
  refine wpAnyH_ready (rs := [15]) (by kernel_rfl) (by simp) ?_
  refine AllReadyH.cons rfl (fun K hK => ?_) AllReadyH.nil
  try simp only [List.getElem_toArray, List.getElem_cons_zero, List.getElem_cons_succ]
  (go_simp; refine (c_impl_termValue F e1 s.values b _ (V1.out.below bel) HB.out.1 (by rw [h8.out.1]; exact HB.out.2)).mono ?_; rintro e w3 ⟨rfl, rfl⟩; rw [← hy.out])
  refine hK.out _ _ (⟨k00.cell, kM0.cell⟩) (fun hHeldN => ?_)
  clear hHeld hK K
  have hHeld := hHeldN
  clear hHeldN
  try simp only [Act.put, List.getElem_toArray, List.getElem_cons_zero, List.getElem_cons_succ, List.setIfInBounds_toArray, List.set_cons_zero, List.set_cons_succ]
  refine wpAnyH_take (i := 16) (v := ?_) rfl (by kernel_rfl) (by kernel_rfl) (by kernel_rfl) (fun _ _ _ h => h) (Or.inl ⟨by rfl, fun w hSw => ?_⟩) hHeld ?_
  rotate_left
  · ((try dsimp only at hSw); go_split_ands; go_simp; (try with_reducible rfl))
  try simp only [Act.put, List.getElem_toArray, List.getElem_cons_zero, List.getElem_cons_succ, List.setIfInBounds_toArray, List.set_cons_zero, List.set_cons_succ]
  refine wpAnyH_take (i := 17) (v := ?_) rfl (by kernel_rfl) (by kernel_rfl) (by kernel_rfl) (fun _ _ _ h => h) (Or.inl ⟨by rfl, fun w hSw => ?_⟩) hHeld ?_
  rotate_left
  · ((try dsimp only at hSw); go_split_ands; go_simp; (try with_reducible rfl))
  try simp only [Act.put, List.getElem_toArray, List.getElem_cons_zero, List.getElem_cons_succ, List.setIfInBounds_toArray, List.set_cons_zero, List.set_cons_succ]
  refine wpAnyH_done (by kernel_rfl) ?_ _
  refine NoPanic.normal ?_
  obtain ⟨X, hX⟩ : ∃ X, X = (w.alloc (.cells #[.int .i64 1, .int .i64 ((m : Int) + 1), .int .i64 b, .bool t.eq, .int .i64 t.a, .int .i64 t.b, vF, vA, vB, vE] tC)).drew := ⟨_, rfl⟩
  have hBX : Below w.heap.size w X := by rw [hX]; exact bel
  have kX : Blk X w.heap.size tC #[.int .i64 1, .int .i64 ((m : Int) + 1), .int .i64 b, .bool t.eq, .int .i64 t.a, .int .i64 t.b, vF, vA, vB, vE] := by rw [hX]; exact k00.drew
  have kMX : Blk X g tM #[.slice F s.values.length e1, .slice G s.heap.length e2, .int .i64 (f : Int)] := by rw [hX]; exact kM0.drew
  have oX1 := Lib.hid (o1.out.below hBX)
  have oX2 := Lib.hid (o2.out.below hBX)
  have hBw : B ≤ w.heap.size := by omega
  have hBB : Rf B w X := Rf.of hBX hBw
  rw [← hX]
  clear hX k00 kM0 kM V1 hHeld o1 o2
  (replace qkX := kX.cell; replace rkX := kX.frozen; replace lkX := kX.lt; replace qkMX := kMX.cell; replace rkMX := kMX.frozen; replace lkMX := kMX.lt)
  have hvl := h8.out.1
  obtain ⟨gv, cur, -, rfl, hgv, kg, hc, hset⟩ := oX1.out.cell_ (k := m) (by omega)
  have q := kg.cell m
  rw [hc] at q
  obtain ⟨z, hz⟩ : ∃ z, z = s.values[m]'(by omega) := ⟨_, rfl⟩
  rw [← hz] at q
  have fq := kg.frozen m
  have hgvl := kg.lt
  have hne : g ≠ gv := kMX.ne_ kg (by decide)
  have HSET := Lib.hid (hset y)
  have hml : (m : Int) < (s.values.length : Int) := by omega
  have hwm : IntKind.i64.wrap (m : Int) = (m : Int) := IntWalk.i64_in _ (by omega)
  replace hc := Lib.hid hc
  clear hset hc hz hvl
  go_wp2_with fail
  refine wp_region_noPanic ?_
  refine wp_region_last' (S := (fun w' => (∀ j, w'.cell? ⟨w.heap.size, j, none⟩ = #[.int .i64 1, .int .i64 ((m : Int) + 1), .int .i64 b, .bool t.eq, .int .i64 t.a, .int .i64 t.b, vF, vA, vB, vE][j]?) ∧ (∀ j, w'.cell? ⟨g, j, none⟩ = #[.slice (some ⟨gv, 0, none⟩) s.values.length e1, .slice G s.heap.length e2, .int .i64 (f : Int)][j]?) ∧ w'.cell? ⟨gv, m, none⟩ = some (.int .i64 z) ∧ w'.frozen? ⟨gv, m, none⟩ = false)) (by simp) (by kernel_rfl) (by kernel_rfl) (⟨kX.cell, kMX.cell, q, fq⟩) (fun hHeld => ?_)
  simp only [List.dropLast, List.getLast, nopOf, List.cons_append, List.nil_append, List.length_cons, List.length_nil, Nat.zero_add, Nat.reduceAdd]
  refine wpAnyH_take (i := 0) (v := ?_) rfl (by kernel_rfl) (by kernel_rfl) (by kernel_rfl) (fun _ _ _ h => h) (Or.inl ⟨by rfl, fun w hSw => ?_⟩) hHeld ?_
  rotate_left
  · ((try dsimp only at hSw); go_split_ands; go_simp; (try with_reducible rfl))
  try simp only [Act.put, List.getElem_toArray, List.getElem_cons_zero, List.getElem_cons_succ, List.setIfInBounds_toArray, List.set_cons_zero, List.set_cons_succ]
  refine wpAnyH_take (i := 1) (v := ?_) rfl (by kernel_rfl) (by kernel_rfl) (by kernel_rfl) (fun _ _ _ h => h) (Or.inl ⟨by rfl, fun w hSw => ?_⟩) hHeld ?_
  rotate_left
  · ((try dsimp only at hSw); go_split_ands; go_simp; (try with_reducible rfl))
  try simp only [Act.put, List.getElem_toArray, List.getElem_cons_zero, List.getElem_cons_succ, List.setIfInBounds_toArray, List.set_cons_zero, List.set_cons_succ]
  refine wpAnyH_take (i := 2) (v := ?_) rfl (by kernel_rfl) (by kernel_rfl) (by kernel_rfl) (fun _ _ _ h => h) (Or.inl ⟨by rfl, fun w hSw => ?_⟩) hHeld ?_
  rotate_left
  · ((try dsimp only at hSw); go_split_ands; go_simp; (try with_reducible rfl))
  try simp only [Act.put, List.getElem_toArray, List.getElem_cons_zero, List.getElem_cons_succ, List.setIfInBounds_toArray, List.set_cons_zero, List.set_cons_succ]
  refine wpAnyH_take (i := 3) (v := ?_) rfl (by kernel_rfl) (by kernel_rfl) (by kernel_rfl) (fun _ _ _ h => h) (Or.inl ⟨by rfl, fun w hSw => ?_⟩) hHeld ?_
  rotate_left
  · ((try dsimp only at hSw); go_split_ands; go_simp; (try with_reducible rfl))
  try simp only [Act.put, List.getElem_toArray, List.getElem_cons_zero, List.getElem_cons_succ, List.setIfInBounds_toArray, List.set_cons_zero, List.set_cons_succ]
  refine wpAnyH_take (i := 4) (v := ?_) rfl (by kernel_rfl) (by kernel_rfl) (by kernel_rfl) (fun _ _ _ h => h) (Or.inl ⟨by rfl, fun w hSw => ?_⟩) hHeld ?_
  rotate_left
  · ((try dsimp only at hSw); go_split_ands; go_simp; (try with_reducible rfl))
  try simp only [Act.put, List.getElem_toArray, List.getElem_cons_zero, List.getElem_cons_succ, List.setIfInBounds_toArray, List.set_cons_zero, List.set_cons_succ]
  refine wpAnyH_take (i := 5) (v := ?_) rfl (by kernel_rfl) (by kernel_rfl) (by kernel_rfl) (fun _ _ _ h => h) (Or.inl ⟨by rfl, fun w hSw => ?_⟩) hHeld ?_
  rotate_left
  · ((try dsimp only at hSw); go_split_ands; go_simp; (try with_reducible rfl))
  try simp only [Act.put, List.getElem_toArray, List.getElem_cons_zero, List.getElem_cons_succ, List.setIfInBounds_toArray, List.set_cons_zero, List.set_cons_succ]
  refine wpAnyH_take (i := 6) (v := ?_) rfl (by kernel_rfl) (by kernel_rfl) (by kernel_rfl) (fun _ _ _ h => h) (Or.inl ⟨by rfl, fun w hSw => ?_⟩) hHeld ?_
  rotate_left
  · ((try dsimp only at hSw); go_split_ands; go_simp; (try with_reducible rfl))
  try simp only [Act.put, List.getElem_toArray, List.getElem_cons_zero, List.getElem_cons_succ, List.setIfInBounds_toArray, List.set_cons_zero, List.set_cons_succ]
  refine wpAnyH_take (i := 7) (v := ?_) rfl (by kernel_rfl) (by kernel_rfl) (by kernel_rfl) (fun _ _ _ h => h) (Or.inl ⟨by rfl, fun w hSw => ?_⟩) hHeld ?_
  rotate_left
  · ((try dsimp only at hSw); go_split_ands; go_simp; (try with_reducible rfl))
  try simp only [Act.put, List.getElem_toArray, List.getElem_cons_zero, List.getElem_cons_succ, List.setIfInBounds_toArray, List.set_cons_zero, List.set_cons_succ]
  refine wpAnyH_take (i := 8) (v := ?_) rfl (by kernel_rfl) (by kernel_rfl) (by kernel_rfl) (fun _ _ _ h => h) (Or.inl ⟨by rfl, fun w hSw => ?_⟩) hHeld ?_
  rotate_left
  · ((try dsimp only at hSw); go_split_ands; go_simp; (try with_reducible rfl))
  try simp only [Act.put, List.getElem_toArray, List.getElem_cons_zero, List.getElem_cons_succ, List.setIfInBounds_toArray, List.set_cons_zero, List.set_cons_succ]
  refine wpAnyH_take (i := 9) (v := ?_) rfl (by kernel_rfl) (by kernel_rfl) (by kernel_rfl) (fun _ _ _ h => h) (Or.inl ⟨by rfl, fun w hSw => ?_⟩) hHeld ?_
  rotate_left
  · ((try dsimp only at hSw); go_split_ands; go_simp; (try with_reducible rfl))
  try simp only [Act.put, List.getElem_toArray, List.getElem_cons_zero, List.getElem_cons_succ, List.setIfInBounds_toArray, List.set_cons_zero, List.set_cons_succ]
  refine wpAnyH_ready (rs := [10]) (by kernel_rfl) (by simp) ?_
  refine AllReadyH.cons rfl (fun K hK => ?_) AllReadyH.nil
  go_simp
  refine hK.out _ _ (⟨kX.cell, kMX.cell, q, fq⟩) (fun hHeld => ?_)
  clear hK K
  refine wpAnyH_done (by kernel_rfl) ?_ _
  unfold lastQ
  go_simp
  refine NoPanic.normal ?_
  go_wp2_with fail
  go_ret
  refine ⟨rfl, ⟨hBg, _, _, kMX.drewX.far (p := ⟨gv, m, none⟩) hne _, _, _, rfl, ?_, ?_, dj.out⟩, hBB.drew.set (p := ⟨gv, m, none⟩) kg.drewX (by decide) hgv _⟩
  · rw [← hy.out]; exact HSET.out
  · exact oX2.out.set_ne (q := ⟨gv, m, none⟩) (dj.out gv rfl) _
--@ (*impl.machine).basic
set_option maxRecDepth 100000 in
set_option maxHeartbeats 3200000 in
theorem basic_load (w : World) (B g : Nat) (s : Ste) (f : Nat) (m : Nat) (b : Int) (hm : m < 4) (hb : 0 ≤ b ∧ b ≤ 8) (t : Fct) (vF vA vB vE : Value) (hM : Mach w B g s f) (hs : s.valid = true) :
    Calls Tryz.prog 157 #[.pointer (some ⟨g, 0, none⟩), .agg #[.int .i64 2, .int .i64 ((m : Int) + 1), .int .i64 b, .bool t.eq, .int .i64 t.a, .int .i64 t.b, vF, vA, vB, vE]] w fun e w' => e = .returned (.int .i64 (basicF s 2 ((m : Int) + 1) b).2) ∧ Mach w' B g (basicF s 2 ((m : Int) + 1) b).1 f ∧ Rf B w w' := by
  have HB := Lib.hid hb
  have hm4 : (m : Int) < 4 := by omega
  have hm8 : (m : Int) < 8 := by omega
  clear hb
  obtain ⟨F, e1, G, e2, hBg, kM, o1, o2, dj⟩ := hM.form
  have hgl := kM.lt
  have h8 := Lib.hid (Ste.valid_len hs)
  have HS := Lib.hid hs
  have V1 := Lib.hid (o1.readsI.2)
  obtain ⟨x, hx⟩ : ∃ x, x = tval s.values ((m : Int) + 1) := ⟨_, rfl⟩
  obtain ⟨y, hy⟩ : ∃ x, x = tval s.values b := ⟨_, rfl⟩
  have hxv : 0 ≤ x ∧ x ≤ 8 := by rw [hx]; exact tval_le (Ste.all_vals hs) _
  have hyv : 0 ≤ y ∧ y ≤ 8 := by rw [hy]; exact tval_le (Ste.all_vals hs) _
  replace hx := Lib.hid hx
  replace hy := Lib.hid hy
  replace o1 := Lib.hid o1
  replace o2 := Lib.hid o2
  replace dj := Lib.hid dj
  clear hM hs
  have hgne : g ≠ w.heap.size := by omega
  go_enter Tryz.func157, Tryz.ntmps157
  have k00 : Blk (w.alloc (.cells #[.int .i64 2, .int .i64 ((m : Int) + 1), .int .i64 b, .bool t.eq, .int .i64 t.a, .int .i64 t.b, vF, vA, vB, vE] tC)) w.heap.size tC #[.int .i64 2, .int .i64 ((m : Int) + 1), .int .i64 b, .bool t.eq, .int .i64 t.a, .int .i64 t.b, vF, vA, vB, vE] := Blk.new _ _ _
  have kM0 : Blk (w.alloc (.cells #[.int .i64 2, .int .i64 ((m : Int) + 1), .int .i64 b, .bool t.eq, .int .i64 t.a, .int .i64 t.b, vF, vA, vB, vE] tC)) g tM #[.slice F s.values.length e1, .slice G s.heap.length e2, .int .i64 (f : Int)] := kM.alloc _
  go_wp2_with fail
  refine wp_region_noPanic ?_
  refine wp_region_held_drew (S := (fun w' => (∀ j, w'.cell? ⟨w.heap.size, j, none⟩ = #[.int .i64 2, .int .i64 ((m : Int) + 1), .int .i64 b, .bool t.eq, .int .i64 t.a, .int .i64 t.b, vF, vA, vB, vE][j]?) ∧ (∀ j, w'.cell? ⟨g, j, none⟩ = #[.slice F s.values.length e1, .slice G s.heap.length e2, .int .i64 (f : Int)][j]?))) (by kernel_rfl) (⟨k00.cell, kM0.cell⟩) (fun hHeld => ?_)
  refine wpAnyH_take (i := 0) (v := ?_) rfl (by kernel_rfl) (by kernel_rfl) (by kernel_rfl) (fun _ _ _ h => h) (Or.inl ⟨by rfl, fun w hSw => ?_⟩) hHeld ?_
  rotate_left
  · ((try dsimp only at hSw); go_split_ands; go_simp; (try with_reducible rfl))
  try simp only [Act.put, List.getElem_toArray, List.getElem_cons_zero, List.getElem_cons_succ, List.setIfInBounds_toArray, List.set_cons_zero, List.set_cons_succ]
  refine wpAnyH_take (i := 1) (v := ?_) rfl (by kernel_rfl) (by kernel_rfl) (by kernel_rfl) (fun _ _ _ h => h) (Or.inl ⟨by rfl, fun w hSw => ?_⟩) hHeld ?_
  rotate_left
  · ((try dsimp only at hSw); go_split_ands; go_simp; (try with_reducible rfl))
  try simp only [Act.put, List.getElem_toArray, List.getElem_cons_zero, List.getElem_cons_succ, List.setIfInBounds_toArray, List.set_cons_zero, List.set_cons_succ]
  refine wpAnyH_take (i := 2) (v := ?_) rfl (by kernel_rfl) (by kernel_rfl) (by kernel_rfl) (fun _ _ _ h => h) (Or.inl ⟨by rfl, fun w hSw => ?_⟩) hHeld ?_
  rotate_left
  · ((try dsimp only at hSw); go_split_ands; go_simp; (try with_reducible rfl))
  try simp only [Act.put, List.getElem_toArray, List.getElem_cons_zero, List.getElem_cons_succ, List.setIfInBounds_toArray, List.set_cons_zero, List.set_cons_succ]
  refine wpAnyH_take (i := 3) (v := ?_) rfl (by kernel_rfl) (by kernel_rfl) (by kernel_rfl) (fun _ _ _ h => h) (Or.inl ⟨by rfl, fun w hSw => ?_⟩) hHeld ?_
  rotate_left
  · ((try dsimp only at hSw); go_split_ands; go_simp; (try with_reducible rfl))
  try simp only [Act.put, List.getElem_toArray, List.getElem_cons_zero, List.getElem_cons_succ, List.setIfInBounds_toArray, List.set_cons_zero, List.set_cons_succ]
  refine wpAnyH_take (i := 4) (v := ?_) rfl (by kernel_rfl) (by kernel_rfl) (by kernel_rfl) (fun _ _ _ h => h) (Or.inl ⟨by rfl, fun w hSw => ?_⟩) hHeld ?_
  rotate_left
  · ((try dsimp only at hSw); go_split_ands; go_simp; (try with_reducible rfl))
  try simp only [Act.put, List.getElem_toArray, List.getElem_cons_zero, List.getElem_cons_succ, List.setIfInBounds_toArray, List.set_cons_zero, List.set_cons_succ]
  refine wpAnyH_take (i := 5) (v := ?_) rfl (by kernel_rfl) (by kernel_rfl) (by kernel_rfl) (fun _ _ _ h => h) (Or.inl ⟨by rfl, fun w hSw => ?_⟩) hHeld ?_
  rotate_left
  · ((try dsimp only at hSw); go_split_ands; go_simp; (try with_reducible rfl))
  try simp only [Act.put, List.getElem_toArray, List.getElem_cons_zero, List.getElem_cons_succ, List.setIfInBounds_toArray, List.set_cons_zero, List.set_cons_succ]
  refine wpAnyH_take (i := 6) (v := ?_) rfl (by kernel_rfl) (by kernel_rfl) (by kernel_rfl) (fun _ _ _ h => h) (Or.inl ⟨by rfl, fun w hSw => ?_⟩) hHeld ?_
  rotate_left
  · ((try dsimp only at hSw); go_split_ands; go_simp; (try with_reducible rfl))
  try simp only [Act.put, List.getElem_toArray, List.getElem_cons_zero, List.getElem_cons_succ, List.setIfInBounds_toArray, List.set_cons_zero, List.set_cons_succ]
  refine wpAnyH_take (i := 8) (v := ?_) rfl (by kernel_rfl) (by kernel_rfl) (by kernel_rfl) (fun _ _ _ h => h) (Or.inl ⟨by rfl, fun w hSw => ?_⟩) hHeld ?_
  rotate_left
  · ((try dsimp only at hSw); go_split_ands; go_simp; (try with_reducible rfl))
  try simp only [Act.put, List.getElem_toArray, List.getElem_cons_zero, List.getElem_cons_succ, List.setIfInBounds_toArray, List.set_cons_zero, List.set_cons_succ]
  refine wpAnyH_take (i := 9) (v := ?_) rfl (by kernel_rfl) (by kernel_rfl) (by kernel_rfl) (fun _ _ _ h => h) (Or.inl ⟨by rfl, fun w hSw => ?_⟩) hHeld ?_
  rotate_left
  · ((try dsimp only at hSw); go_split_ands; go_simp; (try with_reducible rfl))
  try simp only [Act.put, List.getElem_toArray, List.getElem_cons_zero, List.getElem_cons_succ, List.setIfInBounds_toArray, List.set_cons_zero, List.set_cons_succ]
  refine wpAnyH_take (i := 10) (v := ?_) rfl (by kernel_rfl) (by kernel_rfl) (by kernel_rfl) (fun _ _ _ h => h) (Or.inl ⟨by rfl, fun w hSw => ?_⟩) hHeld ?_
  rotate_left
  · ((try dsimp only at hSw); go_split_ands; go_simp; (try with_reducible rfl))
  try simp only [Act.put, List.getElem_toArray, List.getElem_cons_zero, List.getElem_cons_succ, List.setIfInBounds_toArray, List.set_cons_zero, List.set_cons_succ]
  refine wpAnyH_take (i := 11) (v := ?_) rfl (by kernel_rfl) (by kernel_rfl) (by kernel_rfl) (fun _ _ _ h => h) (Or.inl ⟨by rfl, fun w hSw => ?_⟩) hHeld ?_
  rotate_left
  · ((try dsimp only at hSw); go_split_ands; go_simp; (try with_reducible rfl))
  try simp only [Act.put, List.getElem_toArray, List.getElem_cons_zero, List.getElem_cons_succ, List.setIfInBounds_toArray, List.set_cons_zero, List.set_cons_succ]
  refine wpAnyH_take (i := 12) (v := ?_) rfl (by kernel_rfl) (by kernel_rfl) (by kernel_rfl) (fun _ _ _ h => h) (Or.inl ⟨by rfl, fun w hSw => ?_⟩) hHeld ?_
  rotate_left
  · ((try dsimp only at hSw); go_split_ands; go_simp; (try with_reducible rfl))
  try simp only [Act.put, List.getElem_toArray, List.getElem_cons_zero, List.getElem_cons_succ, List.setIfInBounds_toArray, List.set_cons_zero, List.set_cons_succ]
  refine wpAnyH_take (i := 13) (v := ?_) rfl (by kernel_rfl) (by kernel_rfl) (by kernel_rfl) (fun _ _ _ h => h) (Or.inl ⟨by rfl, fun w hSw => ?_⟩) hHeld ?_
  rotate_left
  · ((try dsimp only at hSw); go_split_ands; go_simp; (try with_reducible rfl))
  try simp only [Act.put, List.getElem_toArray, List.getElem_cons_zero, List.getElem_cons_succ, List.setIfInBounds_toArray, List.set_cons_zero, List.set_cons_succ]
  refine wpAnyH_take (i := 14) (v := ?_) rfl (by kernel_rfl) (by kernel_rfl) (by kernel_rfl) (fun _ _ _ h => h) (Or.inl ⟨by rfl, fun w hSw => ?_⟩) hHeld ?_
  rotate_left
  · ((try dsimp only at hSw); go_split_ands; go_simp; (try with_reducible rfl))
  try simp only [Act.put, List.getElem_toArray, List.getElem_cons_zero, List.getElem_cons_succ, List.setIfInBounds_toArray, List.set_cons_zero, List.set_cons_succ]
  refine wpAnyH_ready (rs := [7]) (by kernel_rfl) (by simp) ?_
  refine AllReadyH.cons rfl (fun K hK => ?_) AllReadyH.nil
  try simp only [List.getElem_toArray, List.getElem_cons_zero, List.getElem_cons_succ]
  (go_simp; refine (c_impl_termValue F e1 s.values ((m : Int) + 1) _ (V1.out.below bel) (by omega) (by rw [h8.out.1]; exact (by omega))).mono ?_; rintro e w3 ⟨rfl, rfl⟩; rw [← hx.out])
  refine hK.out _ _ (⟨k00.cell, kM0.cell⟩) (fun hHeldN => ?_)
  clear hHeld hK K
  have hHeld := hHeldN
  clear hHeldN
  try simp only [Act.put, List.getElem_toArray, List.getElem_cons_zero, List.getElem_cons_succ, List.setIfInBounds_toArray, List.set_cons_zero, List.set_cons_succ]
  refine wpAnyH_ready (rs := [15]) (by kernel_rfl) (by simp) ?_
  refine AllReadyH.cons rfl (fun K hK => ?_) AllReadyH.nil
  try simp only [List.getElem_toArray, List.getElem_cons_zero, List.getElem_cons_succ]
  (go_simp; refine (c_impl_termValue F e1 s.values b _ (V1.out.below bel) HB.out.1 (by rw [h8.out.1]; exact HB.out.2)).mono ?_; rintro e w3 ⟨rfl, rfl⟩; rw [← hy.out])
  refine hK.out _ _ (⟨k00.cell, kM0.cell⟩) (fun hHeldN => ?_)
  clear hHeld hK K
  have hHeld := hHeldN
  clear hHeldN
  try simp only [Act.put, List.getElem_toArray, List.getElem_cons_zero, List.getElem_cons_succ, List.setIfInBounds_toArray, List.set_cons_zero, List.set_cons_succ]
  refine wpAnyH_take (i := 16) (v := ?_) rfl (by kernel_rfl) (by kernel_rfl) (by kernel_rfl) (fun _ _ _ h => h) (Or.inl ⟨by rfl, fun w hSw => ?_⟩) hHeld ?_
  rotate_left
  · ((try dsimp only at hSw); go_split_ands; go_simp; (try with_reducible rfl))
  try simp only [Act.put, List.getElem_toArray, List.getElem_cons_zero, List.getElem_cons_succ, List.setIfInBounds_toArray, List.set_cons_zero, List.set_cons_succ]
  refine wpAnyH_take (i := 17) (v := ?_) rfl (by kernel_rfl) (by kernel_rfl) (by kernel_rfl) (fun _ _ _ h => h) (Or.inl ⟨by rfl, fun w hSw => ?_⟩) hHeld ?_
  rotate_left
  · ((try dsimp only at hSw); go_split_ands; go_simp; (try with_reducible rfl))
  try simp only [Act.put, List.getElem_toArray, List.getElem_cons_zero, List.getElem_cons_succ, List.setIfInBounds_toArray, List.set_cons_zero, List.set_cons_succ]
  refine wpAnyH_done (by kernel_rfl) ?_ _
  refine NoPanic.normal ?_
  obtain ⟨X, hX⟩ : ∃ X, X = (w.alloc (.cells #[.int .i64 2, .int .i64 ((m : Int) + 1), .int .i64 b, .bool t.eq, .int .i64 t.a, .int .i64 t.b, vF, vA, vB, vE] tC)).drew := ⟨_, rfl⟩
  have hBX : Below w.heap.size w X := by rw [hX]; exact bel
  have kX : Blk X w.heap.size tC #[.int .i64 2, .int .i64 ((m : Int) + 1), .int .i64 b, .bool t.eq, .int .i64 t.a, .int .i64 t.b, vF, vA, vB, vE] := by rw [hX]; exact k00.drew
  have kMX : Blk X g tM #[.slice F s.values.length e1, .slice G s.heap.length e2, .int .i64 (f : Int)] := by rw [hX]; exact kM0.drew
  have oX1 := Lib.hid (o1.out.below hBX)
  have oX2 := Lib.hid (o2.out.below hBX)
  have hBw : B ≤ w.heap.size := by omega
  have hBB : Rf B w X := Rf.of hBX hBw
  rw [← hX]
  clear hX k00 kM0 kM V1 hHeld o1 o2
  (replace qkX := kX.cell; replace rkX := kX.frozen; replace lkX := kX.lt; replace qkMX := kMX.cell; replace rkMX := kMX.frozen; replace lkMX := kMX.lt)
  have hSV : Hid (StateV X B X.heap.size (.agg #[.slice F s.values.length e1, .slice G s.heap.length e2]) s) := ⟨_, _, _, _, rfl, oX1.out.readsI.2, oX2.out.readsI.2⟩
  go_wp2_with fail
  refine (c_impl_allocated _ s y _ hSV.out h8.out.2).mono ?_
  rintro e w2 ⟨rfl, hB2⟩
  replace hBB := hBB.go hB2 hBw
  replace kX := kX.next hB2
  replace kMX := kMX.next hB2
  replace oX1 := Lib.hid (oX1.out.below hB2)
  replace oX2 := Lib.hid (oX2.out.below hB2)
  (replace qkX := kX.cell; replace rkX := kX.frozen; replace lkX := kX.lt; replace qkMX := kMX.cell; replace rkMX := kMX.frozen; replace lkMX := kMX.lt)
  clear hSV
  cases ha : allocB s.heap y
  · have E : Hid (basicF s 2 ((m : Int) + 1) b = (s, 1)) := by
      show _ = _
      unfold basicF
      rw [if_neg (by decide), if_pos rfl, ← hy.out, ha]; rfl
    clear ha
    go_wp2_with fail
    go_ret
    rw [E.out]
    exact ⟨rfl, ⟨hBg, _, _, kMX, _, _, rfl, oX1.out, oX2.out, dj.out⟩, hBB⟩
  have E : Hid (basicF s 2 ((m : Int) + 1) b = (⟨s.values.set m (cont s.heap y), s.heap⟩, 0)) := by
    show _ = _
    unfold basicF
    rw [if_neg (by decide), if_pos rfl, ← hy.out, ha, if_pos rfl, show ((m : Int) + 1 - 1).toNat = m by omega]
  have hcont := cont_le (Ste.all_heap HS.out) y
  clear ha
  obtain ⟨u, hu⟩ : ∃ u, u = cont s.heap y := ⟨_, rfl⟩
  rw [← hu] at hcont
  replace hu := Lib.hid hu
  have hvl := h8.out.1
  obtain ⟨gv, cur, -, rfl, hgv, kg, hc, hset⟩ := oX1.out.cell_ (k := m) (by omega)
  have q := kg.cell m
  rw [hc] at q
  obtain ⟨z, hz⟩ : ∃ z, z = s.values[m]'(by omega) := ⟨_, rfl⟩
  rw [← hz] at q
  have fq := kg.frozen m
  have hgvl := kg.lt
  have hne : g ≠ gv := kMX.ne_ kg (by decide)
  have HSET := Lib.hid (hset u)
  have hml : (m : Int) < (s.values.length : Int) := by omega
  have hwm : IntKind.i64.wrap (m : Int) = (m : Int) := IntWalk.i64_in _ (by omega)
  replace hc := Lib.hid hc
  clear hset hc hz hvl
  have hSV : Hid (StateV w2 B w2.heap.size (.agg #[.slice (some ⟨gv, 0, none⟩) s.values.length e1, .slice G s.heap.length e2]) s) := ⟨_, _, _, _, rfl, oX1.out.readsI.2, oX2.out.readsI.2⟩
  have oX1 := Lib.hid oX1.out
  go_wp2_with fail
  refine wp_region_noPanic ?_
  refine wp_region_last' (S := (fun w' => (∀ j, w'.cell? ⟨w.heap.size, j, none⟩ = #[.int .i64 2, .int .i64 ((m : Int) + 1), .int .i64 b, .bool t.eq, .int .i64 t.a, .int .i64 t.b, vF, vA, vB, vE][j]?) ∧ (∀ j, w'.cell? ⟨g, j, none⟩ = #[.slice (some ⟨gv, 0, none⟩) s.values.length e1, .slice G s.heap.length e2, .int .i64 (f : Int)][j]?) ∧ w'.cell? ⟨gv, m, none⟩ = some (.int .i64 z) ∧ w'.frozen? ⟨gv, m, none⟩ = false)) (by simp) (by kernel_rfl) (by kernel_rfl) (⟨kX.cell, kMX.cell, q, fq⟩) (fun hHeld => ?_)
  simp only [List.dropLast, List.getLast, nopOf, List.cons_append, List.nil_append, List.length_cons, List.length_nil, Nat.zero_add, Nat.reduceAdd]
  refine wpAnyH_take (i := 0) (v := ?_) rfl (by kernel_rfl) (by kernel_rfl) (by kernel_rfl) (fun _ _ _ h => h) (Or.inl ⟨by rfl, fun w hSw => ?_⟩) hHeld ?_
  rotate_left
  · ((try dsimp only at hSw); go_split_ands; go_simp; (try with_reducible rfl))
  try simp only [Act.put, List.getElem_toArray, List.getElem_cons_zero, List.getElem_cons_succ, List.setIfInBounds_toArray, List.set_cons_zero, List.set_cons_succ]
  refine wpAnyH_take (i := 1) (v := ?_) rfl (by kernel_rfl) (by kernel_rfl) (by kernel_rfl) (fun _ _ _ h => h) (Or.inl ⟨by rfl, fun w hSw => ?_⟩) hHeld ?_
  rotate_left
  · ((try dsimp only at hSw); go_split_ands; go_simp; (try with_reducible rfl))
  try simp only [Act.put, List.getElem_toArray, List.getElem_cons_zero, List.getElem_cons_succ, List.setIfInBounds_toArray, List.set_cons_zero, List.set_cons_succ]
  refine wpAnyH_take (i := 2) (v := ?_) rfl (by kernel_rfl) (by kernel_rfl) (by kernel_rfl) (fun _ _ _ h => h) (Or.inl ⟨by rfl, fun w hSw => ?_⟩) hHeld ?_
  rotate_left
  · ((try dsimp only at hSw); go_split_ands; go_simp; (try with_reducible rfl))
  try simp only [Act.put, List.getElem_toArray, List.getElem_cons_zero, List.getElem_cons_succ, List.setIfInBounds_toArray, List.set_cons_zero, List.set_cons_succ]
  refine wpAnyH_take (i := 3) (v := ?_) rfl (by kernel_rfl) (by kernel_rfl) (by kernel_rfl) (fun _ _ _ h => h) (Or.inl ⟨by rfl, fun w hSw => ?_⟩) hHeld ?_
  rotate_left
  · ((try dsimp only at hSw); go_split_ands; go_simp; (try with_reducible rfl))
  try simp only [Act.put, List.getElem_toArray, List.getElem_cons_zero, List.getElem_cons_succ, List.setIfInBounds_toArray, List.set_cons_zero, List.set_cons_succ]
  refine wpAnyH_take (i := 4) (v := ?_) rfl (by kernel_rfl) (by kernel_rfl) (by kernel_rfl) (fun _ _ _ h => h) (Or.inl ⟨by rfl, fun w hSw => ?_⟩) hHeld ?_
  rotate_left
  · ((try dsimp only at hSw); go_split_ands; go_simp; (try with_reducible rfl))
  try simp only [Act.put, List.getElem_toArray, List.getElem_cons_zero, List.getElem_cons_succ, List.setIfInBounds_toArray, List.set_cons_zero, List.set_cons_succ]
  refine wpAnyH_take (i := 5) (v := ?_) rfl (by kernel_rfl) (by kernel_rfl) (by kernel_rfl) (fun _ _ _ h => h) (Or.inl ⟨by rfl, fun w hSw => ?_⟩) hHeld ?_
  rotate_left
  · ((try dsimp only at hSw); go_split_ands; go_simp; (try with_reducible rfl))
  try simp only [Act.put, List.getElem_toArray, List.getElem_cons_zero, List.getElem_cons_succ, List.setIfInBounds_toArray, List.set_cons_zero, List.set_cons_succ]
  refine wpAnyH_take (i := 6) (v := ?_) rfl (by kernel_rfl) (by kernel_rfl) (by kernel_rfl) (fun _ _ _ h => h) (Or.inl ⟨by rfl, fun w hSw => ?_⟩) hHeld ?_
  rotate_left
  · ((try dsimp only at hSw); go_split_ands; go_simp; (try with_reducible rfl))
  try simp only [Act.put, List.getElem_toArray, List.getElem_cons_zero, List.getElem_cons_succ, List.setIfInBounds_toArray, List.set_cons_zero, List.set_cons_succ]
  refine wpAnyH_take (i := 7) (v := ?_) rfl (by kernel_rfl) (by kernel_rfl) (by kernel_rfl) (fun _ _ _ h => h) (Or.inl ⟨by rfl, fun w hSw => ?_⟩) hHeld ?_
  rotate_left
  · ((try dsimp only at hSw); go_split_ands; go_simp; (try with_reducible rfl))
  try simp only [Act.put, List.getElem_toArray, List.getElem_cons_zero, List.getElem_cons_succ, List.setIfInBounds_toArray, List.set_cons_zero, List.set_cons_succ]
  refine wpAnyH_take (i := 8) (v := ?_) rfl (by kernel_rfl) (by kernel_rfl) (by kernel_rfl) (fun _ _ _ h => h) (Or.inl ⟨by rfl, fun w hSw => ?_⟩) hHeld ?_
  rotate_left
  · ((try dsimp only at hSw); go_split_ands; go_simp; (try with_reducible rfl))
  try simp only [Act.put, List.getElem_toArray, List.getElem_cons_zero, List.getElem_cons_succ, List.setIfInBounds_toArray, List.set_cons_zero, List.set_cons_succ]
  refine wpAnyH_take (i := 9) (v := ?_) rfl (by kernel_rfl) (by kernel_rfl) (by kernel_rfl) (fun _ _ _ h => h) (Or.inl ⟨by rfl, fun w hSw => ?_⟩) hHeld ?_
  rotate_left
  · ((try dsimp only at hSw); go_split_ands; go_simp; (try with_reducible rfl))
  try simp only [Act.put, List.getElem_toArray, List.getElem_cons_zero, List.getElem_cons_succ, List.setIfInBounds_toArray, List.set_cons_zero, List.set_cons_succ]
  refine wpAnyH_take (i := 10) (v := ?_) rfl (by kernel_rfl) (by kernel_rfl) (by kernel_rfl) (fun _ _ _ h => h) (Or.inl ⟨by rfl, fun w hSw => ?_⟩) hHeld ?_
  rotate_left
  · ((try dsimp only at hSw); go_split_ands; go_simp; (try with_reducible rfl))
  try simp only [Act.put, List.getElem_toArray, List.getElem_cons_zero, List.getElem_cons_succ, List.setIfInBounds_toArray, List.set_cons_zero, List.set_cons_succ]
  refine wpAnyH_take (i := 11) (v := ?_) rfl (by kernel_rfl) (by kernel_rfl) (by kernel_rfl) (fun _ _ _ h => h) (Or.inl ⟨by rfl, fun w hSw => ?_⟩) hHeld ?_
  rotate_left
  · ((try dsimp only at hSw); go_split_ands; go_simp; (try with_reducible rfl))
  try simp only [Act.put, List.getElem_toArray, List.getElem_cons_zero, List.getElem_cons_succ, List.setIfInBounds_toArray, List.set_cons_zero, List.set_cons_succ]
  refine wpAnyH_take (i := 12) (v := ?_) rfl (by kernel_rfl) (by kernel_rfl) (by kernel_rfl) (fun _ _ _ h => h) (Or.inl ⟨by rfl, fun w hSw => ?_⟩) hHeld ?_
  rotate_left
  · ((try dsimp only at hSw); go_split_ands; go_simp; (try with_reducible rfl))
  try simp only [Act.put, List.getElem_toArray, List.getElem_cons_zero, List.getElem_cons_succ, List.setIfInBounds_toArray, List.set_cons_zero, List.set_cons_succ]
  refine wpAnyH_ready (rs := [13]) (by kernel_rfl) (by simp) ?_
  refine AllReadyH.cons rfl (fun K hK => ?_) AllReadyH.nil
  try simp only [List.getElem_toArray, List.getElem_cons_zero, List.getElem_cons_succ]
  (go_simp; refine (c_impl_content _ s y _ (hSV.out.below bel) h8.out.2).mono ?_; rintro e w4 ⟨rfl, hB4⟩; rw [← hu.out]; have B4 : Below w2.heap.size w2 w4 := bgo (Below.refl _ _).drew hB4; have kX4 := kX.next B4; have kM4 := kMX.next B4; have q4 := (B4.cell (p := ⟨gv, m, none⟩) hgvl).trans q; have fq4 := (B4.frozen (p := ⟨gv, m, none⟩) hgvl).trans fq)
  refine hK.out _ _ (⟨kX4.cell, kM4.cell, q4, fq4⟩) (fun hHeldN => ?_)
  clear hHeld hK K
  have hHeld := hHeldN
  clear hHeldN
  try simp only [Act.put, List.getElem_toArray, List.getElem_cons_zero, List.getElem_cons_succ, List.setIfInBounds_toArray, List.set_cons_zero, List.set_cons_succ]
  clear qkX rkX lkX qkMX rkMX lkMX
  refine wpAnyH_take (i := 14) (v := ?_) rfl (by kernel_rfl) (by kernel_rfl) (by kernel_rfl) (fun _ _ _ h => h) (Or.inl ⟨by rfl, fun w hSw => ?_⟩) hHeld ?_
  rotate_left
  · ((try dsimp only at hSw); go_split_ands; go_simp; (try with_reducible rfl))
  try simp only [Act.put, List.getElem_toArray, List.getElem_cons_zero, List.getElem_cons_succ, List.setIfInBounds_toArray, List.set_cons_zero, List.set_cons_succ]
  refine wpAnyH_ready (rs := [15]) (by kernel_rfl) (by simp) ?_
  refine AllReadyH.cons rfl (fun K hK => ?_) AllReadyH.nil
  go_simp
  refine hK.out _ _ (⟨kX4.cell, kM4.cell, q4, fq4⟩) (fun hHeld => ?_)
  clear hK K
  refine wpAnyH_done (by kernel_rfl) ?_ _
  unfold lastQ
  go_simp
  refine NoPanic.normal ?_
  go_wp2_with fail
  go_ret
  rw [E.out, ← hu.out]
  have hBB4 := hBB.go B4 hBw
  have oY1 := oX1.out.below B4
  obtain ⟨gv', cur', -, ev, hgv', kg', hc', hset'⟩ := oY1.cell_ (k := m) (by have := h8.out.1; omega)
  injection ev with ev; injection ev with ev; subst ev
  refine ⟨rfl, ⟨hBg, _, _, kM4.far (p := ⟨gv, m, none⟩) hne _, _, _, rfl, hset' u, (oX2.out.below B4).set_ne (q := ⟨gv, m, none⟩) (dj.out gv rfl) _, dj.out⟩, hBB4.set (p := ⟨gv, m, none⟩) kg' (by decide) hgv _⟩
--@ (*impl.machine).basic
set_option maxRecDepth 100000 in
set_option maxHeartbeats 3200000 in
theorem basic_store (w : World) (B g : Nat) (s : Ste) (f : Nat) (a : Int) (b : Int) (ha : 0 ≤ a ∧ a ≤ 8) (hb : 0 ≤ b ∧ b ≤ 8) (t : Fct) (vF vA vB vE : Value) (hM : Mach w B g s f) (hs : s.valid = true) :
    Calls Tryz.prog 157 #[.pointer (some ⟨g, 0, none⟩), .agg #[.int .i64 3, .int .i64 a, .int .i64 b, .bool t.eq, .int .i64 t.a, .int .i64 t.b, vF, vA, vB, vE]] w fun e w' => e = .returned (.int .i64 (basicF s 3 a b).2) ∧ Mach w' B g (basicF s 3 a b).1 f ∧ Rf B w w' := by
  have HA := Lib.hid ha
  have HB : Hid (0 ≤ (b : Int) ∧ b ≤ (8 : Int)) := hb
  clear ha hb
  obtain ⟨F, e1, G, e2, hBg, kM, o1, o2, dj⟩ := hM.form
  have hgl := kM.lt
  have h8 := Lib.hid (Ste.valid_len hs)
  have HS := Lib.hid hs
  have V1 := Lib.hid (o1.readsI.2)
  obtain ⟨x, hx⟩ : ∃ x, x = tval s.values a := ⟨_, rfl⟩
  obtain ⟨y, hy⟩ : ∃ x, x = tval s.values b := ⟨_, rfl⟩
  have hxv : 0 ≤ x ∧ x ≤ 8 := by rw [hx]; exact tval_le (Ste.all_vals hs) _
  have hyv : 0 ≤ y ∧ y ≤ 8 := by rw [hy]; exact tval_le (Ste.all_vals hs) _
  replace hx := Lib.hid hx
  replace hy := Lib.hid hy
  replace o1 := Lib.hid o1
  replace o2 := Lib.hid o2
  replace dj := Lib.hid dj
  clear hM hs
  have hgne : g ≠ w.heap.size := by omega
  go_enter Tryz.func157, Tryz.ntmps157
  have k00 : Blk (w.alloc (.cells #[.int .i64 3, .int .i64 a, .int .i64 b, .bool t.eq, .int .i64 t.a, .int .i64 t.b, vF, vA, vB, vE] tC)) w.heap.size tC #[.int .i64 3, .int .i64 a, .int .i64 b, .bool t.eq, .int .i64 t.a, .int .i64 t.b, vF, vA, vB, vE] := Blk.new _ _ _
  have kM0 : Blk (w.alloc (.cells #[.int .i64 3, .int .i64 a, .int .i64 b, .bool t.eq, .int .i64 t.a, .int .i64 t.b, vF, vA, vB, vE] tC)) g tM #[.slice F s.values.length e1, .slice G s.heap.length e2, .int .i64 (f : Int)] := kM.alloc _
  go_wp2_with fail
  refine wp_region_noPanic ?_
  refine wp_region_held_drew (S := (fun w' => (∀ j, w'.cell? ⟨w.heap.size, j, none⟩ = #[.int .i64 3, .int .i64 a, .int .i64 b, .bool t.eq, .int .i64 t.a, .int .i64 t.b, vF, vA, vB, vE][j]?) ∧ (∀ j, w'.cell? ⟨g, j, none⟩ = #[.slice F s.values.length e1, .slice G s.heap.length e2, .int .i64 (f : Int)][j]?))) (by kernel_rfl) (⟨k00.cell, kM0.cell⟩) (fun hHeld => ?_)
  refine wpAnyH_take (i := 0) (v := ?_) rfl (by kernel_rfl) (by kernel_rfl) (by kernel_rfl) (fun _ _ _ h => h) (Or.inl ⟨by rfl, fun w hSw => ?_⟩) hHeld ?_
  rotate_left
  · ((try dsimp only at hSw); go_split_ands; go_simp; (try with_reducible rfl))
  try simp only [Act.put, List.getElem_toArray, List.getElem_cons_zero, List.getElem_cons_succ, List.setIfInBounds_toArray, List.set_cons_zero, List.set_cons_succ]
  refine wpAnyH_take (i := 1) (v := ?_) rfl (by kernel_rfl) (by kernel_rfl) (by kernel_rfl) (fun _ _ _ h => h) (Or.inl ⟨by rfl, fun w hSw => ?_⟩) hHeld ?_
  rotate_left
  · ((try dsimp only at hSw); go_split_ands; go_simp; (try with_reducible rfl))
  try simp only [Act.put, List.getElem_toArray, List.getElem_cons_zero, List.getElem_cons_succ, List.setIfInBounds_toArray, List.set_cons_zero, List.set_cons_succ]
  refine wpAnyH_take (i := 2) (v := ?_) rfl (by kernel_rfl) (by kernel_rfl) (by kernel_rfl) (fun _ _ _ h => h) (Or.inl ⟨by rfl, fun w hSw => ?_⟩) hHeld ?_
  rotate_left
  · ((try dsimp only at hSw); go_split_ands; go_simp; (try with_reducible rfl))
  try simp only [Act.put, List.getElem_toArray, List.getElem_cons_zero, List.getElem_cons_succ, List.setIfInBounds_toArray, List.set_cons_zero, List.set_cons_succ]
  refine wpAnyH_take (i := 3) (v := ?_) rfl (by kernel_rfl) (by kernel_rfl) (by kernel_rfl) (fun _ _ _ h => h) (Or.inl ⟨by rfl, fun w hSw => ?_⟩) hHeld ?_
  rotate_left
  · ((try dsimp only at hSw); go_split_ands; go_simp; (try with_reducible rfl))
  try simp only [Act.put, List.getElem_toArray, List.getElem_cons_zero, List.getElem_cons_succ, List.setIfInBounds_toArray, List.set_cons_zero, List.set_cons_succ]
  refine wpAnyH_take (i := 4) (v := ?_) rfl (by kernel_rfl) (by kernel_rfl) (by kernel_rfl) (fun _ _ _ h => h) (Or.inl ⟨by rfl, fun w hSw => ?_⟩) hHeld ?_
  rotate_left
  · ((try dsimp only at hSw); go_split_ands; go_simp; (try with_reducible rfl))
  try simp only [Act.put, List.getElem_toArray, List.getElem_cons_zero, List.getElem_cons_succ, List.setIfInBounds_toArray, List.set_cons_zero, List.set_cons_succ]
  refine wpAnyH_take (i := 5) (v := ?_) rfl (by kernel_rfl) (by kernel_rfl) (by kernel_rfl) (fun _ _ _ h => h) (Or.inl ⟨by rfl, fun w hSw => ?_⟩) hHeld ?_
  rotate_left
  · ((try dsimp only at hSw); go_split_ands; go_simp; (try with_reducible rfl))
  try simp only [Act.put, List.getElem_toArray, List.getElem_cons_zero, List.getElem_cons_succ, List.setIfInBounds_toArray, List.set_cons_zero, List.set_cons_succ]
  refine wpAnyH_take (i := 6) (v := ?_) rfl (by kernel_rfl) (by kernel_rfl) (by kernel_rfl) (fun _ _ _ h => h) (Or.inl ⟨by rfl, fun w hSw => ?_⟩) hHeld ?_
  rotate_left
  · ((try dsimp only at hSw); go_split_ands; go_simp; (try with_reducible rfl))
  try simp only [Act.put, List.getElem_toArray, List.getElem_cons_zero, List.getElem_cons_succ, List.setIfInBounds_toArray, List.set_cons_zero, List.set_cons_succ]
  refine wpAnyH_take (i := 8) (v := ?_) rfl (by kernel_rfl) (by kernel_rfl) (by kernel_rfl) (fun _ _ _ h => h) (Or.inl ⟨by rfl, fun w hSw => ?_⟩) hHeld ?_
  rotate_left
  · ((try dsimp only at hSw); go_split_ands; go_simp; (try with_reducible rfl))
  try simp only [Act.put, List.getElem_toArray, List.getElem_cons_zero, List.getElem_cons_succ, List.setIfInBounds_toArray, List.set_cons_zero, List.set_cons_succ]
  refine wpAnyH_take (i := 9) (v := ?_) rfl (by kernel_rfl) (by kernel_rfl) (by kernel_rfl) (fun _ _ _ h => h) (Or.inl ⟨by rfl, fun w hSw => ?_⟩) hHeld ?_
  rotate_left
  · ((try dsimp only at hSw); go_split_ands; go_simp; (try with_reducible rfl))
  try simp only [Act.put, List.getElem_toArray, List.getElem_cons_zero, List.getElem_cons_succ, List.setIfInBounds_toArray, List.set_cons_zero, List.set_cons_succ]
  refine wpAnyH_take (i := 10) (v := ?_) rfl (by kernel_rfl) (by kernel_rfl) (by kernel_rfl) (fun _ _ _ h => h) (Or.inl ⟨by rfl, fun w hSw => ?_⟩) hHeld ?_
  rotate_left
  · ((try dsimp only at hSw); go_split_ands; go_simp; (try with_reducible rfl))
  try simp only [Act.put, List.getElem_toArray, List.getElem_cons_zero, List.getElem_cons_succ, List.setIfInBounds_toArray, List.set_cons_zero, List.set_cons_succ]
  refine wpAnyH_take (i := 11) (v := ?_) rfl (by kernel_rfl) (by kernel_rfl) (by kernel_rfl) (fun _ _ _ h => h) (Or.inl ⟨by rfl, fun w hSw => ?_⟩) hHeld ?_
  rotate_left
  · ((try dsimp only at hSw); go_split_ands; go_simp; (try with_reducible rfl))
  try simp only [Act.put, List.getElem_toArray, List.getElem_cons_zero, List.getElem_cons_succ, List.setIfInBounds_toArray, List.set_cons_zero, List.set_cons_succ]
  refine wpAnyH_take (i := 12) (v := ?_) rfl (by kernel_rfl) (by kernel_rfl) (by kernel_rfl) (fun _ _ _ h => h) (Or.inl ⟨by rfl, fun w hSw => ?_⟩) hHeld ?_
  rotate_left
  · ((try dsimp only at hSw); go_split_ands; go_simp; (try with_reducible rfl))
  try simp only [Act.put, List.getElem_toArray, List.getElem_cons_zero, List.getElem_cons_succ, List.setIfInBounds_toArray, List.set_cons_zero, List.set_cons_succ]
  refine wpAnyH_take (i := 13) (v := ?_) rfl (by kernel_rfl) (by kernel_rfl) (by kernel_rfl) (fun _ _ _ h => h) (Or.inl ⟨by rfl, fun w hSw => ?_⟩) hHeld ?_
  rotate_left
  · ((try dsimp only at hSw); go_split_ands; go_simp; (try with_reducible rfl))
  try simp only [Act.put, List.getElem_toArray, List.getElem_cons_zero, List.getElem_cons_succ, List.setIfInBounds_toArray, List.set_cons_zero, List.set_cons_succ]
  refine wpAnyH_take (i := 14) (v := ?_) rfl (by kernel_rfl) (by kernel_rfl) (by kernel_rfl) (fun _ _ _ h => h) (Or.inl ⟨by rfl, fun w hSw => ?_⟩) hHeld ?_
  rotate_left
  · ((try dsimp only at hSw); go_split_ands; go_simp; (try with_reducible rfl))
  try simp only [Act.put, List.getElem_toArray, List.getElem_cons_zero, List.getElem_cons_succ, List.setIfInBounds_toArray, List.set_cons_zero, List.set_cons_succ]
  refine wpAnyH_ready (rs := [7]) (by kernel_rfl) (by simp) ?_
  refine AllReadyH.cons rfl (fun K hK => ?_) AllReadyH.nil
  try simp only [List.getElem_toArray, List.getElem_cons_zero, List.getElem_cons_succ]
  (go_simp; refine (c_impl_termValue F e1 s.values a _ (V1.out.below bel) HA.out.1 (by rw [h8.out.1]; exact HA.out.2)).mono ?_; rintro e w3 ⟨rfl, rfl⟩; rw [← hx.out])
  refine hK.out _ _ (⟨k00.cell, kM0.cell⟩) (fun hHeldN => ?_)
  clear hHeld hK K
  have hHeld := hHeldN
  clear hHeldN
  try simp only [Act.put, List.getElem_toArray, List.getElem_cons_zero, List.getElem_cons_succ, List.setIfInBounds_toArray, List.set_cons_zero, List.set_cons_succ]
  refine wpAnyH_ready (rs := [15]) (by kernel_rfl) (by simp) ?_
  refine AllReadyH.cons rfl (fun K hK => ?_) AllReadyH.nil
  try simp only [List.getElem_toArray, List.getElem_cons_zero, List.getElem_cons_succ]
  (go_simp; refine (c_impl_termValue F e1 s.values b _ (V1.out.below bel) HB.out.1 (by rw [h8.out.1]; exact HB.out.2)).mono ?_; rintro e w3 ⟨rfl, rfl⟩; rw [← hy.out])
  refine hK.out _ _ (⟨k00.cell, kM0.cell⟩) (fun hHeldN => ?_)
  clear hHeld hK K
  have hHeld := hHeldN
  clear hHeldN
  try simp only [Act.put, List.getElem_toArray, List.getElem_cons_zero, List.getElem_cons_succ, List.setIfInBounds_toArray, List.set_cons_zero, List.set_cons_succ]
  refine wpAnyH_take (i := 16) (v := ?_) rfl (by kernel_rfl) (by kernel_rfl) (by kernel_rfl) (fun _ _ _ h => h) (Or.inl ⟨by rfl, fun w hSw => ?_⟩) hHeld ?_
  rotate_left
  · ((try dsimp only at hSw); go_split_ands; go_simp; (try with_reducible rfl))
  try simp only [Act.put, List.getElem_toArray, List.getElem_cons_zero, List.getElem_cons_succ, List.setIfInBounds_toArray, List.set_cons_zero, List.set_cons_succ]
  refine wpAnyH_take (i := 17) (v := ?_) rfl (by kernel_rfl) (by kernel_rfl) (by kernel_rfl) (fun _ _ _ h => h) (Or.inl ⟨by rfl, fun w hSw => ?_⟩) hHeld ?_
  rotate_left
  · ((try dsimp only at hSw); go_split_ands; go_simp; (try with_reducible rfl))
  try simp only [Act.put, List.getElem_toArray, List.getElem_cons_zero, List.getElem_cons_succ, List.setIfInBounds_toArray, List.set_cons_zero, List.set_cons_succ]
  refine wpAnyH_done (by kernel_rfl) ?_ _
  refine NoPanic.normal ?_
  obtain ⟨X, hX⟩ : ∃ X, X = (w.alloc (.cells #[.int .i64 3, .int .i64 a, .int .i64 b, .bool t.eq, .int .i64 t.a, .int .i64 t.b, vF, vA, vB, vE] tC)).drew := ⟨_, rfl⟩
  have hBX : Below w.heap.size w X := by rw [hX]; exact bel
  have kX : Blk X w.heap.size tC #[.int .i64 3, .int .i64 a, .int .i64 b, .bool t.eq, .int .i64 t.a, .int .i64 t.b, vF, vA, vB, vE] := by rw [hX]; exact k00.drew
  have kMX : Blk X g tM #[.slice F s.values.length e1, .slice G s.heap.length e2, .int .i64 (f : Int)] := by rw [hX]; exact kM0.drew
  have oX1 := Lib.hid (o1.out.below hBX)
  have oX2 := Lib.hid (o2.out.below hBX)
  have hBw : B ≤ w.heap.size := by omega
  have hBB : Rf B w X := Rf.of hBX hBw
  rw [← hX]
  clear hX k00 kM0 kM V1 hHeld o1 o2
  (replace qkX := kX.cell; replace rkX := kX.frozen; replace lkX := kX.lt; replace qkMX := kMX.cell; replace rkMX := kMX.frozen; replace lkMX := kMX.lt)
  have hSV : Hid (StateV X B X.heap.size (.agg #[.slice F s.values.length e1, .slice G s.heap.length e2]) s) := ⟨_, _, _, _, rfl, oX1.out.readsI.2, oX2.out.readsI.2⟩
  go_wp2_with fail
  refine (c_impl_allocated _ s x _ hSV.out h8.out.2).mono ?_
  rintro e w2 ⟨rfl, hB2⟩
  replace hBB := hBB.go hB2 hBw
  replace kX := kX.next hB2
  replace kMX := kMX.next hB2
  replace oX1 := Lib.hid (oX1.out.below hB2)
  replace oX2 := Lib.hid (oX2.out.below hB2)
  (replace qkX := kX.cell; replace rkX := kX.frozen; replace lkX := kX.lt; replace qkMX := kMX.cell; replace rkMX := kMX.frozen; replace lkMX := kMX.lt)
  clear hSV
  cases ha : allocB s.heap x
  · have E : Hid (basicF s 3 a b = (s, 1)) := by
      show _ = _
      unfold basicF
      rw [if_neg (by decide), if_neg (by decide), if_pos rfl, ← hx.out, ha]; rfl
    clear ha
    go_wp2_with fail
    go_ret
    rw [E.out]
    exact ⟨rfl, ⟨hBg, _, _, kMX, _, _, rfl, oX1.out, oX2.out, dj.out⟩, hBB⟩
  have hxa := allocB_addr ha
  obtain ⟨m, rfl⟩ : ∃ m : Nat, x = (m : Int) + 1 := ⟨(x - 1).toNat, by omega⟩
  have E : Hid (basicF s 3 a b = (⟨s.values, s.heap.set m y⟩, 0)) := by
    show _ = _
    unfold basicF
    rw [if_neg (by decide), if_neg (by decide), if_pos rfl, ← hx.out, ← hy.out, ha, if_pos rfl, show ((m : Int) + 1 - 1).toNat = m by omega]
  clear ha
  have hvl := h8.out.2
  obtain ⟨gv, cur, -, rfl, hgv, kg, hc, hset⟩ := oX2.out.cell_ (k := m) (by omega)
  have q := kg.cell m
  rw [hc] at q
  obtain ⟨z, hz⟩ : ∃ z, z = s.heap[m]'(by omega) := ⟨_, rfl⟩
  rw [← hz] at q
  have fq := kg.frozen m
  have hgvl := kg.lt
  have hne : g ≠ gv := kMX.ne_ kg (by decide)
  have HSET := Lib.hid (hset y)
  have hml : (m : Int) < (s.heap.length : Int) := by omega
  clear hset hc hz hvl
  go_wp2_with fail
  go_ret
  rw [E.out]
  refine ⟨rfl, ⟨hBg, _, _, kMX.far (p := ⟨gv, m, none⟩) hne _, _, _, rfl, oX1.out.set_ne (q := ⟨gv, m, none⟩) (fun e => dj.out gv e rfl) _, ?_, dj.out⟩, hBB.set (p := ⟨gv, m, none⟩) kg (by decide) hgv _⟩
  exact HSET.out
--@ (*impl.machine).basic
set_option maxRecDepth 100000 in
set_option maxHeartbeats 3200000 in
theorem basic_free (w : World) (B g : Nat) (s : Ste) (f : Nat) (a : Int) (ha : 0 ≤ a ∧ a ≤ 8) (t : Fct) (vF vA vB vE : Value) (hM : Mach w B g s f) (hs : s.valid = true) :
    Calls Tryz.prog 157 #[.pointer (some ⟨g, 0, none⟩), .agg #[.int .i64 5, .int .i64 a, .int .i64 0, .bool t.eq, .int .i64 t.a, .int .i64 t.b, vF, vA, vB, vE]] w fun e w' => e = .returned (.int .i64 (basicF s 5 a 0).2) ∧ Mach w' B g (basicF s 5 a 0).1 f ∧ Rf B w w' := by
  have HA := Lib.hid ha
  have HB : Hid (0 ≤ (0 : Int) ∧ (0 : Int) ≤ (8 : Int)) := ⟨by omega, by omega⟩
  clear ha
  obtain ⟨F, e1, G, e2, hBg, kM, o1, o2, dj⟩ := hM.form
  have hgl := kM.lt
  have h8 := Lib.hid (Ste.valid_len hs)
  have HS := Lib.hid hs
  have V1 := Lib.hid (o1.readsI.2)
  obtain ⟨x, hx⟩ : ∃ x, x = tval s.values a := ⟨_, rfl⟩
  obtain ⟨y, hy⟩ : ∃ x, x = tval s.values 0 := ⟨_, rfl⟩
  have hxv : 0 ≤ x ∧ x ≤ 8 := by rw [hx]; exact tval_le (Ste.all_vals hs) _
  have hyv : 0 ≤ y ∧ y ≤ 8 := by rw [hy]; exact tval_le (Ste.all_vals hs) _
  replace hx := Lib.hid hx
  replace hy := Lib.hid hy
  replace o1 := Lib.hid o1
  replace o2 := Lib.hid o2
  replace dj := Lib.hid dj
  clear hM hs
  have hgne : g ≠ w.heap.size := by omega
  go_enter Tryz.func157, Tryz.ntmps157
  have k00 : Blk (w.alloc (.cells #[.int .i64 5, .int .i64 a, .int .i64 0, .bool t.eq, .int .i64 t.a, .int .i64 t.b, vF, vA, vB, vE] tC)) w.heap.size tC #[.int .i64 5, .int .i64 a, .int .i64 0, .bool t.eq, .int .i64 t.a, .int .i64 t.b, vF, vA, vB, vE] := Blk.new _ _ _
  have kM0 : Blk (w.alloc (.cells #[.int .i64 5, .int .i64 a, .int .i64 0, .bool t.eq, .int .i64 t.a, .int .i64 t.b, vF, vA, vB, vE] tC)) g tM #[.slice F s.values.length e1, .slice G s.heap.length e2, .int .i64 (f : Int)] := kM.alloc _
  go_wp2_with fail
  refine wp_region_noPanic ?_
  refine wp_region_held_drew (S := (fun w' => (∀ j, w'.cell? ⟨w.heap.size, j, none⟩ = #[.int .i64 5, .int .i64 a, .int .i64 0, .bool t.eq, .int .i64 t.a, .int .i64 t.b, vF, vA, vB, vE][j]?) ∧ (∀ j, w'.cell? ⟨g, j, none⟩ = #[.slice F s.values.length e1, .slice G s.heap.length e2, .int .i64 (f : Int)][j]?))) (by kernel_rfl) (⟨k00.cell, kM0.cell⟩) (fun hHeld => ?_)
  refine wpAnyH_take (i := 0) (v := ?_) rfl (by kernel_rfl) (by kernel_rfl) (by kernel_rfl) (fun _ _ _ h => h) (Or.inl ⟨by rfl, fun w hSw => ?_⟩) hHeld ?_
  rotate_left
  · ((try dsimp only at hSw); go_split_ands; go_simp; (try with_reducible rfl))
  try simp only [Act.put, List.getElem_toArray, List.getElem_cons_zero, List.getElem_cons_succ, List.setIfInBounds_toArray, List.set_cons_zero, List.set_cons_succ]
  refine wpAnyH_take (i := 1) (v := ?_) rfl (by kernel_rfl) (by kernel_rfl) (by kernel_rfl) (fun _ _ _ h => h) (Or.inl ⟨by rfl, fun w hSw => ?_⟩) hHeld ?_
  rotate_left
  · ((try dsimp only at hSw); go_split_ands; go_simp; (try with_reducible rfl))
  try simp only [Act.put, List.getElem_toArray, List.getElem_cons_zero, List.getElem_cons_succ, List.setIfInBounds_toArray, List.set_cons_zero, List.set_cons_succ]
  refine wpAnyH_take (i := 2) (v := ?_) rfl (by kernel_rfl) (by kernel_rfl) (by kernel_rfl) (fun _ _ _ h => h) (Or.inl ⟨by rfl, fun w hSw => ?_⟩) hHeld ?_
  rotate_left
  · ((try dsimp only at hSw); go_split_ands; go_simp; (try with_reducible rfl))
  try simp only [Act.put, List.getElem_toArray, List.getElem_cons_zero, List.getElem_cons_succ, List.setIfInBounds_toArray, List.set_cons_zero, List.set_cons_succ]
  refine wpAnyH_take (i := 3) (v := ?_) rfl (by kernel_rfl) (by kernel_rfl) (by kernel_rfl) (fun _ _ _ h => h) (Or.inl ⟨by rfl, fun w hSw => ?_⟩) hHeld ?_
  rotate_left
  · ((try dsimp only at hSw); go_split_ands; go_simp; (try with_reducible rfl))
  try simp only [Act.put, List.getElem_toArray, List.getElem_cons_zero, List.getElem_cons_succ, List.setIfInBounds_toArray, List.set_cons_zero, List.set_cons_succ]
  refine wpAnyH_take (i := 4) (v := ?_) rfl (by kernel_rfl) (by kernel_rfl) (by kernel_rfl) (fun _ _ _ h => h) (Or.inl ⟨by rfl, fun w hSw => ?_⟩) hHeld ?_
  rotate_left
  · ((try dsimp only at hSw); go_split_ands; go_simp; (try with_reducible rfl))
  try simp only [Act.put, List.getElem_toArray, List.getElem_cons_zero, List.getElem_cons_succ, List.setIfInBounds_toArray, List.set_cons_zero, List.set_cons_succ]
  refine wpAnyH_take (i := 5) (v := ?_) rfl (by kernel_rfl) (by kernel_rfl) (by kernel_rfl) (fun _ _ _ h => h) (Or.inl ⟨by rfl, fun w hSw => ?_⟩) hHeld ?_
  rotate_left
  · ((try dsimp only at hSw); go_split_ands; go_simp; (try with_reducible rfl))
  try simp only [Act.put, List.getElem_toArray, List.getElem_cons_zero, List.getElem_cons_succ, List.setIfInBounds_toArray, List.set_cons_zero, List.set_cons_succ]
  refine wpAnyH_take (i := 6) (v := ?_) rfl (by kernel_rfl) (by kernel_rfl) (by kernel_rfl) (fun _ _ _ h => h) (Or.inl ⟨by rfl, fun w hSw => ?_⟩) hHeld ?_
  rotate_left
  · ((try dsimp only at hSw); go_split_ands; go_simp; (try with_reducible rfl))
  try simp only [Act.put, List.getElem_toArray, List.getElem_cons_zero, List.getElem_cons_succ, List.setIfInBounds_toArray, List.set_cons_zero, List.set_cons_succ]
  refine wpAnyH_take (i := 8) (v := ?_) rfl (by kernel_rfl) (by kernel_rfl) (by kernel_rfl) (fun _ _ _ h => h) (Or.inl ⟨by rfl, fun w hSw => ?_⟩) hHeld ?_
  rotate_left
  · ((try dsimp only at hSw); go_split_ands; go_simp; (try with_reducible rfl))
  try simp only [Act.put, List.getElem_toArray, List.getElem_cons_zero, List.getElem_cons_succ, List.setIfInBounds_toArray, List.set_cons_zero, List.set_cons_succ]
  refine wpAnyH_take (i := 9) (v := ?_) rfl (by kernel_rfl) (by kernel_rfl) (by kernel_rfl) (fun _ _ _ h => h) (Or.inl ⟨by rfl, fun w hSw => ?_⟩) hHeld ?_
  rotate_left
  · ((try dsimp only at hSw); go_split_ands; go_simp; (try with_reducible rfl))
  try simp only [Act.put, List.getElem_toArray, List.getElem_cons_zero, List.getElem_cons_succ, List.setIfInBounds_toArray, List.set_cons_zero, List.set_cons_succ]
  refine wpAnyH_take (i := 10) (v := ?_) rfl (by kernel_rfl) (by kernel_rfl) (by kernel_rfl) (fun _ _ _ h => h) (Or.inl ⟨by rfl, fun w hSw => ?_⟩) hHeld ?_
  rotate_left
  · ((try dsimp only at hSw); go_split_ands; go_simp; (try with_reducible rfl))
  try simp only [Act.put, List.getElem_toArray, List.getElem_cons_zero, List.getElem_cons_succ, List.setIfInBounds_toArray, List.set_cons_zero, List.set_cons_succ]
  refine wpAnyH_take (i := 11) (v := ?_) rfl (by kernel_rfl) (by kernel_rfl) (by kernel_rfl) (fun _ _ _ h => h) (Or.inl ⟨by rfl, fun w hSw => ?_⟩) hHeld ?_
  rotate_left
  · ((try dsimp only at hSw); go_split_ands; go_simp; (try with_reducible rfl))
  try simp only [Act.put, List.getElem_toArray, List.getElem_cons_zero, List.getElem_cons_succ, List.setIfInBounds_toArray, List.set_cons_zero, List.set_cons_succ]
  refine wpAnyH_take (i := 12) (v := ?_) rfl (by kernel_rfl) (by kernel_rfl) (by kernel_rfl) (fun _ _ _ h => h) (Or.inl ⟨by rfl, fun w hSw => ?_⟩) hHeld ?_
  rotate_left
  · ((try dsimp only at hSw); go_split_ands; go_simp; (try with_reducible rfl))
  try simp only [Act.put, List.getElem_toArray, List.getElem_cons_zero, List.getElem_cons_succ, List.setIfInBounds_toArray, List.set_cons_zero, List.set_cons_succ]
  refine wpAnyH_take (i := 13) (v := ?_) rfl (by kernel_rfl) (by kernel_rfl) (by kernel_rfl) (fun _ _ _ h => h) (Or.inl ⟨by rfl, fun w hSw => ?_⟩) hHeld ?_
  rotate_left
  · ((try dsimp only at hSw); go_split_ands; go_simp; (try with_reducible rfl))
  try simp only [Act.put, List.getElem_toArray, List.getElem_cons_zero, List.getElem_cons_succ, List.setIfInBounds_toArray, List.set_cons_zero, List.set_cons_succ]
  refine wpAnyH_take (i := 14) (v := ?_) rfl (by kernel_rfl) (by kernel_rfl) (by kernel_rfl) (fun _ _ _ h => h) (Or.inl ⟨by rfl, fun w hSw => ?_⟩) hHeld ?_
  rotate_left
  · ((try dsimp only at hSw); go_split_ands; go_simp; (try with_reducible rfl))
  try simp only [Act.put, List.getElem_toArray, List.getElem_cons_zero, List.getElem_cons_succ, List.setIfInBounds_toArray, List.set_cons_zero, List.set_cons_succ]
  refine wpAnyH_ready (rs := [7]) (by kernel_rfl) (by simp) ?_
  refine AllReadyH.cons rfl (fun K hK => ?_) AllReadyH.nil
  try simp only [List.getElem_toArray, List.getElem_cons_zero, List.getElem_cons_succ]
  (go_simp; refine (c_impl_termValue F e1 s.values a _ (V1.out.below bel) HA.out.1 (by rw [h8.out.1]; exact HA.out.2)).mono ?_; rintro e w3 ⟨rfl, rfl⟩; rw [← hx.out])
  refine hK.out _ _ (⟨k00.cell, kM0.cell⟩) (fun hHeldN => ?_)
  clear hHeld hK K
  have hHeld := hHeldN
  clear hHeldN
  try simp only [Act.put, List.getElem_toArray, List.getElem_cons_zero, List.getElem_cons_succ, List.setIfInBounds_toArray, List.set_cons_zero, List.set_cons_succ]
  refine wpAnyH_ready (rs := [15]) (by kernel_rfl) (by simp) ?_
  refine AllReadyH.cons rfl (fun K hK => ?_) AllReadyH.nil
  try simp only [List.getElem_toArray, List.getElem_cons_zero, List.getElem_cons_succ]
  (go_simp; refine (c_impl_termValue F e1 s.values 0 _ (V1.out.below bel) HB.out.1 (by rw [h8.out.1]; exact HB.out.2)).mono ?_; rintro e w3 ⟨rfl, rfl⟩; rw [← hy.out])
  refine hK.out _ _ (⟨k00.cell, kM0.cell⟩) (fun hHeldN => ?_)
  clear hHeld hK K
  have hHeld := hHeldN
  clear hHeldN
  try simp only [Act.put, List.getElem_toArray, List.getElem_cons_zero, List.getElem_cons_succ, List.setIfInBounds_toArray, List.set_cons_zero, List.set_cons_succ]
  refine wpAnyH_take (i := 16) (v := ?_) rfl (by kernel_rfl) (by kernel_rfl) (by kernel_rfl) (fun _ _ _ h => h) (Or.inl ⟨by rfl, fun w hSw => ?_⟩) hHeld ?_
  rotate_left
  · ((try dsimp only at hSw); go_split_ands; go_simp; (try with_reducible rfl))
  try simp only [Act.put, List.getElem_toArray, List.getElem_cons_zero, List.getElem_cons_succ, List.setIfInBounds_toArray, List.set_cons_zero, List.set_cons_succ]
  refine wpAnyH_take (i := 17) (v := ?_) rfl (by kernel_rfl) (by kernel_rfl) (by kernel_rfl) (fun _ _ _ h => h) (Or.inl ⟨by rfl, fun w hSw => ?_⟩) hHeld ?_
  rotate_left
  · ((try dsimp only at hSw); go_split_ands; go_simp; (try with_reducible rfl))
  try simp only [Act.put, List.getElem_toArray, List.getElem_cons_zero, List.getElem_cons_succ, List.setIfInBounds_toArray, List.set_cons_zero, List.set_cons_succ]
  refine wpAnyH_done (by kernel_rfl) ?_ _
  refine NoPanic.normal ?_
  obtain ⟨X, hX⟩ : ∃ X, X = (w.alloc (.cells #[.int .i64 5, .int .i64 a, .int .i64 0, .bool t.eq, .int .i64 t.a, .int .i64 t.b, vF, vA, vB, vE] tC)).drew := ⟨_, rfl⟩
  have hBX : Below w.heap.size w X := by rw [hX]; exact bel
  have kX : Blk X w.heap.size tC #[.int .i64 5, .int .i64 a, .int .i64 0, .bool t.eq, .int .i64 t.a, .int .i64 t.b, vF, vA, vB, vE] := by rw [hX]; exact k00.drew
  have kMX : Blk X g tM #[.slice F s.values.length e1, .slice G s.heap.length e2, .int .i64 (f : Int)] := by rw [hX]; exact kM0.drew
  have oX1 := Lib.hid (o1.out.below hBX)
  have oX2 := Lib.hid (o2.out.below hBX)
  have hBw : B ≤ w.heap.size := by omega
  have hBB : Rf B w X := Rf.of hBX hBw
  rw [← hX]
  clear hX k00 kM0 kM V1 hHeld o1 o2
  (replace qkX := kX.cell; replace rkX := kX.frozen; replace lkX := kX.lt; replace qkMX := kMX.cell; replace rkMX := kMX.frozen; replace lkMX := kMX.lt)
  have hSV : Hid (StateV X B X.heap.size (.agg #[.slice F s.values.length e1, .slice G s.heap.length e2]) s) := ⟨_, _, _, _, rfl, oX1.out.readsI.2, oX2.out.readsI.2⟩
  go_wp2_with fail
  refine (c_impl_allocated _ s x _ hSV.out h8.out.2).mono ?_
  rintro e w2 ⟨rfl, hB2⟩
  replace hBB := hBB.go hB2 hBw
  replace kX := kX.next hB2
  replace kMX := kMX.next hB2
  replace oX1 := Lib.hid (oX1.out.below hB2)
  replace oX2 := Lib.hid (oX2.out.below hB2)
  (replace qkX := kX.cell; replace rkX := kX.frozen; replace lkX := kX.lt; replace qkMX := kMX.cell; replace rkMX := kMX.frozen; replace lkMX := kMX.lt)
  clear hSV
  cases ha : allocB s.heap x
  · have E : Hid (basicF s 5 a 0 = (s, 1)) := by
      show _ = _
      unfold basicF
      rw [if_neg (by decide), if_neg (by decide), if_neg (by decide), if_neg (by decide), ← hx.out, ha]; rfl
    clear ha
    go_wp2_with fail
    go_ret
    rw [E.out]
    exact ⟨rfl, ⟨hBg, _, _, kMX, _, _, rfl, oX1.out, oX2.out, dj.out⟩, hBB⟩
  have hxa := allocB_addr ha
  obtain ⟨m, rfl⟩ : ∃ m : Nat, x = (m : Int) + 1 := ⟨(x - 1).toNat, by omega⟩
  have E : Hid (basicF s 5 a 0 = (⟨s.values, s.heap.set m (-1)⟩, 0)) := by
    show _ = _
    unfold basicF
    rw [if_neg (by decide), if_neg (by decide), if_neg (by decide), if_neg (by decide), ← hx.out, ha, if_pos rfl, show ((m : Int) + 1 - 1).toNat = m by omega]
  clear ha
  have hvl := h8.out.2
  obtain ⟨gv, cur, -, rfl, hgv, kg, hc, hset⟩ := oX2.out.cell_ (k := m) (by omega)
  have q := kg.cell m
  rw [hc] at q
  obtain ⟨z, hz⟩ : ∃ z, z = s.heap[m]'(by omega) := ⟨_, rfl⟩
  rw [← hz] at q
  have fq := kg.frozen m
  have hgvl := kg.lt
  have hne : g ≠ gv := kMX.ne_ kg (by decide)
  have HSET := Lib.hid (hset (-1))
  have hml : (m : Int) < (s.heap.length : Int) := by omega
  clear hset hc hz hvl
  go_wp2_with fail
  go_ret
  rw [E.out]
  refine ⟨rfl, ⟨hBg, _, _, kMX.far (p := ⟨gv, m, none⟩) hne _, _, _, rfl, oX1.out.set_ne (q := ⟨gv, m, none⟩) (fun e => dj.out gv e rfl) _, ?_, dj.out⟩, hBB.set (p := ⟨gv, m, none⟩) kg (by decide) hgv _⟩
  exact HSET.out
--@ (*impl.machine).basic
set_option maxRecDepth 100000 in
set_option maxHeartbeats 3200000 in
theorem basic_new (w : World) (B g : Nat) (s : Ste) (f : Nat) (m : Nat) (hm : m < 4) (t : Fct) (vF vA vB vE : Value) (hM : Mach w B g s f) (hs : s.valid = true) :
    Calls Tryz.prog 157 #[.pointer (some ⟨g, 0, none⟩), .agg #[.int .i64 4, .int .i64 ((m : Int) + 1), .int .i64 0, .bool t.eq, .int .i64 t.a, .int .i64 t.b, vF, vA, vB, vE]] w fun e w' => e = .returned (.int .i64 (basicF s 4 ((m : Int) + 1) 0).2) ∧ Mach w' B g (basicF s 4 ((m : Int) + 1) 0).1 f ∧ Rf B w w' := by
  have hm4 : (m : Int) < 4 := by omega
  have hm8 : (m : Int) < 8 := by omega
  obtain ⟨F, e1, G, e2, hBg, kM, o1, o2, dj⟩ := hM.form
  have hgl := kM.lt
  have h8 := Lib.hid (Ste.valid_len hs)
  have HS := Lib.hid hs
  have V1 := Lib.hid (o1.readsI.2)
  obtain ⟨x, hx⟩ : ∃ x, x = tval s.values ((m : Int) + 1) := ⟨_, rfl⟩
  obtain ⟨y, hy⟩ : ∃ x, x = tval s.values 0 := ⟨_, rfl⟩
  have hxv : 0 ≤ x ∧ x ≤ 8 := by rw [hx]; exact tval_le (Ste.all_vals hs) _
  have hyv : 0 ≤ y ∧ y ≤ 8 := by rw [hy]; exact tval_le (Ste.all_vals hs) _
  replace hx := Lib.hid hx
  replace hy := Lib.hid hy
  replace o1 := Lib.hid o1
  replace o2 := Lib.hid o2
  replace dj := Lib.hid dj
  clear hM hs
  have hgne : g ≠ w.heap.size := by omega
  go_enter Tryz.func157, Tryz.ntmps157
  have k00 : Blk (w.alloc (.cells #[.int .i64 4, .int .i64 ((m : Int) + 1), .int .i64 0, .bool t.eq, .int .i64 t.a, .int .i64 t.b, vF, vA, vB, vE] tC)) w.heap.size tC #[.int .i64 4, .int .i64 ((m : Int) + 1), .int .i64 0, .bool t.eq, .int .i64 t.a, .int .i64 t.b, vF, vA, vB, vE] := Blk.new _ _ _
  have kM0 : Blk (w.alloc (.cells #[.int .i64 4, .int .i64 ((m : Int) + 1), .int .i64 0, .bool t.eq, .int .i64 t.a, .int .i64 t.b, vF, vA, vB, vE] tC)) g tM #[.slice F s.values.length e1, .slice G s.heap.length e2, .int .i64 (f : Int)] := kM.alloc _
  go_wp2_with fail
  refine wp_region_noPanic ?_
  refine wp_region_held_drew (S := (fun w' => (∀ j, w'.cell? ⟨w.heap.size, j, none⟩ = #[.int .i64 4, .int .i64 ((m : Int) + 1), .int .i64 0, .bool t.eq, .int .i64 t.a, .int .i64 t.b, vF, vA, vB, vE][j]?) ∧ (∀ j, w'.cell? ⟨g, j, none⟩ = #[.slice F s.values.length e1, .slice G s.heap.length e2, .int .i64 (f : Int)][j]?))) (by kernel_rfl) (⟨k00.cell, kM0.cell⟩) (fun hHeld => ?_)
  refine wpAnyH_take (i := 0) (v := ?_) rfl (by kernel_rfl) (by kernel_rfl) (by kernel_rfl) (fun _ _ _ h => h) (Or.inl ⟨by rfl, fun w hSw => ?_⟩) hHeld ?_
  rotate_left
  · ((try dsimp only at hSw); go_split_ands; go_simp; (try with_reducible rfl))
  try simp only [Act.put, List.getElem_toArray, List.getElem_cons_zero, List.getElem_cons_succ, List.setIfInBounds_toArray, List.set_cons_zero, List.set_cons_succ]
  refine wpAnyH_take (i := 1) (v := ?_) rfl (by kernel_rfl) (by kernel_rfl) (by kernel_rfl) (fun _ _ _ h => h) (Or.inl ⟨by rfl, fun w hSw => ?_⟩) hHeld ?_
  rotate_left
  · ((try dsimp only at hSw); go_split_ands; go_simp; (try with_reducible rfl))
  try simp only [Act.put, List.getElem_toArray, List.getElem_cons_zero, List.getElem_cons_succ, List.setIfInBounds_toArray, List.set_cons_zero, List.set_cons_succ]
  refine wpAnyH_take (i := 2) (v := ?_) rfl (by kernel_rfl) (by kernel_rfl) (by kernel_rfl) (fun _ _ _ h => h) (Or.inl ⟨by rfl, fun w hSw => ?_⟩) hHeld ?_
  rotate_left
  · ((try dsimp only at hSw); go_split_ands; go_simp; (try with_reducible rfl))
  try simp only [Act.put, List.getElem_toArray, List.getElem_cons_zero, List.getElem_cons_succ, List.setIfInBounds_toArray, List.set_cons_zero, List.set_cons_succ]
  refine wpAnyH_take (i := 3) (v := ?_) rfl (by kernel_rfl) (by kernel_rfl) (by kernel_rfl) (fun _ _ _ h => h) (Or.inl ⟨by rfl, fun w hSw => ?_⟩) hHeld ?_
  rotate_left
  · ((try dsimp only at hSw); go_split_ands; go_simp; (try with_reducible rfl))
  try simp only [Act.put, List.getElem_toArray, List.getElem_cons_zero, List.getElem_cons_succ, List.setIfInBounds_toArray, List.set_cons_zero, List.set_cons_succ]
  refine wpAnyH_take (i := 4) (v := ?_) rfl (by kernel_rfl) (by kernel_rfl) (by kernel_rfl) (fun _ _ _ h => h) (Or.inl ⟨by rfl, fun w hSw => ?_⟩) hHeld ?_
  rotate_left
  · ((try dsimp only at hSw); go_split_ands; go_simp; (try with_reducible rfl))
  try simp only [Act.put, List.getElem_toArray, List.getElem_cons_zero, List.getElem_cons_succ, List.setIfInBounds_toArray, List.set_cons_zero, List.set_cons_succ]
  refine wpAnyH_take (i := 5) (v := ?_) rfl (by kernel_rfl) (by kernel_rfl) (by kernel_rfl) (fun _ _ _ h => h) (Or.inl ⟨by rfl, fun w hSw => ?_⟩) hHeld ?_
  rotate_left
  · ((try dsimp only at hSw); go_split_ands; go_simp; (try with_reducible rfl))
  try simp only [Act.put, List.getElem_toArray, List.getElem_cons_zero, List.getElem_cons_succ, List.setIfInBounds_toArray, List.set_cons_zero, List.set_cons_succ]
  refine wpAnyH_take (i := 6) (v := ?_) rfl (by kernel_rfl) (by kernel_rfl) (by kernel_rfl) (fun _ _ _ h => h) (Or.inl ⟨by rfl, fun w hSw => ?_⟩) hHeld ?_
  rotate_left
  · ((try dsimp only at hSw); go_split_ands; go_simp; (try with_reducible rfl))
  try simp only [Act.put, List.getElem_toArray, List.getElem_cons_zero, List.getElem_cons_succ, List.setIfInBounds_toArray, List.set_cons_zero, List.set_cons_succ]
  refine wpAnyH_take (i := 8) (v := ?_) rfl (by kernel_rfl) (by kernel_rfl) (by kernel_rfl) (fun _ _ _ h => h) (Or.inl ⟨by rfl, fun w hSw => ?_⟩) hHeld ?_
  rotate_left
  · ((try dsimp only at hSw); go_split_ands; go_simp; (try with_reducible rfl))
  try simp only [Act.put, List.getElem_toArray, List.getElem_cons_zero, List.getElem_cons_succ, List.setIfInBounds_toArray, List.set_cons_zero, List.set_cons_succ]
  refine wpAnyH_take (i := 9) (v := ?_) rfl (by kernel_rfl) (by kernel_rfl) (by kernel_rfl) (fun _ _ _ h => h) (Or.inl ⟨by rfl, fun w hSw => ?_⟩) hHeld ?_
  rotate_left
  · ((try dsimp only at hSw); go_split_ands; go_simp; (try with_reducible rfl))
  try simp only [Act.put, List.getElem_toArray, List.getElem_cons_zero, List.getElem_cons_succ, List.setIfInBounds_toArray, List.set_cons_zero, List.set_cons_succ]
  refine wpAnyH_take (i := 10) (v := ?_) rfl (by kernel_rfl) (by kernel_rfl) (by kernel_rfl) (fun _ _ _ h => h) (Or.inl ⟨by rfl, fun w hSw => ?_⟩) hHeld ?_
  rotate_left
  · ((try dsimp only at hSw); go_split_ands; go_simp; (try with_reducible rfl))
  try simp only [Act.put, List.getElem_toArray, List.getElem_cons_zero, List.getElem_cons_succ, List.setIfInBounds_toArray, List.set_cons_zero, List.set_cons_succ]
  refine wpAnyH_take (i := 11) (v := ?_) rfl (by kernel_rfl) (by kernel_rfl) (by kernel_rfl) (fun _ _ _ h => h) (Or.inl ⟨by rfl, fun w hSw => ?_⟩) hHeld ?_
  rotate_left
  · ((try dsimp only at hSw); go_split_ands; go_simp; (try with_reducible rfl))
  try simp only [Act.put, List.getElem_toArray, List.getElem_cons_zero, List.getElem_cons_succ, List.setIfInBounds_toArray, List.set_cons_zero, List.set_cons_succ]
  refine wpAnyH_take (i := 12) (v := ?_) rfl (by kernel_rfl) (by kernel_rfl) (by kernel_rfl) (fun _ _ _ h => h) (Or.inl ⟨by rfl, fun w hSw => ?_⟩) hHeld ?_
  rotate_left
  · ((try dsimp only at hSw); go_split_ands; go_simp; (try with_reducible rfl))
  try simp only [Act.put, List.getElem_toArray, List.getElem_cons_zero, List.getElem_cons_succ, List.setIfInBounds_toArray, List.set_cons_zero, List.set_cons_succ]
  refine wpAnyH_take (i := 13) (v := ?_) rfl (by kernel_rfl) (by kernel_rfl) (by kernel_rfl) (fun _ _ _ h => h) (Or.inl ⟨by rfl, fun w hSw => ?_⟩) hHeld ?_
  rotate_left
  · ((try dsimp only at hSw); go_split_ands; go_simp; (try with_reducible rfl))
  try simp only [Act.put, List.getElem_toArray, List.getElem_cons_zero, List.getElem_cons_succ, List.setIfInBounds_toArray, List.set_cons_zero, List.set_cons_succ]
  refine wpAnyH_take (i := 14) (v := ?_) rfl (by kernel_rfl) (by kernel_rfl) (by kernel_rfl) (fun _ _ _ h => h) (Or.inl ⟨by rfl, fun w hSw => ?_⟩) hHeld ?_
  rotate_left
  · ((try dsimp only at hSw); go_split_ands; go_simp; (try with_reducible rfl))
  try simp only [Act.put, List.getElem_toArray, List.getElem_cons_zero, List.getElem_cons_succ, List.setIfInBounds_toArray, List.set_cons_zero, List.set_cons_succ]
  refine wpAnyH_ready (rs := [7]) (by kernel_rfl) (by simp) ?_
  refine AllReadyH.cons rfl (fun K hK => ?_) AllReadyH.nil
  try simp only [List.getElem_toArray, List.getElem_cons_zero, List.getElem_cons_succ]
  (go_simp; refine (c_impl_termValue F e1 s.values ((m : Int) + 1) _ (V1.out.below bel) (by omega) (by rw [h8.out.1]; exact (by omega))).mono ?_; rintro e w3 ⟨rfl, rfl⟩; rw [← hx.out])
  refine hK.out _ _ (⟨k00.cell, kM0.cell⟩) (fun hHeldN => ?_)
  clear hHeld hK K
  have hHeld := hHeldN
  clear hHeldN
  try simp only [Act.put, List.getElem_toArray, List.getElem_cons_zero, List.getElem_cons_succ, List.setIfInBounds_toArray, List.set_cons_zero, List.set_cons_succ]
  refine wpAnyH_ready (rs := [15]) (by kernel_rfl) (by simp) ?_
  refine AllReadyH.cons rfl (fun K hK => ?_) AllReadyH.nil
  try simp only [List.getElem_toArray, List.getElem_cons_zero, List.getElem_cons_succ]
  (go_simp; refine (c_impl_termValue F e1 s.values 0 _ (V1.out.below bel) (by omega) (by rw [h8.out.1]; exact (by omega))).mono ?_; rintro e w3 ⟨rfl, rfl⟩; rw [← hy.out])
  refine hK.out _ _ (⟨k00.cell, kM0.cell⟩) (fun hHeldN => ?_)
  clear hHeld hK K
  have hHeld := hHeldN
  clear hHeldN
  try simp only [Act.put, List.getElem_toArray, List.getElem_cons_zero, List.getElem_cons_succ, List.setIfInBounds_toArray, List.set_cons_zero, List.set_cons_succ]
  refine wpAnyH_take (i := 16) (v := ?_) rfl (by kernel_rfl) (by kernel_rfl) (by kernel_rfl) (fun _ _ _ h => h) (Or.inl ⟨by rfl, fun w hSw => ?_⟩) hHeld ?_
  rotate_left
  · ((try dsimp only at hSw); go_split_ands; go_simp; (try with_reducible rfl))
  try simp only [Act.put, List.getElem_toArray, List.getElem_cons_zero, List.getElem_cons_succ, List.setIfInBounds_toArray, List.set_cons_zero, List.set_cons_succ]
  refine wpAnyH_take (i := 17) (v := ?_) rfl (by kernel_rfl) (by kernel_rfl) (by kernel_rfl) (fun _ _ _ h => h) (Or.inl ⟨by rfl, fun w hSw => ?_⟩) hHeld ?_
  rotate_left
  · ((try dsimp only at hSw); go_split_ands; go_simp; (try with_reducible rfl))
  try simp only [Act.put, List.getElem_toArray, List.getElem_cons_zero, List.getElem_cons_succ, List.setIfInBounds_toArray, List.set_cons_zero, List.set_cons_succ]
  refine wpAnyH_done (by kernel_rfl) ?_ _
  refine NoPanic.normal ?_
  obtain ⟨X, hX⟩ : ∃ X, X = (w.alloc (.cells #[.int .i64 4, .int .i64 ((m : Int) + 1), .int .i64 0, .bool t.eq, .int .i64 t.a, .int .i64 t.b, vF, vA, vB, vE] tC)).drew := ⟨_, rfl⟩
  have hBX : Below w.heap.size w X := by rw [hX]; exact bel
  have kX : Blk X w.heap.size tC #[.int .i64 4, .int .i64 ((m : Int) + 1), .int .i64 0, .bool t.eq, .int .i64 t.a, .int .i64 t.b, vF, vA, vB, vE] := by rw [hX]; exact k00.drew
  have kMX : Blk X g tM #[.slice F s.values.length e1, .slice G s.heap.length e2, .int .i64 (f : Int)] := by rw [hX]; exact kM0.drew
  have oX1 := Lib.hid (o1.out.below hBX)
  have oX2 := Lib.hid (o2.out.below hBX)
  have hBw : B ≤ w.heap.size := by omega
  have hBB : Rf B w X := Rf.of hBX hBw
  rw [← hX]
  clear hX k00 kM0 kM V1 hHeld o1 o2
  (replace qkX := kX.cell; replace rkX := kX.frozen; replace lkX := kX.lt; replace qkMX := kMX.cell; replace rkMX := kMX.frozen; replace lkMX := kMX.lt)
  have hSV : Hid (StateV X B X.heap.size (.agg #[.slice F s.values.length e1, .slice G s.heap.length e2]) s) := ⟨_, _, _, _, rfl, oX1.out.readsI.2, oX2.out.readsI.2⟩
  have rM := kMX.frozen
  go_wp2_with fail
  refine (c_impl_AllocX _ s _ hSV.out HS.out).mono ?_
  rintro e w2 ⟨hor, hB2⟩
  have hXs := kMX.lt
  replace hBB := hBB.go hB2 hBw
  replace kX := kX.next hB2
  replace kMX := kMX.next hB2
  replace oX1 := Lib.hid (oX1.out.below hB2)
  replace oX2 := Lib.hid (oX2.out.below hB2)
  (replace qkX := kX.cell; replace rkX := kX.frozen; replace lkX := kX.lt; replace qkMX := kMX.cell; replace rkMX := kMX.frozen; replace lkMX := kMX.lt)
  clear hSV
  rcases hor with ⟨hf, rfl⟩ | ⟨n, r, hf, rfl, o⟩
  · have E : Hid (basicF s 4 ((m : Int) + 1) 0 = (s, 2)) := by
      show _ = _
      unfold basicF
      rw [if_neg (by decide), if_neg (by decide), if_neg (by decide), if_pos rfl, hf]
    clear hf
    go_wp2_with fail
    go_ret
    rw [E.out]
    exact ⟨rfl, ⟨hBg, _, _, kMX.alloc _, _, _, rfl, oX1.out.below (bbox (Below.refl _ _) _), oX2.out.below (bbox (Below.refl _ _) _), dj.out⟩, hBB.alloc hBw _⟩
  have E : Hid (basicF s 4 ((m : Int) + 1) 0 = (⟨s.values.set m ((n : Int) + 1), s.heap.set n 0⟩, 0)) := by
    show _ = _
    unfold basicF
    rw [if_neg (by decide), if_neg (by decide), if_neg (by decide), if_pos rfl, hf, show ((m : Int) + 1 - 1).toNat = m by omega]
  have hn8 := freeK_lt hf
  have hn8' : (n : Int) < 8 := by omega
  clear hf oX1 oX2 dj
  obtain ⟨nf, nh, rfl, p1, p2, dj⟩ := o
  obtain ⟨NF, d1, rfl, -⟩ := p1.reads
  obtain ⟨NH, d2, rfl, -⟩ := p2.reads
  simp only [List.length_set] at p1 p2 dj
  replace p1 := Lib.hid (p1.lower (base' := B) (by omega))
  replace p2 := Lib.hid (p2.lower (base' := B) (by omega))
  replace dj := Lib.hid dj
  have hvl := h8.out.1
  obtain ⟨gv, cur, -, rfl, hgv, kg, hc, hset⟩ := p1.out.cell_ (k := m) (by first | omega | (simp; omega))
  have q := kg.cell m
  rw [hc] at q
  obtain ⟨z, hz⟩ : ∃ z, z = s.values[m]'(by omega) := ⟨_, rfl⟩
  rw [← hz] at q
  have fq := kg.frozen m
  have hgvl := kg.lt
  have hne : g ≠ gv := kMX.ne_ kg (by decide)
  have hne2 : w.heap.size ≠ gv := kX.ne_ kg (by decide)
  have hml : (m : Int) < (s.values.length : Int) := by omega
  clear hset hc hz hvl
  go_wp2_with fail
  obtain ⟨V, hV⟩ : ∃ V, V = (((w2.setCell ⟨g, 0, none⟩ (.slice (some ⟨gv, 0, none⟩) s.values.length d1)).setCell ⟨g, 1, none⟩ (.slice NH s.heap.length d2)).alloc (.cells #[.slice (some ⟨gv, 0, none⟩) s.values.length d1, .slice NH s.heap.length d2] 25)) := ⟨_, rfl⟩
  have kMV : Blk V g tM #[.slice (some ⟨gv, 0, none⟩) s.values.length d1, .slice NH s.heap.length d2, .int .i64 (f : Int)] := by rw [hV]; exact ((kMX.set_ 0 _).set_ 1 _).alloc _
  have kXV : Blk V w.heap.size tC #[.int .i64 4, .int .i64 ((m : Int) + 1), .int .i64 0, .bool t.eq, .int .i64 t.a, .int .i64 t.b, vF, vA, vB, vE] := by rw [hV]; exact ((kX.far (p := ⟨g, 0, none⟩) (Ne.symm hgne) _).far (p := ⟨g, 1, none⟩) (Ne.symm hgne) _).alloc _
  have kgV : Blk V gv tI cur := by rw [hV]; exact ((kg.far (p := ⟨g, 0, none⟩) (Ne.symm hne) _).far (p := ⟨g, 1, none⟩) (Ne.symm hne) _).alloc _
  have q1 : V.cell? ⟨gv, m, none⟩ = some (.int .i64 z) := (kgV.cell m).trans ((kg.cell m).symm.trans q)
  have fq1 := kgV.frozen m
  have hgvl1 := kgV.lt
  have pV1 : IntsO V B (.slice (some ⟨gv, 0, none⟩) s.values.length d1) s.values := by rw [hV]; exact ((p1.out.setT kMX (by decide) 0 _).setT (kMX.set_ 0 _) (by decide) 1 _).below (bbox (Below.refl _ _) _)
  have pV2 : IntsO V B (.slice NH s.heap.length d2) (s.heap.set n 0) := by rw [hV]; exact ((p2.out.setT kMX (by decide) 0 _).setT (kMX.set_ 0 _) (by decide) 1 _).below (bbox (Below.refl _ _) _)
  have hBV : Rf B w V := by rw [hV]; exact ((hBB.set (p := ⟨g, 0, none⟩) kMX (by decide) hBg _).set (p := ⟨g, 1, none⟩) (kMX.set_ 0 _) (by decide) hBg _).alloc hBw _
  obtain ⟨gv', cur', -, ev, hgv', kg', hc', hset'⟩ := pV1.cell_ (k := m) (by have := h8.out.1; omega)
  injection ev with ev; injection ev with ev; subst ev
  have HSET := Lib.hid (hset' ((n : Int) + 1))
  replace pV2 := Lib.hid pV2
  have hwm : IntKind.i64.wrap (m : Int) = (m : Int) := IntWalk.i64_in _ (by omega)
  rw [← hV]
  clear hV kMX kX kg q fq hgvl p1 p2 hBB pV1 hset' kg' hc' qkX rkX lkX qkMX rkMX lkMX
  refine wp_region_noPanic ?_
  refine wp_region_last' (S := (fun w' => (∀ j, w'.cell? ⟨w.heap.size, j, none⟩ = #[.int .i64 4, .int .i64 ((m : Int) + 1), .int .i64 0, .bool t.eq, .int .i64 t.a, .int .i64 t.b, vF, vA, vB, vE][j]?) ∧ (∀ j, w'.cell? ⟨g, j, none⟩ = #[.slice (some ⟨gv, 0, none⟩) s.values.length d1, .slice NH s.heap.length d2, .int .i64 (f : Int)][j]?) ∧ w'.cell? ⟨gv, m, none⟩ = some (.int .i64 z) ∧ w'.frozen? ⟨gv, m, none⟩ = false)) (by simp) (by kernel_rfl) (by kernel_rfl) (⟨kXV.cell, kMV.cell, q1, fq1⟩) (fun hHeld => ?_)
  simp only [List.dropLast, List.getLast, nopOf, List.cons_append, List.nil_append, List.length_cons, List.length_nil, Nat.zero_add, Nat.reduceAdd]
  refine wpAnyH_take (i := 0) (v := ?_) rfl (by kernel_rfl) (by kernel_rfl) (by kernel_rfl) (fun _ _ _ h => h) (Or.inl ⟨by rfl, fun w hSw => ?_⟩) hHeld ?_
  rotate_left
  · ((try dsimp only at hSw); go_split_ands; go_simp; (try with_reducible rfl))
  try simp only [Act.put, List.getElem_toArray, List.getElem_cons_zero, List.getElem_cons_succ, List.setIfInBounds_toArray, List.set_cons_zero, List.set_cons_succ]
  refine wpAnyH_take (i := 1) (v := ?_) rfl (by kernel_rfl) (by kernel_rfl) (by kernel_rfl) (fun _ _ _ h => h) (Or.inl ⟨by rfl, fun w hSw => ?_⟩) hHeld ?_
  rotate_left
  · ((try dsimp only at hSw); go_split_ands; go_simp; (try with_reducible rfl))
  try simp only [Act.put, List.getElem_toArray, List.getElem_cons_zero, List.getElem_cons_succ, List.setIfInBounds_toArray, List.set_cons_zero, List.set_cons_succ]
  refine wpAnyH_take (i := 2) (v := ?_) rfl (by kernel_rfl) (by kernel_rfl) (by kernel_rfl) (fun _ _ _ h => h) (Or.inl ⟨by rfl, fun w hSw => ?_⟩) hHeld ?_
  rotate_left
  · ((try dsimp only at hSw); go_split_ands; go_simp; (try with_reducible rfl))
  try simp only [Act.put, List.getElem_toArray, List.getElem_cons_zero, List.getElem_cons_succ, List.setIfInBounds_toArray, List.set_cons_zero, List.set_cons_succ]
  refine wpAnyH_take (i := 3) (v := ?_) rfl (by kernel_rfl) (by kernel_rfl) (by kernel_rfl) (fun _ _ _ h => h) (Or.inl ⟨by rfl, fun w hSw => ?_⟩) hHeld ?_
  rotate_left
  · ((try dsimp only at hSw); go_split_ands; go_simp; (try with_reducible rfl))
  try simp only [Act.put, List.getElem_toArray, List.getElem_cons_zero, List.getElem_cons_succ, List.setIfInBounds_toArray, List.set_cons_zero, List.set_cons_succ]
  refine wpAnyH_take (i := 4) (v := ?_) rfl (by kernel_rfl) (by kernel_rfl) (by kernel_rfl) (fun _ _ _ h => h) (Or.inl ⟨by rfl, fun w hSw => ?_⟩) hHeld ?_
  rotate_left
  · ((try dsimp only at hSw); go_split_ands; go_simp; (try with_reducible rfl))
  try simp only [Act.put, List.getElem_toArray, List.getElem_cons_zero, List.getElem_cons_succ, List.setIfInBounds_toArray, List.set_cons_zero, List.set_cons_succ]
  refine wpAnyH_take (i := 5) (v := ?_) rfl (by kernel_rfl) (by kernel_rfl) (by kernel_rfl) (fun _ _ _ h => h) (Or.inl ⟨by rfl, fun w hSw => ?_⟩) hHeld ?_
  rotate_left
  · ((try dsimp only at hSw); go_split_ands; go_simp; (try with_reducible rfl))
  try simp only [Act.put, List.getElem_toArray, List.getElem_cons_zero, List.getElem_cons_succ, List.setIfInBounds_toArray, List.set_cons_zero, List.set_cons_succ]
  refine wpAnyH_take (i := 6) (v := ?_) rfl (by kernel_rfl) (by kernel_rfl) (by kernel_rfl) (fun _ _ _ h => h) (Or.inl ⟨by rfl, fun w hSw => ?_⟩) hHeld ?_
  rotate_left
  · ((try dsimp only at hSw); go_split_ands; go_simp; (try with_reducible rfl))
  try simp only [Act.put, List.getElem_toArray, List.getElem_cons_zero, List.getElem_cons_succ, List.setIfInBounds_toArray, List.set_cons_zero, List.set_cons_succ]
  refine wpAnyH_take (i := 7) (v := ?_) rfl (by kernel_rfl) (by kernel_rfl) (by kernel_rfl) (fun _ _ _ h => h) (Or.inl ⟨by rfl, fun w hSw => ?_⟩) hHeld ?_
  rotate_left
  · ((try dsimp only at hSw); go_split_ands; go_simp; (try with_reducible rfl))
  try simp only [Act.put, List.getElem_toArray, List.getElem_cons_zero, List.getElem_cons_succ, List.setIfInBounds_toArray, List.set_cons_zero, List.set_cons_succ]
  refine wpAnyH_take (i := 8) (v := ?_) rfl (by kernel_rfl) (by kernel_rfl) (by kernel_rfl) (fun _ _ _ h => h) (Or.inl ⟨by rfl, fun w hSw => ?_⟩) hHeld ?_
  rotate_left
  · ((try dsimp only at hSw); go_split_ands; go_simp; (try with_reducible rfl))
  try simp only [Act.put, List.getElem_toArray, List.getElem_cons_zero, List.getElem_cons_succ, List.setIfInBounds_toArray, List.set_cons_zero, List.set_cons_succ]
  refine wpAnyH_take (i := 9) (v := ?_) rfl (by kernel_rfl) (by kernel_rfl) (by kernel_rfl) (fun _ _ _ h => h) (Or.inl ⟨by rfl, fun w hSw => ?_⟩) hHeld ?_
  rotate_left
  · ((try dsimp only at hSw); go_split_ands; go_simp; (try with_reducible rfl))
  try simp only [Act.put, List.getElem_toArray, List.getElem_cons_zero, List.getElem_cons_succ, List.setIfInBounds_toArray, List.set_cons_zero, List.set_cons_succ]
  refine wpAnyH_ready (rs := [10]) (by kernel_rfl) (by simp) ?_
  refine AllReadyH.cons rfl (fun K hK => ?_) AllReadyH.nil
  go_simp
  refine hK.out _ _ (⟨kXV.cell, kMV.cell, q1, fq1⟩) (fun hHeld => ?_)
  clear hK K
  refine wpAnyH_done (by kernel_rfl) ?_ _
  unfold lastQ
  go_simp
  refine NoPanic.normal ?_
  go_wp2_with fail
  go_ret
  rw [E.out]
  refine ⟨rfl, ⟨hBg, _, _, kMV.drewX.far (p := ⟨gv, m, none⟩) hne _, _, _, rfl, HSET.out, ?_, dj.out⟩, hBV.drew.set (p := ⟨gv, m, none⟩) kgV.drewX (by decide) hgv _⟩
  exact pV2.out.set_ne (q := ⟨gv, m, none⟩) (dj.out gv rfl) _
theorem c_impl_basic (w : World) (B g : Nat) (s : Ste) (f : Nat) (k a b : Int) (t : Fct) (vF vA vB vE : Value) (hM : Mach w B g s f) (hs : s.valid = true) (hf : fieldsB k a b = true) :
    Calls Tryz.prog 157 #[.pointer (some ⟨g, 0, none⟩), .agg #[.int .i64 k, .int .i64 a, .int .i64 b, .bool t.eq, .int .i64 t.a, .int .i64 t.b, vF, vA, vB, vE]] w fun e w' => e = .returned (.int .i64 (basicF s k a b).2) ∧ Mach w' B g (basicF s k a b).1 f ∧ Rf B w w' := by
  have hk := fieldsB_basic hf
  unfold fieldsB at hf
  have hP : ∀ {x : Int}, isProgB x = true → ∃ m : Nat, x = (m : Int) + 1 ∧ m < 4 := fun {x} h => by
    simp [isProgB] at h
    exact ⟨(x - 1).toNat, by omega, by omega⟩
  by_cases k1 : k = 1
  · subst k1
    rw [if_pos (Or.inl rfl), Bool.and_eq_true] at hf
    obtain ⟨m, rfl, hm⟩ := hP hf.1
    exact basic_set w B g s f m b hm (isTermB_iff.1 hf.2) t vF vA vB vE hM hs
  by_cases k2 : k = 2
  · subst k2
    rw [if_pos (Or.inr rfl), Bool.and_eq_true] at hf
    obtain ⟨m, rfl, hm⟩ := hP hf.1
    exact basic_load w B g s f m b hm (isTermB_iff.1 hf.2) t vF vA vB vE hM hs
  rw [if_neg (by omega)] at hf
  by_cases k3 : k = 3
  · subst k3
    rw [if_pos rfl, Bool.and_eq_true] at hf
    exact basic_store w B g s f a b (isTermB_iff.1 hf.1) (isTermB_iff.1 hf.2) t vF vA vB vE hM hs
  rw [if_neg k3] at hf
  by_cases k4 : k = 4
  · subst k4
    rw [if_pos rfl, Bool.and_eq_true, decide_eq_true_eq] at hf
    obtain ⟨hf1, rfl⟩ := hf
    obtain ⟨m, rfl, hm⟩ := hP hf1
    exact basic_new w B g s f m hm t vF vA vB vE hM hs
  rw [if_neg k4] at hf
  obtain rfl : k = 5 := by omega
  rw [if_pos rfl, Bool.and_eq_true, decide_eq_true_eq] at hf
  obtain ⟨hf1, rfl⟩ := hf
  exact basic_free w B g s f a (isTermB_iff.1 hf1) t vF vA vB vE hM hs
--@
end Go.Proofs.YteogcababfenfaaGreat

/- Running programs: impl's machine. -/
namespace Go.Proofs.YteogcababfenfaaGreat
open Go Go.RowKit Go.Proofs

theorem CmsV.belowB {w w' : World} {lo hi B : Nat} {A : Option Addr} {L : Cms} (h : CmsV w lo hi A L) (hb : Below B w w') (hhi : hi ≤ B) : CmsV w' lo hi A L := h.keep fun b _ h2 => hb.block b (by omega)
theorem fval6 {a b : Int} {t : Fct} {i : Asn} {body els : Cms} (h : fvalB 6 a b t i body els = true) : t.valid = true := by
  unfold fvalB at h
  rw [if_pos rfl] at h
  simp only [Bool.and_eq_true] at h
  exact h.2.2.1
theorem fval7 {a b : Int} {t : Fct} {i : Asn} {body els : Cms} (h : fvalB 7 a b t i body els = true) : t.valid = true := by
  unfold fvalB at h
  rw [if_neg (by decide), if_pos rfl] at h
  simp only [Bool.and_eq_true] at h
  exact h.2.2.1
theorem fval_basic {k a b : Int} {t : Fct} {i : Asn} {body els : Cms} (h6 : k ≠ 6) (h7 : k ≠ 7) (h : fvalB k a b t i body els = true) : fieldsB k a b = true := by
  rw [fvalB_basic h6 h7, Bool.and_eq_true] at h
  exact h.2
--@ (*impl.machine).command
/-- a block of commands run by the machine -/
def ListOk (B g : Nat) (A : Option Addr) (c : Nat) (lo hi : Nat) (L : Cms) : Prop := ∀ (s : Ste) (f : Nat) (w : World), Mach w B g s f → s.valid = true → f ≤ 200 → CmsV w lo hi A L →
  Calls Tryz.prog 76 #[.pointer (some ⟨g, 0, none⟩), .slice A L.len c] w fun e w' => e = .returned (.int .i64 (L.run s f).2.1) ∧ Mach w' B g (L.run s f).1 (L.run s f).2.2 ∧ Rf B w w'
theorem cmdR6 {a b : Int} {t : Fct} {RB RE : Ste → Nat → Ste × Int × Nat} {s : Ste} {f : Nat} : cmdR 6 a b t RB RE s f = if t.holds s.values then RB s f else RE s f := rfl
theorem cmdRb {k a b : Int} {t : Fct} {RB RE : Ste → Nat → Ste × Int × Nat} {s : Ste} {f : Nat} (h6 : k ≠ 6) (h7 : k ≠ 7) : cmdR k a b t RB RE s f = ((basicF s k a b).1, (basicF s k a b).2, f) := by
  unfold cmdR; rw [if_neg h6, if_neg h7]
set_option maxRecDepth 100000 in
set_option maxHeartbeats 3200000 in
theorem c_impl_command {lo hi : Nat} (w : World) (B g : Nat) (s : Ste) (f : Nat) (k a b : Int) (t : Fct) (i : Asn) (vF vA : Value) (A3 A4 : Option Addr) (c3 c4 : Nat) (body els : Cms) (hM : Mach w B g s f) (hs : s.valid = true) (hf : f ≤ 200) (hv : fvalB k a b t i body els = true)
    (hV3 : CmsV w lo hi A3 body) (hV4 : CmsV w lo hi A4 els) (hhi : hi ≤ B) (IB : ListOk B g A3 c3 lo hi body) (IE : ListOk B g A4 c4 lo hi els) :
    Calls Tryz.prog 118 #[.pointer (some ⟨g, 0, none⟩), .agg #[.int .i64 k, .int .i64 a, .int .i64 b, .bool t.eq, .int .i64 t.a, .int .i64 t.b, vF, vA, .slice A3 body.len c3, .slice A4 els.len c4]] w fun e w' =>
      e = .returned (.int .i64 (cmdF k a b t body.run els.run s f).2.1) ∧ Mach w' B g (cmdF k a b t body.run els.run s f).1 (cmdF k a b t body.run els.run s f).2.2 ∧ Rf B w w' := by
  have hg := hM.lt
  have hBg : B ≤ g := hM.1
  have hBw : B ≤ w.heap.size := by omega
  obtain ⟨RB, hRB⟩ : ∃ R, R = body.run := ⟨_, rfl⟩
  obtain ⟨RE, hRE⟩ : ∃ R, R = els.run := ⟨_, rfl⟩
  have hok : RunOk RB := by rw [hRB]; exact Cms.run_ok body
  have hIB : Hid (∀ (s : Ste) (f : Nat) (w : World), Mach w B g s f → s.valid = true → f ≤ 200 → CmsV w lo hi A3 body →
      Calls Tryz.prog 76 #[.pointer (some ⟨g, 0, none⟩), .slice A3 body.len c3] w fun e w' => e = .returned (.int .i64 (RB s f).2.1) ∧ Mach w' B g (RB s f).1 (RB s f).2.2 ∧ Rf B w w') := by rw [hRB]; exact IB
  have hIE : Hid (∀ (s : Ste) (f : Nat) (w : World), Mach w B g s f → s.valid = true → f ≤ 200 → CmsV w lo hi A4 els →
      Calls Tryz.prog 76 #[.pointer (some ⟨g, 0, none⟩), .slice A4 els.len c4] w fun e w' => e = .returned (.int .i64 (RE s f).2.1) ∧ Mach w' B g (RE s f).1 (RE s f).2.2 ∧ Rf B w w') := by rw [hRE]; exact IE
  rw [← hRB, ← hRE]
  clear IB IE hRB hRE
  replace hok := Lib.hid hok
  replace hV3 := Lib.hid hV3
  replace hV4 := Lib.hid hV4
  have HS := Lib.hid hs
  clear hs
  rcases Nat.eq_zero_or_pos f with rfl | hf1
  · have E : Hid (cmdF k a b t RB RE s 0 = (s, 3, 0)) := rfl
    replace hM := Lib.hid hM
    clear hv
    go_enter Tryz.func118, Tryz.ntmps118
    go_wp2_with fail
    refine (c_impl_pay_no _ B g s (hM.out.below bel)).mono ?_
    rintro e w1 ⟨rfl, rfl⟩
    go_wp2_with fail
    go_ret
    rw [E.out]
    exact ⟨rfl, hM.out.below bel, Rf.of bel hBw⟩
  obtain ⟨f, rfl⟩ : ∃ n, f = n + 1 := ⟨f - 1, by omega⟩
  have E : Hid (cmdF k a b t RB RE s (f + 1) = cmdR k a b t RB RE s f) := by
    show _ = _
    unfold cmdF
    rw [if_neg (by omega)]; rfl
  clear hf1
  replace hM := Lib.hid hM
  have key : ∀ (kk : Int), kk = k → Calls Tryz.prog 118 #[.pointer (some ⟨g, 0, none⟩), .agg #[.int .i64 k, .int .i64 a, .int .i64 b, .bool t.eq, .int .i64 t.a, .int .i64 t.b, vF, vA, .slice A3 body.len c3, .slice A4 els.len c4]] w fun e w' =>
      e = .returned (.int .i64 (cmdR k a b t RB RE s f).2.1) ∧ Mach w' B g (cmdR k a b t RB RE s f).1 (cmdR k a b t RB RE s f).2.2 ∧ Rf B w w' := by
    intro kk hkk
    by_cases k6 : k = 6
    · subst k6
      have htv := Lib.hid (fval6 hv)
      clear hv E
      obtain ⟨th, hth⟩ : ∃ x, x = t.holds s.values := ⟨_, rfl⟩
      have E6 : Hid (cmdR 6 a b t RB RE s f = if th then RB s f else RE s f) := by show _ = _; rw [hth]; rfl
      replace hth := Lib.hid hth
      go_enter Tryz.func118, Tryz.ntmps118
      go_wp2_with fail
      refine (c_impl_pay_yes _ B g s f (hM.out.below bel) (by omega)).mono ?_
      rintro e w1 ⟨rfl, hM1, hB1⟩
      have hB : Rf B w w1 := (Rf.of (w := w) bel hBw).trans hB1
      have k0 : Blk w1 w.heap.size tC #[.int .i64 6, .int .i64 a, .int .i64 b, .bool t.eq, .int .i64 t.a, .int .i64 t.b, vF, vA, .slice A3 body.len c3, .slice A4 els.len c4] := hB1.boxes _ _ (Blk.new _ _ _)
      obtain ⟨F, e1, G, e2, -, kM, o1, o2, dj⟩ := hM1.form
      have hSV : Hid (StateV w1 B w1.heap.size (.agg #[.slice F s.values.length e1, .slice G s.heap.length e2]) s) := ⟨_, _, _, _, rfl, o1.readsI.2, o2.readsI.2⟩
      replace hM1 := Lib.hid hM1
      clear hB1 hM o1 o2 dj
      (replace qk0 := k0.cell; replace rk0 := k0.frozen; replace lk0 := k0.lt; replace qkM := kM.cell; replace rkM := kM.frozen; replace lkM := kM.lt)
      go_wp2_with fail
      refine wp_region_noPanic ?_
      refine wp_region_held_drew (S := (fun w' => (∀ j, w'.cell? ⟨w.heap.size, j, none⟩ = #[.int .i64 6, .int .i64 a, .int .i64 b, .bool t.eq, .int .i64 t.a, .int .i64 t.b, vF, vA, .slice A3 body.len c3, .slice A4 els.len c4][j]?) ∧ (∀ j, w'.cell? ⟨g, j, none⟩ = #[.slice F s.values.length e1, .slice G s.heap.length e2, .int .i64 (f : Int)][j]?))) (by kernel_rfl) (⟨k0.cell, kM.cell⟩) (fun hHeld => ?_)
      refine wpAnyH_take (i := 0) (v := ?_) rfl (by kernel_rfl) (by kernel_rfl) (by kernel_rfl) (fun _ _ _ h => h) (Or.inl ⟨by rfl, fun w hSw => ?_⟩) hHeld ?_
      rotate_left
      · ((try dsimp only at hSw); go_split_ands; go_simp; (try with_reducible rfl))
      try simp only [Act.put, List.getElem_toArray, List.getElem_cons_zero, List.getElem_cons_succ, List.setIfInBounds_toArray, List.set_cons_zero, List.set_cons_succ]
      refine wpAnyH_take (i := 1) (v := ?_) rfl (by kernel_rfl) (by kernel_rfl) (by kernel_rfl) (fun _ _ _ h => h) (Or.inl ⟨by rfl, fun w hSw => ?_⟩) hHeld ?_
      rotate_left
      · ((try dsimp only at hSw); go_split_ands; go_simp; (try with_reducible rfl))
      try simp only [Act.put, List.getElem_toArray, List.getElem_cons_zero, List.getElem_cons_succ, List.setIfInBounds_toArray, List.set_cons_zero, List.set_cons_succ]
      refine wpAnyH_take (i := 2) (v := ?_) rfl (by kernel_rfl) (by kernel_rfl) (by kernel_rfl) (fun _ _ _ h => h) (Or.inl ⟨by rfl, fun w hSw => ?_⟩) hHeld ?_
      rotate_left
      · ((try dsimp only at hSw); go_split_ands; go_simp; (try with_reducible rfl))
      try simp only [Act.put, List.getElem_toArray, List.getElem_cons_zero, List.getElem_cons_succ, List.setIfInBounds_toArray, List.set_cons_zero, List.set_cons_succ]
      refine wpAnyH_take (i := 3) (v := ?_) rfl (by kernel_rfl) (by kernel_rfl) (by kernel_rfl) (fun _ _ _ h => h) (Or.inl ⟨by rfl, fun w hSw => ?_⟩) hHeld ?_
      rotate_left
      · ((try dsimp only at hSw); go_split_ands; go_simp; (try with_reducible rfl))
      try simp only [Act.put, List.getElem_toArray, List.getElem_cons_zero, List.getElem_cons_succ, List.setIfInBounds_toArray, List.set_cons_zero, List.set_cons_succ]
      refine wpAnyH_take (i := 4) (v := ?_) rfl (by kernel_rfl) (by kernel_rfl) (by kernel_rfl) (fun _ _ _ h => h) (Or.inl ⟨by rfl, fun w hSw => ?_⟩) hHeld ?_
      rotate_left
      · ((try dsimp only at hSw); go_split_ands; go_simp; (try with_reducible rfl))
      try simp only [Act.put, List.getElem_toArray, List.getElem_cons_zero, List.getElem_cons_succ, List.setIfInBounds_toArray, List.set_cons_zero, List.set_cons_succ]
      refine wpAnyH_take (i := 5) (v := ?_) rfl (by kernel_rfl) (by kernel_rfl) (by kernel_rfl) (fun _ _ _ h => h) (Or.inl ⟨by rfl, fun w hSw => ?_⟩) hHeld ?_
      rotate_left
      · ((try dsimp only at hSw); go_split_ands; go_simp; (try with_reducible rfl))
      try simp only [Act.put, List.getElem_toArray, List.getElem_cons_zero, List.getElem_cons_succ, List.setIfInBounds_toArray, List.set_cons_zero, List.set_cons_succ]
      refine wpAnyH_ready (rs := [6]) (by kernel_rfl) (by simp) ?_
      refine AllReadyH.cons rfl (fun K hK => ?_) AllReadyH.nil
      try simp only [List.getElem_toArray, List.getElem_cons_zero, List.getElem_cons_succ]
      (go_simp; refine (c_impl_TestHolds _ s t _ (hSV.out.below bel) HS.out htv.out).mono ?_; rintro e w2 ⟨rfl, hB2⟩; rw [← hth.out]; have hW2 : Below w1.heap.size w1 w2 := bgo (Below.refl _ _).drew hB2; have k02 := k0.next hW2; have kM2 := kM.next hW2)
      refine hK.out _ _ (⟨k02.cell, kM2.cell⟩) (fun hHeldN => ?_)
      clear hHeld hK K
      have hHeld := hHeldN
      clear hHeldN
      try simp only [Act.put, List.getElem_toArray, List.getElem_cons_zero, List.getElem_cons_succ, List.setIfInBounds_toArray, List.set_cons_zero, List.set_cons_succ]
      refine wpAnyH_done (by kernel_rfl) ?_ _
      refine NoPanic.normal ?_
      have hR2 := hB.go hW2 hBw
      have hM2 := Lib.hid (hM1.out.below hW2)
      clear qk0 rk0 lk0 qkM rkM lkM kM kM2 hSV hW2 hB2 k0 hHeld
      have q0 := k02.cell
      have l0 := k02.lt
      cases th
      · go_wp2_with fail
        refine (hIE.out s f w2 hM2.out HS.out (by omega) (hV4.out.belowB hR2.below hhi)).mono ?_
        rintro e w3 ⟨rfl, hM3, hB3⟩
        go_wp2_with fail
        go_ret
        rw [E6.out]
        exact ⟨rfl, hM3, hR2.trans hB3⟩
      · go_wp2_with fail
        refine (hIB.out s f w2 hM2.out HS.out (by omega) (hV3.out.belowB hR2.below hhi)).mono ?_
        rintro e w3 ⟨rfl, hM3, hB3⟩
        go_wp2_with fail
        go_ret
        rw [E6.out]
        exact ⟨rfl, hM3, hR2.trans hB3⟩
    by_cases k7 : k = 7
    · subst k7
      have htv := Lib.hid (fval7 hv)
      clear hv E k6
      obtain ⟨LH, hLH⟩ : ∃ x, x = loopF RB t (f + 1) s f := ⟨_, rfl⟩
      have E7 : Hid (cmdR 7 a b t RB RE s f = LH) := by show _ = _; rw [hLH]; rfl
      replace hLH := Lib.hid hLH
      go_enter Tryz.func118, Tryz.ntmps118
      go_wp2_with fail
      refine (c_impl_pay_yes _ B g s f (hM.out.below bel) (by omega)).mono ?_
      rintro e w1 ⟨rfl, hM1, hB1⟩
      have hB : Rf B w w1 := (Rf.of (w := w) bel hBw).trans hB1
      have k0 : Blk w1 w.heap.size tC #[.int .i64 7, .int .i64 a, .int .i64 b, .bool t.eq, .int .i64 t.a, .int .i64 t.b, vF, vA, .slice A3 body.len c3, .slice A4 els.len c4] := hB1.boxes _ _ (Blk.new _ _ _)
      replace hM1 := Lib.hid hM1
      clear hB1 hM
      (replace qk0 := k0.cell; replace rk0 := k0.frozen; replace lk0 := k0.lt)
      go_wp2_with fail
      clear qk0 rk0 lk0
      go_loopg [] f (fun gh wx => ∃ (n : Nat) (s1 : Ste), gh < n ∧ gh ≤ 199 ∧ Hid (s1.valid = true) ∧ Hid (LH = loopF RB t n s1 gh) ∧ Hid (Mach wx B g s1 gh) ∧ Blk wx w.heap.size tC #[.int .i64 7, .int .i64 a, .int .i64 b, .bool t.eq, .int .i64 t.a, .int .i64 t.b, vF, vA, .slice A3 body.len c3, .slice A4 els.len c4] ∧ Rf B w wx)
      case atStart => exact ⟨f + 1, s, by omega, by omega, HS, hLH, hM1, k0, hB⟩
      case round =>
        clear k0 hB hM1
        obtain ⟨n, s1, hn, hgk, HS1, HL, hM1, k0, hB⟩ := hrel
        obtain ⟨n, rfl⟩ : ∃ m, n = m + 1 := ⟨n - 1, by omega⟩
        obtain ⟨F, e1, G, e2, -, kM, o1, o2, dj⟩ := hM1.out.form
        have hSV : Hid (StateV wr B wr.heap.size (.agg #[.slice F s1.values.length e1, .slice G s1.heap.length e2]) s1) := ⟨_, _, _, _, rfl, o1.readsI.2, o2.readsI.2⟩
        clear o1 o2 dj
        obtain ⟨th, hth⟩ : ∃ x, x = t.holds s1.values := ⟨_, rfl⟩
        have HL2 := HL.out
        rw [loopF, ← hth] at HL2
        replace HL2 := Lib.hid HL2
        replace hth := Lib.hid hth
        clear HL
        (replace qk0 := k0.cell; replace rk0 := k0.frozen; replace lk0 := k0.lt; replace qkM := kM.cell; replace rkM := kM.frozen; replace lkM := kM.lt)
        go_wp2_with fail
        refine wp_region_noPanic ?_
        refine wp_region_held_drew (S := (fun w' => (∀ j, w'.cell? ⟨w.heap.size, j, none⟩ = #[.int .i64 7, .int .i64 a, .int .i64 b, .bool t.eq, .int .i64 t.a, .int .i64 t.b, vF, vA, .slice A3 body.len c3, .slice A4 els.len c4][j]?) ∧ (∀ j, w'.cell? ⟨g, j, none⟩ = #[.slice F s1.values.length e1, .slice G s1.heap.length e2, .int .i64 (gk : Int)][j]?))) (by kernel_rfl) (⟨k0.cell, kM.cell⟩) (fun hHeld => ?_)
        refine wpAnyH_take (i := 0) (v := ?_) rfl (by kernel_rfl) (by kernel_rfl) (by kernel_rfl) (fun _ _ _ h => h) (Or.inl ⟨by rfl, fun w hSw => ?_⟩) hHeld ?_
        rotate_left
        · ((try dsimp only at hSw); go_split_ands; go_simp; (try with_reducible rfl))
        try simp only [Act.put, List.getElem_toArray, List.getElem_cons_zero, List.getElem_cons_succ, List.setIfInBounds_toArray, List.set_cons_zero, List.set_cons_succ]
        refine wpAnyH_take (i := 1) (v := ?_) rfl (by kernel_rfl) (by kernel_rfl) (by kernel_rfl) (fun _ _ _ h => h) (Or.inl ⟨by rfl, fun w hSw => ?_⟩) hHeld ?_
        rotate_left
        · ((try dsimp only at hSw); go_split_ands; go_simp; (try with_reducible rfl))
        try simp only [Act.put, List.getElem_toArray, List.getElem_cons_zero, List.getElem_cons_succ, List.setIfInBounds_toArray, List.set_cons_zero, List.set_cons_succ]
        refine wpAnyH_take (i := 2) (v := ?_) rfl (by kernel_rfl) (by kernel_rfl) (by kernel_rfl) (fun _ _ _ h => h) (Or.inl ⟨by rfl, fun w hSw => ?_⟩) hHeld ?_
        rotate_left
        · ((try dsimp only at hSw); go_split_ands; go_simp; (try with_reducible rfl))
        try simp only [Act.put, List.getElem_toArray, List.getElem_cons_zero, List.getElem_cons_succ, List.setIfInBounds_toArray, List.set_cons_zero, List.set_cons_succ]
        refine wpAnyH_take (i := 3) (v := ?_) rfl (by kernel_rfl) (by kernel_rfl) (by kernel_rfl) (fun _ _ _ h => h) (Or.inl ⟨by rfl, fun w hSw => ?_⟩) hHeld ?_
        rotate_left
        · ((try dsimp only at hSw); go_split_ands; go_simp; (try with_reducible rfl))
        try simp only [Act.put, List.getElem_toArray, List.getElem_cons_zero, List.getElem_cons_succ, List.setIfInBounds_toArray, List.set_cons_zero, List.set_cons_succ]
        refine wpAnyH_take (i := 4) (v := ?_) rfl (by kernel_rfl) (by kernel_rfl) (by kernel_rfl) (fun _ _ _ h => h) (Or.inl ⟨by rfl, fun w hSw => ?_⟩) hHeld ?_
        rotate_left
        · ((try dsimp only at hSw); go_split_ands; go_simp; (try with_reducible rfl))
        try simp only [Act.put, List.getElem_toArray, List.getElem_cons_zero, List.getElem_cons_succ, List.setIfInBounds_toArray, List.set_cons_zero, List.set_cons_succ]
        refine wpAnyH_take (i := 5) (v := ?_) rfl (by kernel_rfl) (by kernel_rfl) (by kernel_rfl) (fun _ _ _ h => h) (Or.inl ⟨by rfl, fun w hSw => ?_⟩) hHeld ?_
        rotate_left
        · ((try dsimp only at hSw); go_split_ands; go_simp; (try with_reducible rfl))
        try simp only [Act.put, List.getElem_toArray, List.getElem_cons_zero, List.getElem_cons_succ, List.setIfInBounds_toArray, List.set_cons_zero, List.set_cons_succ]
        refine wpAnyH_ready (rs := [6]) (by kernel_rfl) (by simp) ?_
        refine AllReadyH.cons rfl (fun K hK => ?_) AllReadyH.nil
        try simp only [List.getElem_toArray, List.getElem_cons_zero, List.getElem_cons_succ]
        (go_simp; refine (c_impl_TestHolds _ s1 t _ (hSV.out.below bel) HS1.out htv.out).mono ?_; rintro e w2 ⟨rfl, hB2⟩; rw [← hth.out]; have hW2 : Below wr.heap.size wr w2 := bgo (Below.refl _ _).drew hB2; have k02 := k0.next hW2; have kM2 := kM.next hW2)
        refine hK.out _ _ (⟨k02.cell, kM2.cell⟩) (fun hHeldN => ?_)
        clear hHeld hK K
        have hHeld := hHeldN
        clear hHeldN
        try simp only [Act.put, List.getElem_toArray, List.getElem_cons_zero, List.getElem_cons_succ, List.setIfInBounds_toArray, List.set_cons_zero, List.set_cons_succ]
        refine wpAnyH_done (by kernel_rfl) ?_ _
        refine NoPanic.normal ?_
        have hR2 := hB.go hW2 hBw
        have hM2 := Lib.hid (hM1.out.below hW2)
        clear qk0 rk0 lk0 qkM rkM lkM kM kM2 hSV hW2 hB2 k0 hHeld hM1
        have q0 := k02.cell
        have l0 := k02.lt
        cases th
        · have HL3 : Hid (LH = (s1, 0, gk)) := HL2.out
          clear HL2
          go_wp2_with fail
          go_ret
          rw [E7.out, HL3.out]
          exact ⟨rfl, hM2.out, hR2⟩
        obtain ⟨P, hP⟩ : ∃ P, P = RB s1 gk := ⟨_, rfl⟩
        obtain ⟨s2, c2, f2⟩ := P
        have hk := hok.out s1 gk HS1.out
        have HL3 := HL2.out
        rw [if_pos rfl, ← hP] at HL3
        rw [← hP] at hk
        obtain ⟨hk1, hk2, hk3, hk4⟩ := hk
        simp only at hk1 hk2 hk3 hk4 HL3
        have hIB' := hIB.out s1 gk w2 hM2.out HS1.out (by omega) (hV3.out.belowB hR2.below hhi)
        rw [← hP] at hIB'
        replace hIB' := Lib.hid hIB'
        replace HL3 := Lib.hid HL3
        replace hk1 := Lib.hid hk1
        clear HL2 hP
        go_wp2_with fail
        refine hIB'.out.mono ?_
        rintro e w3 ⟨rfl, hM3, hB3⟩
        have hR3 := hR2.trans hB3
        have k03 := hB3.boxes _ _ k02
        replace hM3 := Lib.hid hM3
        clear hB3 k02 q0 l0 hM2 hR2 hIB'
        by_cases hc : c2 = 0
        · have HL4 := HL3.out
          rw [if_neg (by omega)] at HL4
          rcases Nat.eq_zero_or_pos f2 with hz | hpos
          · subst hz
            rw [if_pos (by omega)] at HL4
            replace HL4 := Lib.hid HL4
            have q0 := k03.cell
            have l0 := k03.lt
            clear HL3
            go_wp2_with fail
            refine (c_impl_pay_no _ B g s2 hM3.out).mono ?_
            rintro e w4 ⟨rfl, rfl⟩
            go_wp2_with fail
            go_ret
            rw [E7.out, HL4.out]
            exact ⟨rfl, hM3.out, hR3⟩
          · obtain ⟨f2, rfl⟩ : ∃ m, f2 = m + 1 := ⟨f2 - 1, by omega⟩
            rw [if_neg (by omega), Nat.add_sub_cancel] at HL4
            replace HL4 := Lib.hid HL4
            have q0 := k03.cell
            have l0 := k03.lt
            clear HL3
            go_wp2_with fail
            refine (c_impl_pay_yes _ B g s2 f2 hM3.out (by omega)).mono ?_
            rintro e w4 ⟨rfl, hM4, hB4⟩
            have hR4 := hR3.trans hB4
            have k04 := hB4.boxes _ _ k03
            clear q0 l0
            go_wp2_with fail
            go_roundg f2
            case measure => omega
            case rel => exact ⟨n, s2, by omega, by omega, hk1, HL4, Lib.hid hM4, k04, hR4⟩
        · have HL4 := HL3.out
          rw [if_pos hc] at HL4
          replace HL4 := Lib.hid HL4
          have hcb : (c2 != 0) = true := by simpa using hc
          have q0 := k03.cell
          have l0 := k03.lt
          clear HL3
          go_wp2_with fail
          go_ret
          rw [E7.out, HL4.out]
          exact ⟨rfl, hM3.out, hR3⟩
    have hfb := Lib.hid (fval_basic k6 k7 hv)
    have Eb := Lib.hid (cmdRb (a := a) (b := b) (t := t) (RB := RB) (RE := RE) (s := s) (f := f) k6 k7)
    clear hv E
    go_enter Tryz.func118, Tryz.ntmps118
    go_wp2_with fail
    refine (c_impl_pay_yes _ B g s f (hM.out.below bel) (by omega)).mono ?_
    rintro e w1 ⟨rfl, hM1, hB1⟩
    have hB : Rf B w w1 := (Rf.of (w := w) bel hBw).trans hB1
    have k0 : Blk w1 w.heap.size tC #[.int .i64 k, .int .i64 a, .int .i64 b, .bool t.eq, .int .i64 t.a, .int .i64 t.b, vF, vA, .slice A3 body.len c3, .slice A4 els.len c4] := hB1.boxes _ _ (Blk.new _ _ _)
    replace hM1 := Lib.hid hM1
    clear hB1 hM
    (replace qk0 := k0.cell; replace rk0 := k0.frozen; replace lk0 := k0.lt)
    go_wp2_with fail
    refine (c_impl_basic w1 B g s f k a b t vF vA _ _ hM1.out HS.out hfb.out).mono ?_
    rintro e w2 ⟨rfl, hM2, hB2⟩
    replace hM2 := Lib.hid hM2
    go_wp2_with fail
    go_ret
    rw [Eb.out]
    exact ⟨rfl, hM2.out, hB.trans hB2⟩
  rw [E.out]
  exact key k rfl
--@ (*impl.machine).list
set_option maxRecDepth 100000 in
set_option maxHeartbeats 3200000 in
theorem list_go : ∀ (N : Nat) (L : Cms), L.sz < N → ∀ (A : Option Addr) (c d lo hi B g : Nat), L.len ≤ 1049600 → L.small 1049600 → L.shape d = true → hi ≤ B → ListOk B g A c lo hi L := by
  intro N
  induction N with
  | zero => intro L h; omega
  | succ N IH =>
    intro L hsz A c d lo hi B g hlen hsm hsh hhi s f w hM hs hf hV
    replace IH := Lib.hid IH
    replace hsm := Lib.hid hsm
    replace hsz := Lib.hid hsz
    replace hsh := Lib.hid hsh
    have hg := hM.lt
    have hBw : B ≤ w.heap.size := by have := hM.1; omega
    obtain ⟨n, hn⟩ : ∃ n, n = L.len := ⟨_, rfl⟩
    rw [← hn]
    rw [← hn] at hlen
    replace hn := Lib.hid hn
    replace hV := Lib.hid hV
    replace hM := Lib.hid hM
    replace hs := Lib.hid hs
    go_enter Tryz.func76, Tryz.ntmps76
    go_wp2_with fail
    go_loopw [10] (fun x wr => ∃ (j f1 : Nat) (s1 : Ste), j ≤ n ∧ x = .int .i64 j ∧ f1 ≤ 200 ∧ Hid (s1.valid = true) ∧ Hid (L.run s f = (L.drop j).run s1 f1) ∧ Hid (Mach wr B g s1 f1) ∧ Rf B w wr) (fun x _ => n - (intOf x).toNat)
    case atStart => exact ⟨0, f, s, Nat.zero_le _, rfl, hf, hs, Lib.hid rfl, hM, Rf.of (Below.refl _ _) hBw⟩
    case round =>
      clear hM hs
      obtain ⟨j, f1, s1, hj, rfl, hf1, hs1, HR, hM1, hR1⟩ := hrel
      by_cases hlt : j < n
      · have hpos : 0 < (L.drop j).len := by rw [Cms.drop_len, ← hn.out]; omega
        obtain ⟨k, a, b, t, i, body, els, r, eL⟩ := Cms.cons_of_len hpos
        obtain ⟨bl, o, rfl, -, -, hAt⟩ := (hV.out.belowB hR1.below hhi) (by rw [← hn.out]; omega)
        have hD := hAt.drop j
        have hSm := Cms.small_drop j hsm.out
        have hZ := Cms.sz_drop j L
        have hDs := Cms.drop_succ j L eL
        have hshj := Cms.shape_drop j hsh.out
        have HR' := HR.out
        rw [eL] at hD hSm hZ HR' hshj
        obtain ⟨⟨p0, p1, p2, p3, p4, p5⟩, ⟨A6, c6, p6, g6⟩, ⟨A7, c7, p7, g7⟩, ⟨A8, c8, p8, g8⟩, ⟨A9, c9, p9, g9⟩, -⟩ := hD
        obtain ⟨s1', s2', s3, s4, s5, s6, -⟩ := hSm
        simp only [Cms.sz] at hZ
        have hbs : body.sz < N := by have := hsz.out; omega
        have hes : els.sz < N := by have := hsz.out; omega
        have gB : CmsV wr lo hi A8 body := g8
        have gE : CmsV wr lo hi A9 els := g9
        rw [Cms.shape] at hshj
        simp only [Bool.and_eq_true] at hshj
        obtain ⟨-, hfv, hsb, hse, -⟩ := hshj
        have hIB := IH.out body hbs A8 c8 (d - 1) lo hi B g s3 s5 hsb hhi
        have hIE := IH.out els hes A9 c9 (d - 1) lo hi B g s4 s6 hse hhi
        have hcmd := c_impl_command (lo := lo) (hi := hi) (wr.alloc (.cells #[.int .i64 k, .int .i64 a, .int .i64 b, .bool t.eq, .int .i64 t.a, .int .i64 t.b, .slice A6 i.facts.length c6, .slice A7 i.atoms.length c7, .slice A8 body.len c8, .slice A9 els.len c9] tC)) B g s1 f1 k a b t i (.slice A6 i.facts.length c6) (.slice A7 i.atoms.length c7) A8 A9 c8 c9 body els (hM1.out.below bel) hs1.out hf1 hfv (gB.below bel) (gE.below bel) hhi hIB hIE
        have hok := cmdF_ok (Cms.run_ok body) (Cms.run_ok els) k a b t s1 f1 hs1.out
        rw [Cms.run, ← hDs] at HR'
        obtain ⟨P, hP⟩ : ∃ P, P = cmdF k a b t body.run els.run s1 f1 := ⟨_, rfl⟩
        rw [← hP] at hcmd hok HR'
        obtain ⟨s2, c2, f2⟩ := P
        obtain ⟨hk1, hk2, hk3, hk4⟩ := hok
        simp only at hk1 hk2 hk3 hk4 HR' hcmd
        replace hcmd := Lib.hid hcmd
        replace HR' := Lib.hid HR'
        replace hk1 := Lib.hid hk1
        clear hZ hpos hAt g6 g7 g8 g9 HR hDs eL hfv hsb hse hIB hIE gB gE hP hM1 s1' s2' s5 s6
        go_wp2_with fail
        refine hcmd.out.mono ?_
        rintro e w2 ⟨rfl, hM2, hB2⟩
        have hR2 : Rf B w w2 := (hR1.alloc hBw _).trans hB2
        replace hM2 := Lib.hid hM2
        clear hcmd p0 p1 p2 p3 p4 p5 p6 p7 p8 p9 hB2
        by_cases hc : c2 = 0
        · have HL4 := HR'.out
          rw [if_neg (by omega)] at HL4
          replace HL4 := Lib.hid HL4
          clear HR'
          go_wp2_with fail
          go_round
          case rel => exact ⟨j + 1, f2, s2, by omega, by go_num, by omega, hk1, HL4, hM2, hR2⟩
          case measure => simp [intOf]; omega
        · have HL4 := HR'.out
          rw [if_pos hc] at HL4
          replace HL4 := Lib.hid HL4
          have hcb : (c2 != 0) = true := by simpa using hc
          clear HR'
          go_wp2_with fail
          go_ret
          rw [HL4.out]
          exact ⟨rfl, hM2.out, hR2⟩
      · go_wp2_with fail
        go_ret
        obtain rfl : j = n := by omega
        have e1 : L.drop j = .nil := by rw [hn.out]; exact Cms.drop_all L
        have h2 := HR.out
        rw [e1] at h2
        rw [h2]
        exact ⟨rfl, hM1.out, hR1⟩
--@
end Go.Proofs.YteogcababfenfaaGreat
