/- Contracts: impl's framed contracts. -/
import Derived.Test.YtmjgcdolnkdfoaaFrame
import Derived.Test.YtmjgcdolnkdfoaaCtr
import Derived.Test.YtmjgcdolnkdfoaaAlloc
import Derived.Deep.RegionHeld3
import Derived.Deep.DrawnRows
set_option linter.unusedSimpArgs false
set_option linter.unusedVariables false
namespace Go.Proofs.Ytmjgcdolnkdfoaa
open Go Go.RowKit Go.Proofs
attribute [local go_sem ↓] Go.wp_at_zero Go.wp_at_succ

def frameC (k : Ctr) (f : Asn) : Option Ctr := if k.valid && f.valid && disjB (tset (termsL f)) (tset k.changes) then (starF k.pre f).bind fun p => (starF k.post f).map fun q => ⟨p, q, k.changes⟩ else none

theorem AsnI.set5 {w : World} {lo hi : Nat} {v : Value} {x : Asn} (h : AsnI w lo hi v x) {g : Nat} {t : TypeId} {cs : Array Value} (hk : Blk w g t cs) (h1 : t ≠ tF) (h2 : t ≠ tA) (v0 v1 v2 v3 v4 : Value) :
    AsnI (((((w.setCell ⟨g, 0, none⟩ v0).setCell ⟨g, 1, none⟩ v1).setCell ⟨g, 2, none⟩ v2).setCell ⟨g, 3, none⟩ v3).setCell ⟨g, 4, none⟩ v4) lo hi v x :=
  ((((h.setT hk h1 h2 0 v0).setT (hk.set_ 0 v0) h1 h2 1 v1).setT ((hk.set_ 0 v0).set_ 1 v1) h1 h2 2 v2).setT (((hk.set_ 0 v0).set_ 1 v1).set_ 2 v2) h1 h2 3 v3).setT ((((hk.set_ 0 v0).set_ 1 v1).set_ 2 v2).set_ 3 v3) h1 h2 4 v4
theorem IntsI.set5 {w : World} {lo hi : Nat} {v : Value} {x : List Int} (h : IntsI w lo hi v x) {g : Nat} {t : TypeId} {cs : Array Value} (hk : Blk w g t cs) (h1 : t ≠ tI) (v0 v1 v2 v3 v4 : Value) :
    IntsI (((((w.setCell ⟨g, 0, none⟩ v0).setCell ⟨g, 1, none⟩ v1).setCell ⟨g, 2, none⟩ v2).setCell ⟨g, 3, none⟩ v3).setCell ⟨g, 4, none⟩ v4) lo hi v x :=
  ((((h.setT hk h1 0 v0).setT (hk.set_ 0 v0) h1 1 v1).setT ((hk.set_ 0 v0).set_ 1 v1) h1 2 v2).setT (((hk.set_ 0 v0).set_ 1 v1).set_ 2 v2) h1 3 v3).setT ((((hk.set_ 0 v0).set_ 1 v1).set_ 2 v2).set_ 3 v3) h1 4 v4
theorem below_set5 {w w0 : World} {B g : Nat} (h : Below B w0 w) (hg : B ≤ g) (v0 v1 v2 v3 v4 : Value) :
    Below B w0 (((((w.setCell ⟨g, 0, none⟩ v0).setCell ⟨g, 1, none⟩ v1).setCell ⟨g, 2, none⟩ v2).setCell ⟨g, 3, none⟩ v3).setCell ⟨g, 4, none⟩ v4) :=
  ((((h.setCell (p := ⟨g, 0, none⟩) hg v0).setCell (p := ⟨g, 1, none⟩) hg v1).setCell (p := ⟨g, 2, none⟩) hg v2).setCell (p := ⟨g, 3, none⟩) hg v3).setCell (p := ⟨g, 4, none⟩) hg v4

--@ impl.FrameContract
set_option maxRecDepth 100000 in
set_option maxHeartbeats 25600000 in
theorem c_impl_FrameContract {lo hi lo' hi' : Nat} (v v' : Value) (k : Ctr) (f : Asn) (w : World) (h : CtrV w lo hi v k) (h' : AsnV w lo' hi' v' f) :
    Calls Try.prog 41 #[v, v'] w fun e w' => ∃ r, e = .returned (.tuple #[r, .bool (frameC k f).isSome]) ∧ CtrI w' w.heap.size w'.heap.size r ((frameC k f).getD ctr0) ∧ Below w.heap.size w w' := by
  have hV := Lib.hid h
  have hV' := Lib.hid h'
  obtain ⟨a1, a2, a3, a4, A5, c5, rfl, g1, g2, g3⟩ := h
  obtain ⟨B1, d1, B2, d2, rfl, m1, m2⟩ := h'
  have G1 := Lib.hid g1
  have G2 := Lib.hid g2
  have G3 := Lib.hid g3
  have HLC := Lib.hid g3.le
  clear g1 g2 g3 m1 m2
  have HF : Hid (frameC k f = if k.valid && f.valid && disjB (tset (termsL f)) (tset k.changes) then (starF k.pre f).bind fun p => (starF k.post f).map fun q => ⟨p, q, k.changes⟩ else none) := rfl
  have HUU := Lib.hid (u16_and_nat (tset k.changes) (tset (termsL f)) (by have := tset_lt k.changes; omega) (by have := tset_lt (termsL f); omega))
  have HD := Lib.hid (disjB_iff (T := tset (termsL f)) (C := tset k.changes) (tset_lt _))
  go_enter Try.func41, Try.ntmps41
  obtain ⟨k0, k1, k2⟩ := blk3 w 62 26 62 #[a1, a2, a3, a4, .slice A5 k.changes.length c5] #[.slice B1 f.facts.length d1, .slice B2 f.atoms.length d2] #[.slice none 0 0, .slice none 0 0, .slice none 0 0, .slice none 0 0, .slice none 0 0]
  go_wp2_with fail
  refine wp_region_noPanic ?_
  refine wp_region_held_drew (S := (fun w' => (∀ i, w'.cell? ⟨w.heap.size, i, none⟩ = #[a1, a2, a3, a4, .slice A5 k.changes.length c5][i]?) ∧ (∀ i, w'.cell? ⟨w.heap.size + 1, i, none⟩ = #[.slice B1 f.facts.length d1, .slice B2 f.atoms.length d2][i]?))) (by kernel_rfl) (⟨Blk.cell blks, Blk.cell blks⟩) (fun hHeld => ?_)
  refine wpAnyH_take (i := 0) (v := ?_) rfl (by kernel_rfl) (by kernel_rfl) (by kernel_rfl) (fun _ _ _ h => h) (Or.inl ⟨by rfl, fun w hSw => ?_⟩) hHeld ?_
  rotate_left
  · ((try dsimp only at hSw); go_split_ands; go_simp; (try with_reducible rfl))
  try simp only [Act.put, List.getElem_toArray, List.getElem_cons_zero, List.getElem_cons_succ, List.setIfInBounds_toArray, List.set_cons_zero, List.set_cons_succ]
  refine wpAnyH_ready (rs := [1]) (by kernel_rfl) (by simp) ?_
  refine AllReadyH.cons rfl (fun K hK => ?_) AllReadyH.nil
  try simp only [List.getElem_toArray, List.getElem_cons_zero, List.getElem_cons_succ]
  (go_simp; refine (c_impl_ContractValid _ k _ (hV.out.below bel)).mono ?_; rintro e w1 ⟨rfl, hB1⟩; have hB := bgo (w := w) bel hB1; replace k0 := Blk.next (g := w.heap.size) blks hB1; replace k1 := Blk.next (g := w.heap.size + 1) blks hB1; replace k2 := Blk.next (g := w.heap.size + 1 + 1) blks hB1)
  refine hK.out _ _ (⟨Blk.cell blks, Blk.cell blks⟩) (fun hHeldN => ?_)
  clear hHeld hK K
  have hHeld := hHeldN
  clear hHeldN
  try simp only [Act.put, List.getElem_toArray, List.getElem_cons_zero, List.getElem_cons_succ, List.setIfInBounds_toArray, List.set_cons_zero, List.set_cons_succ]
  clear hB1
  cases hk : k.valid
  · have E := Lib.hid (show frameC k f = none by rw [HF.out, hk]; rfl)
    clear hk
    refine wpAnyH_take (i := 2) (v := ?_) rfl (by kernel_rfl) (by kernel_rfl) (by kernel_rfl) (fun _ _ _ h => h) (Or.inl ⟨by rfl, fun w hSw => ?_⟩) hHeld ?_
    rotate_left
    · ((try dsimp only at hSw); go_split_ands; go_simp; (try with_reducible rfl))
    try simp only [Act.put, List.getElem_toArray, List.getElem_cons_zero, List.getElem_cons_succ, List.setIfInBounds_toArray, List.set_cons_zero, List.set_cons_succ]
    refine wpAnyH_take (i := 3) (v := ?_) rfl (by kernel_rfl) (by kernel_rfl) (by kernel_rfl) (fun _ _ _ h => h) (Or.inl ⟨by rfl, fun w hSw => ?_⟩) hHeld ?_
    rotate_left
    · ((try dsimp only at hSw); go_split_ands; go_simp; (try with_reducible rfl))
    try simp only [Act.put, List.getElem_toArray, List.getElem_cons_zero, List.getElem_cons_succ, List.setIfInBounds_toArray, List.set_cons_zero, List.set_cons_succ]
    refine wpAnyH_take (i := 4) (v := undef) rfl (by kernel_rfl) (by kernel_rfl) (by kernel_rfl) (fun _ _ _ h => h) (Or.inr ⟨by rfl, rfl⟩) hHeld ?_
    try simp only [Act.put, List.getElem_toArray, List.getElem_cons_zero, List.getElem_cons_succ, List.setIfInBounds_toArray, List.set_cons_zero, List.set_cons_succ]
    refine wpAnyH_take (i := 5) (v := undef) rfl (by kernel_rfl) (by kernel_rfl) (by kernel_rfl) (fun _ _ _ h => h) (Or.inr ⟨by rfl, rfl⟩) hHeld ?_
    try simp only [Act.put, List.getElem_toArray, List.getElem_cons_zero, List.getElem_cons_succ, List.setIfInBounds_toArray, List.set_cons_zero, List.set_cons_succ]
    refine wpAnyH_take (i := 6) (v := undef) rfl (by kernel_rfl) (by kernel_rfl) (by kernel_rfl) (fun _ _ _ h => h) (Or.inr ⟨by rfl, rfl⟩) hHeld ?_
    try simp only [Act.put, List.getElem_toArray, List.getElem_cons_zero, List.getElem_cons_succ, List.setIfInBounds_toArray, List.set_cons_zero, List.set_cons_succ]
    refine wpAnyH_take (i := 7) (v := ?_) rfl (by kernel_rfl) (by kernel_rfl) (by kernel_rfl) (fun _ _ _ h => h) (Or.inl ⟨by rfl, fun w hSw => ?_⟩) hHeld ?_
    rotate_left
    · ((try dsimp only at hSw); go_split_ands; go_simp; (try with_reducible rfl))
    try simp only [Act.put, List.getElem_toArray, List.getElem_cons_zero, List.getElem_cons_succ, List.setIfInBounds_toArray, List.set_cons_zero, List.set_cons_succ]
    refine wpAnyH_take (i := 8) (v := ?_) rfl (by kernel_rfl) (by kernel_rfl) (by kernel_rfl) (fun _ _ _ h => h) (Or.inl ⟨by rfl, fun w hSw => ?_⟩) hHeld ?_
    rotate_left
    · ((try dsimp only at hSw); go_split_ands; go_simp; (try with_reducible rfl))
    try simp only [Act.put, List.getElem_toArray, List.getElem_cons_zero, List.getElem_cons_succ, List.setIfInBounds_toArray, List.set_cons_zero, List.set_cons_succ]
    refine wpAnyH_take (i := 9) (v := undef) rfl (by kernel_rfl) (by kernel_rfl) (by kernel_rfl) (fun _ _ _ h => h) (Or.inr ⟨by rfl, rfl⟩) hHeld ?_
    try simp only [Act.put, List.getElem_toArray, List.getElem_cons_zero, List.getElem_cons_succ, List.setIfInBounds_toArray, List.set_cons_zero, List.set_cons_succ]
    refine wpAnyH_take (i := 10) (v := undef) rfl (by kernel_rfl) (by kernel_rfl) (by kernel_rfl) (fun _ _ _ h => h) (Or.inr ⟨by rfl, rfl⟩) hHeld ?_
    try simp only [Act.put, List.getElem_toArray, List.getElem_cons_zero, List.getElem_cons_succ, List.setIfInBounds_toArray, List.set_cons_zero, List.set_cons_succ]
    refine wpAnyH_take (i := 11) (v := undef) rfl (by kernel_rfl) (by kernel_rfl) (by kernel_rfl) (fun _ _ _ h => h) (Or.inr ⟨by rfl, rfl⟩) hHeld ?_
    try simp only [Act.put, List.getElem_toArray, List.getElem_cons_zero, List.getElem_cons_succ, List.setIfInBounds_toArray, List.set_cons_zero, List.set_cons_succ]
    refine wpAnyH_take (i := 12) (v := undef) rfl (by kernel_rfl) (by kernel_rfl) (by kernel_rfl) (fun _ _ _ h => h) (Or.inr ⟨by rfl, rfl⟩) hHeld ?_
    try simp only [Act.put, List.getElem_toArray, List.getElem_cons_zero, List.getElem_cons_succ, List.setIfInBounds_toArray, List.set_cons_zero, List.set_cons_succ]
    refine wpAnyH_take (i := 13) (v := undef) rfl (by kernel_rfl) (by kernel_rfl) (by kernel_rfl) (fun _ _ _ h => h) (Or.inr ⟨by rfl, rfl⟩) hHeld ?_
    try simp only [Act.put, List.getElem_toArray, List.getElem_cons_zero, List.getElem_cons_succ, List.setIfInBounds_toArray, List.set_cons_zero, List.set_cons_succ]
    refine wpAnyH_take (i := 14) (v := undef) rfl (by kernel_rfl) (by kernel_rfl) (by kernel_rfl) (fun _ _ _ h => h) (Or.inr ⟨by rfl, rfl⟩) hHeld ?_
    try simp only [Act.put, List.getElem_toArray, List.getElem_cons_zero, List.getElem_cons_succ, List.setIfInBounds_toArray, List.set_cons_zero, List.set_cons_succ]
    refine wpAnyH_take (i := 15) (v := undef) rfl (by kernel_rfl) (by kernel_rfl) (by kernel_rfl) (fun _ _ _ h => h) (Or.inr ⟨by rfl, rfl⟩) hHeld ?_
    try simp only [Act.put, List.getElem_toArray, List.getElem_cons_zero, List.getElem_cons_succ, List.setIfInBounds_toArray, List.set_cons_zero, List.set_cons_succ]
    refine wpAnyH_take (i := 16) (v := ?_) rfl (by kernel_rfl) (by kernel_rfl) (by kernel_rfl) (fun _ _ _ h => h) (Or.inl ⟨by rfl, fun w hSw => ?_⟩) hHeld ?_
    rotate_left
    · ((try dsimp only at hSw); go_split_ands; go_simp; (try with_reducible rfl))
    try simp only [Act.put, List.getElem_toArray, List.getElem_cons_zero, List.getElem_cons_succ, List.setIfInBounds_toArray, List.set_cons_zero, List.set_cons_succ]
    refine wpAnyH_done (by kernel_rfl) ?_ _
    (replace qk2 := k2.cell; replace rk2 := k2.frozen; replace lk2 := k2.lt)
    refine NoPanic.normal ?_
    go_wp2_with fail
    refine bodyPost_ret (v := .tuple #[.agg #[.slice none 0 0, .slice none 0 0, .slice none 0 0, .slice none 0 0, .slice none 0 0], .bool false]) (by simp [results, Try.results41, go_sem, qk2]) rfl ⟨_, by rw [E.out]; rfl, by rw [E.out]; exact CtrI.zero (by first | exact hB.size | (simp; exact hB.size)) (Nat.le_refl _), bel⟩
  have HK := Lib.hid hk
  clear hk
  refine wpAnyH_take (i := 2) (v := ?_) rfl (by kernel_rfl) (by kernel_rfl) (by kernel_rfl) (fun _ _ _ h => h) (Or.inl ⟨by rfl, fun w hSw => ?_⟩) hHeld ?_
  rotate_left
  · ((try dsimp only at hSw); go_split_ands; go_simp; (try with_reducible rfl))
  try simp only [Act.put, List.getElem_toArray, List.getElem_cons_zero, List.getElem_cons_succ, List.setIfInBounds_toArray, List.set_cons_zero, List.set_cons_succ]
  refine wpAnyH_take (i := 3) (v := ?_) rfl (by kernel_rfl) (by kernel_rfl) (by kernel_rfl) (fun _ _ _ h => h) (Or.inl ⟨by rfl, fun w hSw => ?_⟩) hHeld ?_
  rotate_left
  · ((try dsimp only at hSw); go_split_ands; go_simp; (try with_reducible rfl))
  try simp only [Act.put, List.getElem_toArray, List.getElem_cons_zero, List.getElem_cons_succ, List.setIfInBounds_toArray, List.set_cons_zero, List.set_cons_succ]
  refine wpAnyH_take (i := 4) (v := ?_) rfl (by kernel_rfl) (by kernel_rfl) (by kernel_rfl) (fun _ _ _ h => h) (Or.inl ⟨by rfl, fun w hSw => ?_⟩) hHeld ?_
  rotate_left
  · ((try dsimp only at hSw); go_split_ands; go_simp; (try with_reducible rfl))
  try simp only [Act.put, List.getElem_toArray, List.getElem_cons_zero, List.getElem_cons_succ, List.setIfInBounds_toArray, List.set_cons_zero, List.set_cons_succ]
  refine wpAnyH_ready (rs := [5]) (by kernel_rfl) (by simp) ?_
  refine AllReadyH.cons rfl (fun K hK => ?_) AllReadyH.nil
  try simp only [List.getElem_toArray, List.getElem_cons_zero, List.getElem_cons_succ]
  (go_simp; refine (c_impl_AssertionValid _ f _ (hV'.out.below bel)).mono ?_; rintro e w2 ⟨rfl, hB2⟩; (replace hB := bgo hB hB2; replace k0 := k0.next hB2; replace k1 := k1.next hB2; replace k2 := k2.next hB2))
  refine hK.out _ _ (⟨Blk.cell blks, Blk.cell blks⟩) (fun hHeldN => ?_)
  clear hHeld hK K
  have hHeld := hHeldN
  clear hHeldN
  try simp only [Act.put, List.getElem_toArray, List.getElem_cons_zero, List.getElem_cons_succ, List.setIfInBounds_toArray, List.set_cons_zero, List.set_cons_succ]
  clear hB2
  cases hf : f.valid
  · have E := Lib.hid (show frameC k f = none by rw [HF.out, HK.out, hf]; rfl)
    clear hf
    refine wpAnyH_take (i := 6) (v := ?_) rfl (by kernel_rfl) (by kernel_rfl) (by kernel_rfl) (fun _ _ _ h => h) (Or.inl ⟨by rfl, fun w hSw => ?_⟩) hHeld ?_
    rotate_left
    · ((try dsimp only at hSw); go_split_ands; go_simp; (try with_reducible rfl))
    try simp only [Act.put, List.getElem_toArray, List.getElem_cons_zero, List.getElem_cons_succ, List.setIfInBounds_toArray, List.set_cons_zero, List.set_cons_succ]
    refine wpAnyH_take (i := 7) (v := ?_) rfl (by kernel_rfl) (by kernel_rfl) (by kernel_rfl) (fun _ _ _ h => h) (Or.inl ⟨by rfl, fun w hSw => ?_⟩) hHeld ?_
    rotate_left
    · ((try dsimp only at hSw); go_split_ands; go_simp; (try with_reducible rfl))
    try simp only [Act.put, List.getElem_toArray, List.getElem_cons_zero, List.getElem_cons_succ, List.setIfInBounds_toArray, List.set_cons_zero, List.set_cons_succ]
    refine wpAnyH_take (i := 8) (v := ?_) rfl (by kernel_rfl) (by kernel_rfl) (by kernel_rfl) (fun _ _ _ h => h) (Or.inl ⟨by rfl, fun w hSw => ?_⟩) hHeld ?_
    rotate_left
    · ((try dsimp only at hSw); go_split_ands; go_simp; (try with_reducible rfl))
    try simp only [Act.put, List.getElem_toArray, List.getElem_cons_zero, List.getElem_cons_succ, List.setIfInBounds_toArray, List.set_cons_zero, List.set_cons_succ]
    refine wpAnyH_take (i := 9) (v := undef) rfl (by kernel_rfl) (by kernel_rfl) (by kernel_rfl) (fun _ _ _ h => h) (Or.inr ⟨by rfl, rfl⟩) hHeld ?_
    try simp only [Act.put, List.getElem_toArray, List.getElem_cons_zero, List.getElem_cons_succ, List.setIfInBounds_toArray, List.set_cons_zero, List.set_cons_succ]
    refine wpAnyH_take (i := 10) (v := undef) rfl (by kernel_rfl) (by kernel_rfl) (by kernel_rfl) (fun _ _ _ h => h) (Or.inr ⟨by rfl, rfl⟩) hHeld ?_
    try simp only [Act.put, List.getElem_toArray, List.getElem_cons_zero, List.getElem_cons_succ, List.setIfInBounds_toArray, List.set_cons_zero, List.set_cons_succ]
    refine wpAnyH_take (i := 11) (v := undef) rfl (by kernel_rfl) (by kernel_rfl) (by kernel_rfl) (fun _ _ _ h => h) (Or.inr ⟨by rfl, rfl⟩) hHeld ?_
    try simp only [Act.put, List.getElem_toArray, List.getElem_cons_zero, List.getElem_cons_succ, List.setIfInBounds_toArray, List.set_cons_zero, List.set_cons_succ]
    refine wpAnyH_take (i := 12) (v := undef) rfl (by kernel_rfl) (by kernel_rfl) (by kernel_rfl) (fun _ _ _ h => h) (Or.inr ⟨by rfl, rfl⟩) hHeld ?_
    try simp only [Act.put, List.getElem_toArray, List.getElem_cons_zero, List.getElem_cons_succ, List.setIfInBounds_toArray, List.set_cons_zero, List.set_cons_succ]
    refine wpAnyH_take (i := 13) (v := undef) rfl (by kernel_rfl) (by kernel_rfl) (by kernel_rfl) (fun _ _ _ h => h) (Or.inr ⟨by rfl, rfl⟩) hHeld ?_
    try simp only [Act.put, List.getElem_toArray, List.getElem_cons_zero, List.getElem_cons_succ, List.setIfInBounds_toArray, List.set_cons_zero, List.set_cons_succ]
    refine wpAnyH_take (i := 14) (v := undef) rfl (by kernel_rfl) (by kernel_rfl) (by kernel_rfl) (fun _ _ _ h => h) (Or.inr ⟨by rfl, rfl⟩) hHeld ?_
    try simp only [Act.put, List.getElem_toArray, List.getElem_cons_zero, List.getElem_cons_succ, List.setIfInBounds_toArray, List.set_cons_zero, List.set_cons_succ]
    refine wpAnyH_take (i := 15) (v := undef) rfl (by kernel_rfl) (by kernel_rfl) (by kernel_rfl) (fun _ _ _ h => h) (Or.inr ⟨by rfl, rfl⟩) hHeld ?_
    try simp only [Act.put, List.getElem_toArray, List.getElem_cons_zero, List.getElem_cons_succ, List.setIfInBounds_toArray, List.set_cons_zero, List.set_cons_succ]
    refine wpAnyH_take (i := 16) (v := ?_) rfl (by kernel_rfl) (by kernel_rfl) (by kernel_rfl) (fun _ _ _ h => h) (Or.inl ⟨by rfl, fun w hSw => ?_⟩) hHeld ?_
    rotate_left
    · ((try dsimp only at hSw); go_split_ands; go_simp; (try with_reducible rfl))
    try simp only [Act.put, List.getElem_toArray, List.getElem_cons_zero, List.getElem_cons_succ, List.setIfInBounds_toArray, List.set_cons_zero, List.set_cons_succ]
    refine wpAnyH_done (by kernel_rfl) ?_ _
    (replace qk2 := k2.cell; replace rk2 := k2.frozen; replace lk2 := k2.lt)
    refine NoPanic.normal ?_
    go_wp2_with fail
    refine bodyPost_ret (v := .tuple #[.agg #[.slice none 0 0, .slice none 0 0, .slice none 0 0, .slice none 0 0, .slice none 0 0], .bool false]) (by simp [results, Try.results41, go_sem, qk2]) rfl ⟨_, by rw [E.out]; rfl, by rw [E.out]; exact CtrI.zero (by first | exact hB.size | (simp; exact hB.size)) (Nat.le_refl _), bel⟩
  have HFv := Lib.hid hf
  clear hf
  refine wpAnyH_take (i := 6) (v := ?_) rfl (by kernel_rfl) (by kernel_rfl) (by kernel_rfl) (fun _ _ _ h => h) (Or.inl ⟨by rfl, fun w hSw => ?_⟩) hHeld ?_
  rotate_left
  · ((try dsimp only at hSw); go_split_ands; go_simp; (try with_reducible rfl))
  try simp only [Act.put, List.getElem_toArray, List.getElem_cons_zero, List.getElem_cons_succ, List.setIfInBounds_toArray, List.set_cons_zero, List.set_cons_succ]
  refine wpAnyH_take (i := 7) (v := ?_) rfl (by kernel_rfl) (by kernel_rfl) (by kernel_rfl) (fun _ _ _ h => h) (Or.inl ⟨by rfl, fun w hSw => ?_⟩) hHeld ?_
  rotate_left
  · ((try dsimp only at hSw); go_split_ands; go_simp; (try with_reducible rfl))
  try simp only [Act.put, List.getElem_toArray, List.getElem_cons_zero, List.getElem_cons_succ, List.setIfInBounds_toArray, List.set_cons_zero, List.set_cons_succ]
  refine wpAnyH_take (i := 8) (v := ?_) rfl (by kernel_rfl) (by kernel_rfl) (by kernel_rfl) (fun _ _ _ h => h) (Or.inl ⟨by rfl, fun w hSw => ?_⟩) hHeld ?_
  rotate_left
  · ((try dsimp only at hSw); go_split_ands; go_simp; (try with_reducible rfl))
  try simp only [Act.put, List.getElem_toArray, List.getElem_cons_zero, List.getElem_cons_succ, List.setIfInBounds_toArray, List.set_cons_zero, List.set_cons_succ]
  refine wpAnyH_take (i := 9) (v := ?_) rfl (by kernel_rfl) (by kernel_rfl) (by kernel_rfl) (fun _ _ _ h => h) (Or.inl ⟨by rfl, fun w hSw => ?_⟩) hHeld ?_
  rotate_left
  · ((try dsimp only at hSw); go_split_ands; go_simp; (try with_reducible rfl))
  try simp only [Act.put, List.getElem_toArray, List.getElem_cons_zero, List.getElem_cons_succ, List.setIfInBounds_toArray, List.set_cons_zero, List.set_cons_succ]
  refine wpAnyH_take (i := 10) (v := ?_) rfl (by kernel_rfl) (by kernel_rfl) (by kernel_rfl) (fun _ _ _ h => h) (Or.inl ⟨by rfl, fun w hSw => ?_⟩) hHeld ?_
  rotate_left
  · ((try dsimp only at hSw); go_split_ands; go_simp; (try with_reducible rfl))
  try simp only [Act.put, List.getElem_toArray, List.getElem_cons_zero, List.getElem_cons_succ, List.setIfInBounds_toArray, List.set_cons_zero, List.set_cons_succ]
  refine wpAnyH_take (i := 12) (v := ?_) rfl (by kernel_rfl) (by kernel_rfl) (by kernel_rfl) (fun _ _ _ h => h) (Or.inl ⟨by rfl, fun w hSw => ?_⟩) hHeld ?_
  rotate_left
  · ((try dsimp only at hSw); go_split_ands; go_simp; (try with_reducible rfl))
  try simp only [Act.put, List.getElem_toArray, List.getElem_cons_zero, List.getElem_cons_succ, List.setIfInBounds_toArray, List.set_cons_zero, List.set_cons_succ]
  refine wpAnyH_ready (rs := [11]) (by kernel_rfl) (by simp) ?_
  refine AllReadyH.cons rfl (fun K hK => ?_) AllReadyH.nil
  try simp only [List.getElem_toArray, List.getElem_cons_zero, List.getElem_cons_succ]
  (go_simp; refine (c_impl_setOfTerms _ _ k.changes _ (G3.out.below bel)).mono ?_; rintro e w3 ⟨rfl, hB3⟩; (replace hB := bgo hB hB3; replace k0 := k0.next hB3; replace k1 := k1.next hB3; replace k2 := k2.next hB3))
  refine hK.out _ _ (⟨Blk.cell blks, Blk.cell blks⟩) (fun hHeldN => ?_)
  clear hHeld hK K
  have hHeld := hHeldN
  clear hHeldN
  try simp only [Act.put, List.getElem_toArray, List.getElem_cons_zero, List.getElem_cons_succ, List.setIfInBounds_toArray, List.set_cons_zero, List.set_cons_succ]
  refine wpAnyH_ready (rs := [13]) (by kernel_rfl) (by simp) ?_
  refine AllReadyH.cons rfl (fun K hK => ?_) AllReadyH.nil
  try simp only [List.getElem_toArray, List.getElem_cons_zero, List.getElem_cons_succ]
  (go_simp; refine (c_impl_termsIn _ f _ (hV'.out.below bel)).mono ?_; rintro e w4 ⟨rfl, hB4⟩; (replace hB := bgo hB hB4; replace k0 := k0.next hB4; replace k1 := k1.next hB4; replace k2 := k2.next hB4))
  refine hK.out _ _ (⟨Blk.cell blks, Blk.cell blks⟩) (fun hHeldN => ?_)
  clear hHeld hK K
  have hHeld := hHeldN
  clear hHeldN
  try simp only [Act.put, List.getElem_toArray, List.getElem_cons_zero, List.getElem_cons_succ, List.setIfInBounds_toArray, List.set_cons_zero, List.set_cons_succ]
  clear hB3 hB4
  have hU := HUU.out
  refine wpAnyH_take (i := 14) (v := ?_) rfl (by kernel_rfl) (by kernel_rfl) (by kernel_rfl) (fun _ _ _ h => h) (Or.inl ⟨by rfl, fun w hSw => ?_⟩) hHeld ?_
  rotate_left
  · ((try dsimp only at hSw); go_split_ands; go_simp; (try with_reducible rfl))
  try simp only [Act.put, List.getElem_toArray, List.getElem_cons_zero, List.getElem_cons_succ, List.setIfInBounds_toArray, List.set_cons_zero, List.set_cons_succ]
  clear hU
  refine wpAnyH_take (i := 15) (v := ?_) rfl (by kernel_rfl) (by kernel_rfl) (by kernel_rfl) (fun _ _ _ h => h) (Or.inl ⟨by rfl, fun w hSw => ?_⟩) hHeld ?_
  rotate_left
  · ((try dsimp only at hSw); go_split_ands; go_simp; (try with_reducible rfl))
  try simp only [Act.put, List.getElem_toArray, List.getElem_cons_zero, List.getElem_cons_succ, List.setIfInBounds_toArray, List.set_cons_zero, List.set_cons_succ]
  refine wpAnyH_take (i := 16) (v := ?_) rfl (by kernel_rfl) (by kernel_rfl) (by kernel_rfl) (fun _ _ _ h => h) (Or.inl ⟨by rfl, fun w hSw => ?_⟩) hHeld ?_
  rotate_left
  · ((try dsimp only at hSw); go_split_ands; go_simp; (try with_reducible rfl))
  try simp only [Act.put, List.getElem_toArray, List.getElem_cons_zero, List.getElem_cons_succ, List.setIfInBounds_toArray, List.set_cons_zero, List.set_cons_succ]
  refine wpAnyH_done (by kernel_rfl) ?_ _
  (replace qk0 := k0.cell; replace rk0 := k0.frozen; replace lk0 := k0.lt; replace qk1 := k1.cell; replace rk1 := k1.frozen; replace lk1 := k1.lt; replace qk2 := k2.cell; replace rk2 := k2.frozen; replace lk2 := k2.lt)
  refine NoPanic.normal ?_
  clear hHeld
  have HE : Hid ((((tset k.changes &&& tset (termsL f) : Nat) : Int) != 0) = !disjB (tset (termsL f)) (tset k.changes)) := by
    show _ = _
    cases hd : disjB (tset (termsL f)) (tset k.changes)
    · have : tset k.changes &&& tset (termsL f) ≠ 0 := fun e => by have := HD.out.1 e; rw [hd] at this; cases this
      simp only [Bool.not_false, bne_iff_ne, ne_eq]
      omega
    · have := HD.out.2 hd
      rw [this]; rfl
  rw [HE.out]
  cases hd : disjB (tset (termsL f)) (tset k.changes)
  · have E := Lib.hid (show frameC k f = none by rw [HF.out, HK.out, HFv.out, hd]; rfl)
    clear hd
    go_wp2_with fail
    refine bodyPost_ret (v := .tuple #[.agg #[.slice none 0 0, .slice none 0 0, .slice none 0 0, .slice none 0 0, .slice none 0 0], .bool false]) (by simp [results, Try.results41, go_sem, qk2]) rfl ⟨_, by rw [E.out]; rfl, by rw [E.out]; exact CtrI.zero (by first | exact hB.size | (simp; exact hB.size)) (Nat.le_refl _), bel⟩
  have HQ : Hid (frameC k f = (starF k.pre f).bind fun p => (starF k.post f).map fun q => ⟨p, q, k.changes⟩) := by show _ = _; rw [HF.out, HK.out, HFv.out, hd]; rfl
  clear hd HE HD HF
  have hzw4 := hB.size
  go_wp2_with fail
  refine (c_impl_copyInts A5 c5 k.changes _ (G3.out.below hB)).mono ?_
  rintro e w5 ⟨ri, rfl, oi, hB5⟩
  have Ii := oi.I
  obtain ⟨Ri, di, rfl⟩ := Ii.form
  have z45 := hB5.size
  (replace hB := bgo hB hB5; replace k0 := k0.next hB5; replace k1 := k1.next hB5; replace k2 := k2.next hB5)
  clear hB5 oi qk0 qk1 qk2 rk0 rk1 rk2 lk0 lk1 lk2
  have hbc : Below w5.heap.size w5 (w5.alloc (.cells #[.slice none 0 0, .slice none 0 0, .slice none 0 0, .slice none 0 0, .slice Ri k.changes.length di] 62)) := bbox (Below.refl _ _) _
  have kp : Blk (w5.alloc (.cells #[.slice none 0 0, .slice none 0 0, .slice none 0 0, .slice none 0 0, .slice Ri k.changes.length di] 62)) w5.heap.size 62 #[.slice none 0 0, .slice none 0 0, .slice none 0 0, .slice none 0 0, .slice Ri k.changes.length di] := Blk.new _ _ _
  have k0c := k0.cell
  have k1c := k1.cell
  have l0 := k0.lt
  have l1 := k1.lt
  have hzc := hB.size
  have hz45 : w4.heap.size ≤ w5.heap.size := z45
  have x2 : w.heap.size + 1 + 1 < w5.heap.size := k2.lt
  clear z45
  go_wp2_with fail
  clear k0c k1c
  have HII := Lib.hid (Ii.below hbc)
  have HB5 := Lib.hid (bgo hB hbc)
  have hzV := kp.lt
  replace k0 := k0.next hbc
  replace k1 := k1.next hbc
  replace k2 := k2.next hbc
  clear hbc Ii hB HLC HUU
  generalize (w5.alloc (.cells #[.slice none 0 0, .slice none 0 0, .slice none 0 0, .slice none 0 0, .slice Ri k.changes.length di] 62)) = V at kp k0 k1 k2 HII HB5 hzV ⊢
  generalize w5.heap.size = pr at kp HII hzV hz45 x2 l0 l1 ⊢
  refine (c_impl_Star _ _ k.pre f V (G1.out.below HB5.out) (hV'.out.below HB5.out)).mono ?_
  rintro e w6 ⟨r1, rfl, o1, hB6⟩
  have o1I := o1.I
  have HI1 := Lib.hid o1I
  obtain ⟨R1, e1, R2, e2, rfl⟩ := o1I.form
  clear o1 o1I
  replace kp := kp.next hB6
  replace k0 := k0.next hB6
  replace k1 := k1.next hB6
  replace k2 := k2.next hB6
  replace HII := Lib.hid (HII.out.below hB6)
  have HB6 := Lib.hid (bgo HB5.out hB6)
  have hz6 := hB6.size
  clear hB6 HB5
  have lp6 := kp.lt
  have rp6 := kp.frozen
  have qp6 := kp.cell
  obtain ⟨P1, hP1⟩ : ∃ P, P = (starF k.pre f).getD ⟨[], []⟩ := ⟨_, rfl⟩
  have HP1 := Lib.hid hP1
  rw [← hP1] at HI1 ⊢
  clear hP1
  have kp6 := ((kp.set_ 0 (.slice R1 P1.facts.length e1)).set_ 1 (.slice R2 P1.atoms.length e2))
  simp only [List.setIfInBounds_toArray, List.set_cons_zero, List.set_cons_succ] at kp6
  have HIIs := Lib.hid ((HII.out.setT kp (by decide) 0 (.slice R1 P1.facts.length e1)).setT (kp.set_ 0 _) (by decide) 1 (.slice R2 P1.atoms.length e2))
  have HI1s := Lib.hid ((HI1.out.setT kp (by decide) (by decide) 0 (.slice R1 P1.facts.length e1)).setT (kp.set_ 0 _) (by decide) (by decide) 1 (.slice R2 P1.atoms.length e2))
  have HB6s := Lib.hid ((HB6.out.setCell (p := ⟨pr, 0, none⟩) (by simp only; omega) (.slice R1 P1.facts.length e1)).setCell (p := ⟨pr, 1, none⟩) (by simp only; omega) (.slice R2 P1.atoms.length e2))
  have k0s := (k0.far (p := ⟨pr, 0, none⟩) (by simp only; omega) (.slice R1 P1.facts.length e1)).far (p := ⟨pr, 1, none⟩) (by simp only; omega) (.slice R2 P1.atoms.length e2)
  have k1s := (k1.far (p := ⟨pr, 0, none⟩) (by simp only; omega) (.slice R1 P1.facts.length e1)).far (p := ⟨pr, 1, none⟩) (by simp only; omega) (.slice R2 P1.atoms.length e2)
  have k2s := (k2.far (p := ⟨pr, 0, none⟩) (by simp only; omega) (.slice R1 P1.facts.length e1)).far (p := ⟨pr, 1, none⟩) (by simp only; omega) (.slice R2 P1.atoms.length e2)
  have hzs : w6.heap.size = ((w6.setCell ⟨pr, 0, none⟩ (.slice R1 P1.facts.length e1)).setCell ⟨pr, 1, none⟩ (.slice R2 P1.atoms.length e2)).heap.size := by simp
  have HZS := Lib.hid hzs
  have ne0 : w.heap.size ≠ pr := by omega
  have ne1 : w.heap.size + 1 ≠ pr := by omega
  have ne2 : w.heap.size + 1 + 1 ≠ pr := by omega
  clear hzs
  cases hs1 : starF k.pre f with
  | none =>
    have E := Lib.hid (show frameC k f = none by rw [HQ.out, hs1]; rfl)
    have q2 := k2.cell
    have r2 := k2.frozen
    have l2 := k2.lt
    clear hs1 kp6 k0s k1s k2s
    go_wp2_with fail
    refine bodyPost_ret (v := .tuple #[.agg #[.slice none 0 0, .slice none 0 0, .slice none 0 0, .slice none 0 0, .slice none 0 0], .bool false]) (by simp [results, Try.results41, go_sem, q2, l2]) rfl ⟨_, by rw [E.out]; rfl, by rw [E.out]; exact CtrI.zero (by simp only [World.size_setCell]; omega) (Nat.le_refl _), ?_⟩
    exact below_set5 HB6s.out (by omega) _ _ _ _ _
  | some p1 =>
    have HE1 := Lib.hid (show P1 = p1 by rw [HP1.out, hs1]; rfl)
    have HS1 := Lib.hid hs1
    clear hs1
    have q0 := k0.cell
    have q1 := k1.cell
    have l0' := k0.lt
    have l1' := k1.lt
    go_wp2_with fail
    generalize ((w6.setCell ⟨pr, 0, none⟩ (.slice R1 P1.facts.length e1)).setCell ⟨pr, 1, none⟩ (.slice R2 P1.atoms.length e2)) = V6 at kp6 HIIs HI1s HB6s k0s k1s k2s HZS ⊢
    clear q0 q1 l0' l1' qp6 rp6 lp6 kp k0 k1 k2 HII HI1 HB6
    refine (c_impl_Star _ _ k.post f V6 (G2.out.below HB6s.out) (hV'.out.below HB6s.out)).mono ?_
    rintro e w7 ⟨r2, rfl, o2, hB7⟩
    have o2I := o2.I
    have HI2 := Lib.hid o2I
    obtain ⟨R3, e3, R4, e4, rfl⟩ := o2I.form
    clear o2 o2I
    replace kp6 := kp6.next hB7
    replace k2s := k2s.next hB7
    replace HIIs := Lib.hid (HIIs.out.below hB7)
    replace HI1s := Lib.hid (HI1s.out.below hB7)
    have HB7 := Lib.hid (bgo HB6s.out hB7)
    have hz7 := hB7.size
    have hzs := HZS.out
    clear hB7 HB6s k0s k1s HZS
    have lp7 := kp6.lt
    have rp7 := kp6.frozen
    have qp7 := kp6.cell
    obtain ⟨P2, hP2⟩ : ∃ P, P = (starF k.post f).getD ⟨[], []⟩ := ⟨_, rfl⟩
    have HP2 := Lib.hid hP2
    rw [← hP2] at HI2 ⊢
    clear hP2
    have kp7 := ((kp6.set_ 2 (.slice R3 P2.facts.length e3)).set_ 3 (.slice R4 P2.atoms.length e4))
    simp only [List.setIfInBounds_toArray, List.set_cons_zero, List.set_cons_succ] at kp7
    have HIIt := Lib.hid ((HIIs.out.setT kp6 (by decide) 2 (.slice R3 P2.facts.length e3)).setT (kp6.set_ 2 _) (by decide) 3 (.slice R4 P2.atoms.length e4))
    have HI1t := Lib.hid ((HI1s.out.setT kp6 (by decide) (by decide) 2 (.slice R3 P2.facts.length e3)).setT (kp6.set_ 2 _) (by decide) (by decide) 3 (.slice R4 P2.atoms.length e4))
    have HI2t := Lib.hid ((HI2.out.setT kp6 (by decide) (by decide) 2 (.slice R3 P2.facts.length e3)).setT (kp6.set_ 2 _) (by decide) (by decide) 3 (.slice R4 P2.atoms.length e4))
    have HB7t := Lib.hid ((HB7.out.setCell (p := ⟨pr, 2, none⟩) (by simp only; omega) (.slice R3 P2.facts.length e3)).setCell (p := ⟨pr, 3, none⟩) (by simp only; omega) (.slice R4 P2.atoms.length e4))
    have k2t := (k2s.far (p := ⟨pr, 2, none⟩) (by simp only; omega) (.slice R3 P2.facts.length e3)).far (p := ⟨pr, 3, none⟩) (by simp only; omega) (.slice R4 P2.atoms.length e4)
    have hszt : w7.heap.size ≤ ((w7.setCell ⟨pr, 2, none⟩ (.slice R3 P2.facts.length e3)).setCell ⟨pr, 3, none⟩ (.slice R4 P2.atoms.length e4)).heap.size := by simp
    have HSZT := Lib.hid hszt
    clear hszt
    have q2 := k2s.cell
    have r2 := k2s.frozen
    have l2 := k2s.lt
    cases hs2 : starF k.post f with
    | none =>
      have E := Lib.hid (show frameC k f = none by rw [HQ.out, HS1.out, hs2]; rfl)
      clear hs2 kp7 k2t
      go_wp2_with fail
      refine bodyPost_ret (v := .tuple #[.agg #[.slice none 0 0, .slice none 0 0, .slice none 0 0, .slice none 0 0, .slice none 0 0], .bool false]) (by simp [results, Try.results41, go_sem, q2, l2]) rfl ⟨_, by rw [E.out]; rfl, by rw [E.out]; exact CtrI.zero (by simp only [World.size_setCell]; omega) (Nat.le_refl _), ?_⟩
      exact below_set5 HB7t.out (by omega) _ _ _ _ _
    | some p2 =>
      have E := Lib.hid (show frameC k f = some ⟨P1, P2, k.changes⟩ by rw [HQ.out, HS1.out, hs2, HE1.out, HP2.out, hs2]; rfl)
      clear hs2
      have q7 := kp7.cell
      have ne2' : w.heap.size + 1 + 1 ≠ pr := ne2
      go_wp2_with fail
      refine bodyPost_ret (v := .tuple #[.agg #[.slice R1 P1.facts.length e1, .slice R2 P1.atoms.length e2, .slice R3 P2.facts.length e3, .slice R4 P2.atoms.length e4, .slice Ri k.changes.length di], .bool true]) (by simp [results, Try.results41, go_sem, q2, l2]) rfl ⟨_, by rw [E.out]; rfl, ?_, below_set5 HB7t.out (by omega) _ _ _ _ _⟩
      rw [E.out]
      refine ⟨_, _, _, _, _, V.heap.size, w6.heap.size, V6.heap.size, w7.heap.size, rfl, ?_, ?_, ⟨?_, ?_⟩, ?_⟩
      · exact HI1t.out.set5 k2t (by decide) (by decide) _ _ _ _ _
      · exact HI2t.out.set5 k2t (by decide) (by decide) _ _ _ _ _
      · exact ((HIIt.out.set5 k2t (by decide) _ _ _ _ _).1).lower (by omega)
      · intro g hg
        have := HIIt.out.2 g hg
        simp only [World.size_setCell]
        omega
      · simp only [World.size_setCell]
        omega
end Go.Proofs.Ytmjgcdolnkdfoaa
