/- Exposing cells: the cell of a term moved to the front (impl.exposeCellAt). Printed by genExpB.py. -/
import Derived.Test.YtlmjjflalmegfaaGreatMExpA
import Derived.Deep.DeepCutAuto
import Derived.Test.YtlmjjflalmegfaaGreatMAsnSS
set_option linter.unusedSimpArgs false
set_option linter.unusedVariables false
namespace Go.Proofs.YtlmjjflalmegfaaGreat
open Go Go.RowKit Go.Proofs
attribute [local go_sem ↓] Go.wp_at_zero Go.wp_at_succ

theorem rowC_ {B : Nat} {w w' : World} (h : Below B w w') {g : Nat} (hg : g < B) {cs : Array Value} (hc : ∀ i, w.cell? ⟨g, i, none⟩ = cs[i]?) : ∀ i, w'.cell? ⟨g, i, none⟩ = cs[i]? := fun i => (h.cell (p := ⟨g, i, none⟩) hg).trans (hc i)
/-- the cell of the atom with an index moved to the front, for a term -/
def cellX (a : Asn) (x : Atm) (i : Nat) (t : Int) : Asn := ⟨a.facts ++ (if x.a = t then [] else [⟨true, x.a, t⟩]), ⟨1, t, x.b⟩ :: withoutL a.atoms i⟩
--@ impl.exposeCellAt
set_option maxRecDepth 100000 in
set_option maxHeartbeats 6400000 in
theorem c_impl_exposeCellAt {lo hi0 : Nat} (v : Value) (a : Asn) (i : Nat) (t : Int) (w : World) (h : AsnC w lo hi0 v a) (hi : i < a.atoms.length) (hfl : a.facts.length + 1 ≤ 1049600) :
    Calls Tryz.prog 123 #[v, .int .i64 i, .int .i64 t] w fun e w' => ∃ r, e = .returned (.tuple #[r, .bool (cellX a a.atoms[i] i t).valid]) ∧ AsnO w' w.heap.size r (cellX a a.atoms[i] i t) ∧ Below w.heap.size w w' := by
  have hV := Lib.hid h
  obtain ⟨A1, c1, A2, c2, rfl, h1, h2, -⟩ := h
  have H1 := Lib.hid h1
  have hl := h2.le
  have hwl := withoutL_len hi
  obtain ⟨b, o, rfl, g0, g1, g2⟩ := h2.at hi
  obtain ⟨x, hx⟩ : ∃ x, x = a.atoms[i] := ⟨_, rfl⟩
  rw [← hx] at g0 g1 g2 ⊢
  have hbl := block_lt_of_cell g0
  simp only at hbl
  have hii : (i : Int) < (a.atoms.length : Int) := by omega
  have HBL : Hid (([(⟨1, t, x.b⟩ : Atm)] ++ withoutL a.atoms i).length = a.atoms.length) := Lib.hid (by simp; omega)
  clear hx h1 h2
  go_enter Tryz.func123, Tryz.ntmps123
  have k0 : Blk ((w.alloc (.cells #[.slice A1 a.facts.length c1, .slice (some ⟨b, o, none⟩) a.atoms.length c2] tAs)).alloc (.cells #[.slice none 0 0, .slice none 0 0] tAs)) w.heap.size tAs #[.slice A1 a.facts.length c1, .slice (some ⟨b, o, none⟩) a.atoms.length c2] := blks
  have k6 : Blk ((w.alloc (.cells #[.slice A1 a.facts.length c1, .slice (some ⟨b, o, none⟩) a.atoms.length c2] tAs)).alloc (.cells #[.slice none 0 0, .slice none 0 0] tAs)) (w.heap.size + 1) tAs #[.slice none 0 0, .slice none 0 0] := blks
  have hB0 : Hid (Below w.heap.size w ((w.alloc (.cells #[.slice A1 a.facts.length c1, .slice (some ⟨b, o, none⟩) a.atoms.length c2] tAs)).alloc (.cells #[.slice none 0 0, .slice none 0 0] tAs))) := Lib.hid bel
  have hs0 : ((w.alloc (.cells #[.slice A1 a.facts.length c1, .slice (some ⟨b, o, none⟩) a.atoms.length c2] tAs)).alloc (.cells #[.slice none 0 0, .slice none 0 0] tAs)).heap.size = w.heap.size + 2 := by simp
  go_upto_region 3 with fail
  generalize ((w.alloc (.cells #[.slice A1 a.facts.length c1, .slice (some ⟨b, o, none⟩) a.atoms.length c2] tAs)).alloc (.cells #[.slice none 0 0, .slice none 0 0] tAs)) = W0 at k0 k6 hB0 hs0 ⊢
  have hk2 : w.heap.size + 2 = W0.heap.size := by omega
  have kx : Blk ((W0.alloc (.cells #[.int .i64 x.kind, .int .i64 x.a, .int .i64 x.b] tA)).alloc (.cells #[.int .i64 1, .int .i64 t, .int .i64 x.b] tA)) (w.heap.size + 2) tA #[.int .i64 x.kind, .int .i64 x.a, .int .i64 x.b] := (Blk.newE hk2).alloc _
  have kf : Blk ((W0.alloc (.cells #[.int .i64 x.kind, .int .i64 x.a, .int .i64 x.b] tA)).alloc (.cells #[.int .i64 1, .int .i64 t, .int .i64 x.b] tA)) (w.heap.size + 2 + 1) tA #[.int .i64 1, .int .i64 t, .int .i64 x.b] := Blk.newE (by simp; omega)
  have hbq : Below W0.heap.size W0 ((W0.alloc (.cells #[.int .i64 x.kind, .int .i64 x.a, .int .i64 x.b] tA)).alloc (.cells #[.int .i64 1, .int .i64 t, .int .i64 x.b] tA)) := bbox (bbox (Below.refl _ _) _) _
  replace k0 := k0.next hbq
  replace k6 := k6.next hbq
  have HB := Lib.hid (bgo hB0.out hbq)
  have hsW : ((W0.alloc (.cells #[.int .i64 x.kind, .int .i64 x.a, .int .i64 x.b] tA)).alloc (.cells #[.int .i64 1, .int .i64 t, .int .i64 x.b] tA)).heap.size = w.heap.size + 4 := by simp; omega
  clear hbq hB0
  generalize ((W0.alloc (.cells #[.int .i64 x.kind, .int .i64 x.a, .int .i64 x.b] tA)).alloc (.cells #[.int .i64 1, .int .i64 t, .int .i64 x.b] tA)) = W at k0 k6 kx kf HB hsW ⊢
  clear hk2 hs0 g0 g1 g2
  go_cut [10] (fun s10 wc => ∃ (xb : Nat) (F1 : Option Addr) (e1 : Nat) (G2 : Option Addr) (e3 : Nat), s10 = .pointer (some ⟨xb, 0, none⟩) ∧ Hid (FactsO wc w.heap.size (.slice F1 a.facts.length e1) a.facts) ∧ Hid (AtomsO wc w.heap.size (.slice G2 a.atoms.length e3) ([⟨1, t, x.b⟩] ++ withoutL a.atoms i)) ∧ Blk wc xb tAs #[.slice F1 a.facts.length e1, .slice G2 a.atoms.length e3] ∧ Blk wc (w.heap.size + 2) tA #[.int .i64 x.kind, .int .i64 x.a, .int .i64 x.b] ∧ Blk wc (w.heap.size + 1) tAs #[.slice none 0 0, .slice none 0 0] ∧ w.heap.size + 4 ≤ xb ∧ Hid (Below w.heap.size w wc))
  case first =>
    have lk0 := k0.lt
    have lkf := kf.lt
    go_wp2_with fail
    refine wp_region_noPanic ?_
    refine wp_region_held_drew (S := (fun w' => (∀ i, w'.cell? ⟨w.heap.size, i, none⟩ = #[.slice A1 a.facts.length c1, .slice (some ⟨b, o, none⟩) a.atoms.length c2][i]?) ∧ (∀ i, w'.cell? ⟨w.heap.size + 2 + 1, i, none⟩ = #[.int .i64 1, .int .i64 t, .int .i64 x.b][i]?))) (by kernel_rfl) (⟨k0.drew.cell, kf.drew.cell⟩) (fun hHeld => ?_)
    clear lk0 lkf
    replace k0 := k0.drew
    replace k6 := k6.drew
    replace kx := kx.drew
    replace kf := kf.drew
    replace HB := Lib.hid HB.out.drew
    have hzq : W.heap.size ≤ W.drew.heap.size := Nat.le_refl _
    generalize W.drew = wq at k0 kx k6 kf HB hzq hHeld ⊢
    refine wpAnyH_take (i := 0) (v := ?_) rfl (by kernel_rfl) (by kernel_rfl) (by kernel_rfl) (fun _ _ _ h => h) (Or.inl ⟨by rfl, fun w hSw => ?_⟩) hHeld ?_
    rotate_left
    · ((try dsimp only at hSw); go_split_ands; go_simp; (try with_reducible rfl))
    try simp only [Act.put, List.getElem_toArray, List.getElem_cons_zero, List.getElem_cons_succ, List.setIfInBounds_toArray, List.set_cons_zero, List.set_cons_succ]
    refine wpAnyH_take (i := 1) (v := ?_) rfl (by kernel_rfl) (by kernel_rfl) (by kernel_rfl) (fun _ _ _ h => h) (Or.inl ⟨by rfl, fun w hSw => ?_⟩) hHeld ?_
    rotate_left
    · ((try dsimp only at hSw); go_split_ands; go_simp; (try with_reducible rfl))
    try simp only [Act.put, List.getElem_toArray, List.getElem_cons_zero, List.getElem_cons_succ, List.setIfInBounds_toArray, List.set_cons_zero, List.set_cons_succ]
    refine wpAnyH_take (i := 3) (v := ?_) rfl (by kernel_rfl) (by kernel_rfl) (by kernel_rfl) (fun _ _ _ h => h) (Or.inl ⟨by rfl, fun w hSw => ?_⟩) hHeld ?_
    rotate_left
    · ((try dsimp only at hSw); go_split_ands; go_simp; (try with_reducible rfl))
    try simp only [Act.put, List.getElem_toArray, List.getElem_cons_zero, List.getElem_cons_succ, List.setIfInBounds_toArray, List.set_cons_zero, List.set_cons_succ]
    refine wpAnyH_take (i := 4) (v := ?_) rfl (by kernel_rfl) (by kernel_rfl) (by kernel_rfl) (fun _ _ _ h => h) (Or.inl ⟨by rfl, fun w hSw => ?_⟩) hHeld ?_
    rotate_left
    · ((try dsimp only at hSw); go_split_ands; go_simp; (try with_reducible rfl))
    try simp only [Act.put, List.getElem_toArray, List.getElem_cons_zero, List.getElem_cons_succ, List.setIfInBounds_toArray, List.set_cons_zero, List.set_cons_succ]
    refine wpAnyH_take (i := 5) (v := ?_) rfl (by kernel_rfl) (by kernel_rfl) (by kernel_rfl) (fun _ _ _ h => h) (Or.inl ⟨by rfl, fun w hSw => ?_⟩) hHeld ?_
    rotate_left
    · ((try dsimp only at hSw); go_split_ands; go_simp; (try with_reducible rfl))
    try simp only [Act.put, List.getElem_toArray, List.getElem_cons_zero, List.getElem_cons_succ, List.setIfInBounds_toArray, List.set_cons_zero, List.set_cons_succ]
    refine wpAnyH_ready (rs := [2, 9]) (by kernel_rfl) (by simp) ?_
    refine AllReadyH.cons rfl (fun K hK => ?_) (AllReadyH.cons rfl (fun K hK => ?_) (AllReadyH.nil))
    · skip
      try simp only [List.getElem_toArray, List.getElem_cons_zero, List.getElem_cons_succ]
      go_simp
      refine (c_joinF A1 none c1 0 a.facts [] _ (H1.out.below HB.out) (Rd.nil _ 0 0 _ _) (by simpa using Nat.le_of_succ_le hfl)).mono ?_
      rintro e wq ⟨rF, rfl, oF, hBq⟩
      rw [List.append_nil] at oF
      obtain ⟨F1, e1, rfl, -⟩ := oF.reads
      have OF := Lib.hid (oF.lower (base' := w.heap.size) (by omega))
      clear oF
      replace k0 := k0.next hBq
      replace kx := kx.next hBq
      replace k6 := k6.next hBq
      replace kf := kf.next hBq
      replace HB := Lib.hid (bgo HB.out hBq)
      replace hzq := Nat.le_trans hzq hBq.size
      clear hBq
      refine hK.out _ _ ⟨k0.cell, kf.cell⟩ (fun hHeldN => ?_)
      clear hHeld hK K
      have hHeld := hHeldN
      clear hHeldN
      refine wpAnyH_ready (rs := [6, 9]) (by kernel_rfl) (by simp) ?_
      refine AllReadyH.cons rfl (fun K hK => ?_) (AllReadyH.cons rfl (fun K hK => ?_) (AllReadyH.nil))
      · skip
        try simp only [List.getElem_toArray, List.getElem_cons_zero, List.getElem_cons_succ]
        go_simp
        refine (c_impl_without _ a i _ (hV.out.below HB.out) hi).mono ?_
        rintro e wq ⟨rA, rfl, oA, hBq⟩
        obtain ⟨G1, e2, rfl, fA⟩ := oA.reads
        have FA := Lib.hid fA
        replace OF := Lib.hid (OF.out.below hBq)
        clear oA fA
        replace k0 := k0.next hBq
        replace kx := kx.next hBq
        replace k6 := k6.next hBq
        replace kf := kf.next hBq
        replace HB := Lib.hid (bgo HB.out hBq)
        replace hzq := Nat.le_trans hzq hBq.size
        clear hBq
        refine hK.out _ _ ⟨k0.cell, kf.cell⟩ (fun hHeldN => ?_)
        clear hHeld hK K
        have hHeld := hHeldN
        clear hHeldN
        refine wpAnyH_ready (rs := [7, 9]) (by kernel_rfl) (by simp) ?_
        refine AllReadyH.cons rfl (fun K hK => ?_) (AllReadyH.cons rfl (fun K hK => ?_) (AllReadyH.nil))
        · skip
          try simp only [List.getElem_toArray, List.getElem_cons_zero, List.getElem_cons_succ]
          go_simp
          refine (c_joinA (some ⟨w.heap.size + 2 + 1, 0, none⟩) G1 1 e2 [⟨1, t, x.b⟩] (withoutL a.atoms i) _ (AtomsV.one (f := ⟨1, t, x.b⟩) kf) FA.out (by simp <;> omega)).mono ?_
          rintro e wq ⟨rB, rfl, oB, hBq⟩
          obtain ⟨G2, e3, rfl, -⟩ := oB.reads
          rw [HBL.out] at oB
          have OB := Lib.hid (oB.lower (base' := w.heap.size) (by omega))
          replace OF := Lib.hid (OF.out.below hBq)
          clear oB
          replace k0 := k0.next hBq
          replace kx := kx.next hBq
          replace k6 := k6.next hBq
          replace kf := kf.next hBq
          replace HB := Lib.hid (bgo HB.out hBq)
          replace hzq := Nat.le_trans hzq hBq.size
          clear hBq
          refine hK.out _ _ ⟨k0.cell, kf.cell⟩ (fun hHeldN => ?_)
          clear hHeld hK K
          have hHeld := hHeldN
          clear hHeldN
          refine wpAnyH_take (i := 8) (v := ?_) rfl (by kernel_rfl) (by kernel_rfl) (by kernel_rfl) (fun _ _ _ h => h) (Or.inl ⟨by rfl, fun w hSw => ?_⟩) hHeld ?_
          rotate_left
          · ((try dsimp only at hSw); go_split_ands; go_simp; (try with_reducible rfl))
          try simp only [Act.put, List.getElem_toArray, List.getElem_cons_zero, List.getElem_cons_succ, List.setIfInBounds_toArray, List.set_cons_zero, List.set_cons_succ]
          refine wpAnyH_ready (rs := [9]) (by kernel_rfl) (by simp) ?_
          refine AllReadyH.cons rfl (fun K hK => ?_) AllReadyH.nil
          try simp only [List.getElem_toArray, List.getElem_cons_zero, List.getElem_cons_succ]
          go_simp
          refine hK.out _ _ (⟨rowC_ (bbox (Below.refl _ _) _) k0.lt k0.cell, rowC_ (bbox (Below.refl _ _) _) kf.lt kf.cell⟩) (fun hHeldN => ?_)
          clear hHeld hK K
          have hHeld := hHeldN
          clear hHeldN
          try simp only [Act.put, List.getElem_toArray, List.getElem_cons_zero, List.getElem_cons_succ, List.setIfInBounds_toArray, List.set_cons_zero, List.set_cons_succ]
          have hBq : Below wq.heap.size wq (wq.alloc (.cells #[.slice none 0 0, .slice none 0 0] tAs)) := bbox (Below.refl _ _) _
          have kBox : Blk (wq.alloc (.cells #[.slice none 0 0, .slice none 0 0] tAs)) wq.heap.size tAs #[.slice none 0 0, .slice none 0 0] := Blk.new _ _ _
          obtain ⟨xb, hxb⟩ : ∃ x, x = wq.heap.size := ⟨_, rfl⟩
          have hxb2 : W.heap.size ≤ xb := by omega
          replace k0 := k0.next hBq
          replace kx := kx.next hBq
          replace k6 := k6.next hBq
          replace kf := kf.next hBq
          replace HB := Lib.hid (bgo HB.out hBq)
          replace hzq := Nat.le_trans hzq hBq.size
          try replace OF := Lib.hid (OF.out.below hBq)
          try replace FA := Lib.hid (FA.out.below hBq)
          try replace OB := Lib.hid (OB.out.below hBq)
          rw [← hxb] at kBox ⊢
          clear hBq hxb
          generalize wq.alloc (.cells #[.slice none 0 0, .slice none 0 0] tAs) = wq at *
          have hlB := kBox.lt
          have qb := kBox.cell
          have rb := kBox.frozen
          refine wpAnyH_ready (rs := [10]) (by kernel_rfl) (by simp) ?_
          refine AllReadyH.cons rfl (fun K hK => ?_) AllReadyH.nil
          try simp only [List.getElem_toArray, List.getElem_cons_zero, List.getElem_cons_succ]
          go_simp
          refine hK.out _ _ (⟨((k0.far (p := ⟨xb, 0, none⟩) (by simp only; omega) _).far (p := ⟨xb, 1, none⟩) (by simp only; omega) _).cell, ((kf.far (p := ⟨xb, 0, none⟩) (kf.ne_ kBox (by decide)) _).far (p := ⟨xb, 1, none⟩) (kf.ne_ kBox (by decide)) _).cell⟩) (fun hHeldN => ?_)
          clear hHeld hK K
          have hHeld := hHeldN
          clear hHeldN
          try simp only [Act.put, List.getElem_toArray, List.getElem_cons_zero, List.getElem_cons_succ, List.setIfInBounds_toArray, List.set_cons_zero, List.set_cons_succ]
          refine wpAnyH_done (by kernel_rfl) ?_ _
          refine NoPanic.normal ?_
          go_wp2_with fail
          go_meet
          case rel =>
            refine ⟨xb, F1, e1, G2, e3, rfl, Lib.hid ((OF.out.setT kBox (by decide) 0 _).setT (kBox.set_ 0 _) (by decide) 1 _), Lib.hid ((OB.out.setT kBox (by decide) 0 _).setT (kBox.set_ 0 _) (by decide) 1 _), ?_, (kx.far (p := ⟨xb, 0, none⟩) (kx.ne_ kBox (by decide)) _).far (p := ⟨xb, 1, none⟩) (kx.ne_ kBox (by decide)) _, (k6.far (p := ⟨xb, 0, none⟩) (by simp only; omega) _).far (p := ⟨xb, 1, none⟩) (by simp only; omega) _, by omega, Lib.hid ((HB.out.setCell (p := ⟨xb, 0, none⟩) (by simp only; omega) _).setCell (p := ⟨xb, 1, none⟩) (by simp only; omega) _)⟩
            have := (kBox.set_ 0 (.slice F1 a.facts.length e1)).set_ 1 (.slice G2 a.atoms.length e3)
            simpa using this
        · skip
          try simp only [List.getElem_toArray, List.getElem_cons_zero, List.getElem_cons_succ]
          go_simp
          refine hK.out _ _ ⟨rowC_ (bbox (Below.refl _ _) _) k0.lt k0.cell, rowC_ (bbox (Below.refl _ _) _) kf.lt kf.cell⟩ (fun hHeldN => ?_)
          clear hHeld hK K
          have hHeld := hHeldN
          clear hHeldN
          have hBq : Below wq.heap.size wq (wq.alloc (.cells #[.slice none 0 0, .slice none 0 0] tAs)) := bbox (Below.refl _ _) _
          have kBox : Blk (wq.alloc (.cells #[.slice none 0 0, .slice none 0 0] tAs)) wq.heap.size tAs #[.slice none 0 0, .slice none 0 0] := Blk.new _ _ _
          obtain ⟨xb, hxb⟩ : ∃ x, x = wq.heap.size := ⟨_, rfl⟩
          have hxb2 : W.heap.size ≤ xb := by omega
          replace k0 := k0.next hBq
          replace kx := kx.next hBq
          replace k6 := k6.next hBq
          replace kf := kf.next hBq
          replace HB := Lib.hid (bgo HB.out hBq)
          replace hzq := Nat.le_trans hzq hBq.size
          try replace OF := Lib.hid (OF.out.below hBq)
          try replace FA := Lib.hid (FA.out.below hBq)
          try replace OB := Lib.hid (OB.out.below hBq)
          rw [← hxb] at kBox ⊢
          clear hBq hxb
          generalize wq.alloc (.cells #[.slice none 0 0, .slice none 0 0] tAs) = wq at *
          refine wpAnyH_ready (rs := [7]) (by kernel_rfl) (by simp) ?_
          refine AllReadyH.cons rfl (fun K hK => ?_) AllReadyH.nil
          try simp only [List.getElem_toArray, List.getElem_cons_zero, List.getElem_cons_succ]
          (go_simp; refine (c_joinA (some ⟨w.heap.size + 2 + 1, 0, none⟩) G1 1 e2 [⟨1, t, x.b⟩] (withoutL a.atoms i) _ (AtomsV.one (f := ⟨1, t, x.b⟩) kf) FA.out (by simp <;> omega)).mono ?_; rintro e wq ⟨rB, rfl, oB, hBq⟩; obtain ⟨G2, e3, rfl, -⟩ := oB.reads; rw [HBL.out] at oB; have OB := Lib.hid (oB.lower (base' := w.heap.size) (by omega)); replace OF := Lib.hid (OF.out.below hBq); clear oB; replace k0 := k0.next hBq; replace kx := kx.next hBq; replace k6 := k6.next hBq; replace kf := kf.next hBq; replace HB := Lib.hid (bgo HB.out hBq); replace hzq := Nat.le_trans hzq hBq.size; have kBox := kBox.next hBq)
          refine hK.out _ _ (⟨k0.cell, kf.cell⟩) (fun hHeldN => ?_)
          clear hHeld hK K
          have hHeld := hHeldN
          clear hHeldN
          try simp only [Act.put, List.getElem_toArray, List.getElem_cons_zero, List.getElem_cons_succ, List.setIfInBounds_toArray, List.set_cons_zero, List.set_cons_succ]
          clear hBq
          refine wpAnyH_take (i := 8) (v := ?_) rfl (by kernel_rfl) (by kernel_rfl) (by kernel_rfl) (fun _ _ _ h => h) (Or.inl ⟨by rfl, fun w hSw => ?_⟩) hHeld ?_
          rotate_left
          · ((try dsimp only at hSw); go_split_ands; go_simp; (try with_reducible rfl))
          try simp only [Act.put, List.getElem_toArray, List.getElem_cons_zero, List.getElem_cons_succ, List.setIfInBounds_toArray, List.set_cons_zero, List.set_cons_succ]
          have hlB := kBox.lt
          have qb := kBox.cell
          have rb := kBox.frozen
          refine wpAnyH_ready (rs := [10]) (by kernel_rfl) (by simp) ?_
          refine AllReadyH.cons rfl (fun K hK => ?_) AllReadyH.nil
          try simp only [List.getElem_toArray, List.getElem_cons_zero, List.getElem_cons_succ]
          go_simp
          refine hK.out _ _ (⟨((k0.far (p := ⟨xb, 0, none⟩) (by simp only; omega) _).far (p := ⟨xb, 1, none⟩) (by simp only; omega) _).cell, ((kf.far (p := ⟨xb, 0, none⟩) (kf.ne_ kBox (by decide)) _).far (p := ⟨xb, 1, none⟩) (kf.ne_ kBox (by decide)) _).cell⟩) (fun hHeldN => ?_)
          clear hHeld hK K
          have hHeld := hHeldN
          clear hHeldN
          try simp only [Act.put, List.getElem_toArray, List.getElem_cons_zero, List.getElem_cons_succ, List.setIfInBounds_toArray, List.set_cons_zero, List.set_cons_succ]
          refine wpAnyH_done (by kernel_rfl) ?_ _
          refine NoPanic.normal ?_
          go_wp2_with fail
          go_meet
          case rel =>
            refine ⟨xb, F1, e1, G2, e3, rfl, Lib.hid ((OF.out.setT kBox (by decide) 0 _).setT (kBox.set_ 0 _) (by decide) 1 _), Lib.hid ((OB.out.setT kBox (by decide) 0 _).setT (kBox.set_ 0 _) (by decide) 1 _), ?_, (kx.far (p := ⟨xb, 0, none⟩) (kx.ne_ kBox (by decide)) _).far (p := ⟨xb, 1, none⟩) (kx.ne_ kBox (by decide)) _, (k6.far (p := ⟨xb, 0, none⟩) (by simp only; omega) _).far (p := ⟨xb, 1, none⟩) (by simp only; omega) _, by omega, Lib.hid ((HB.out.setCell (p := ⟨xb, 0, none⟩) (by simp only; omega) _).setCell (p := ⟨xb, 1, none⟩) (by simp only; omega) _)⟩
            have := (kBox.set_ 0 (.slice F1 a.facts.length e1)).set_ 1 (.slice G2 a.atoms.length e3)
            simpa using this
      · skip
        try simp only [List.getElem_toArray, List.getElem_cons_zero, List.getElem_cons_succ]
        go_simp
        refine hK.out _ _ ⟨rowC_ (bbox (Below.refl _ _) _) k0.lt k0.cell, rowC_ (bbox (Below.refl _ _) _) kf.lt kf.cell⟩ (fun hHeldN => ?_)
        clear hHeld hK K
        have hHeld := hHeldN
        clear hHeldN
        have hBq : Below wq.heap.size wq (wq.alloc (.cells #[.slice none 0 0, .slice none 0 0] tAs)) := bbox (Below.refl _ _) _
        have kBox : Blk (wq.alloc (.cells #[.slice none 0 0, .slice none 0 0] tAs)) wq.heap.size tAs #[.slice none 0 0, .slice none 0 0] := Blk.new _ _ _
        obtain ⟨xb, hxb⟩ : ∃ x, x = wq.heap.size := ⟨_, rfl⟩
        have hxb2 : W.heap.size ≤ xb := by omega
        replace k0 := k0.next hBq
        replace kx := kx.next hBq
        replace k6 := k6.next hBq
        replace kf := kf.next hBq
        replace HB := Lib.hid (bgo HB.out hBq)
        replace hzq := Nat.le_trans hzq hBq.size
        try replace OF := Lib.hid (OF.out.below hBq)
        try replace FA := Lib.hid (FA.out.below hBq)
        try replace OB := Lib.hid (OB.out.below hBq)
        rw [← hxb] at kBox ⊢
        clear hBq hxb
        generalize wq.alloc (.cells #[.slice none 0 0, .slice none 0 0] tAs) = wq at *
        refine wpAnyH_ready (rs := [6]) (by kernel_rfl) (by simp) ?_
        refine AllReadyH.cons rfl (fun K hK => ?_) AllReadyH.nil
        try simp only [List.getElem_toArray, List.getElem_cons_zero, List.getElem_cons_succ]
        (go_simp; refine (c_impl_without _ a i _ (hV.out.below HB.out) hi).mono ?_; rintro e wq ⟨rA, rfl, oA, hBq⟩; obtain ⟨G1, e2, rfl, fA⟩ := oA.reads; have FA := Lib.hid fA; replace OF := Lib.hid (OF.out.below hBq); clear oA fA; replace k0 := k0.next hBq; replace kx := kx.next hBq; replace k6 := k6.next hBq; replace kf := kf.next hBq; replace HB := Lib.hid (bgo HB.out hBq); replace hzq := Nat.le_trans hzq hBq.size; have kBox := kBox.next hBq)
        refine hK.out _ _ (⟨k0.cell, kf.cell⟩) (fun hHeldN => ?_)
        clear hHeld hK K
        have hHeld := hHeldN
        clear hHeldN
        try simp only [Act.put, List.getElem_toArray, List.getElem_cons_zero, List.getElem_cons_succ, List.setIfInBounds_toArray, List.set_cons_zero, List.set_cons_succ]
        clear hBq
        refine wpAnyH_ready (rs := [7]) (by kernel_rfl) (by simp) ?_
        refine AllReadyH.cons rfl (fun K hK => ?_) AllReadyH.nil
        try simp only [List.getElem_toArray, List.getElem_cons_zero, List.getElem_cons_succ]
        (go_simp; refine (c_joinA (some ⟨w.heap.size + 2 + 1, 0, none⟩) G1 1 e2 [⟨1, t, x.b⟩] (withoutL a.atoms i) _ (AtomsV.one (f := ⟨1, t, x.b⟩) kf) FA.out (by simp <;> omega)).mono ?_; rintro e wq ⟨rB, rfl, oB, hBq⟩; obtain ⟨G2, e3, rfl, -⟩ := oB.reads; rw [HBL.out] at oB; have OB := Lib.hid (oB.lower (base' := w.heap.size) (by omega)); replace OF := Lib.hid (OF.out.below hBq); clear oB; replace k0 := k0.next hBq; replace kx := kx.next hBq; replace k6 := k6.next hBq; replace kf := kf.next hBq; replace HB := Lib.hid (bgo HB.out hBq); replace hzq := Nat.le_trans hzq hBq.size; have kBox := kBox.next hBq)
        refine hK.out _ _ (⟨k0.cell, kf.cell⟩) (fun hHeldN => ?_)
        clear hHeld hK K
        have hHeld := hHeldN
        clear hHeldN
        try simp only [Act.put, List.getElem_toArray, List.getElem_cons_zero, List.getElem_cons_succ, List.setIfInBounds_toArray, List.set_cons_zero, List.set_cons_succ]
        clear hBq
        refine wpAnyH_take (i := 8) (v := ?_) rfl (by kernel_rfl) (by kernel_rfl) (by kernel_rfl) (fun _ _ _ h => h) (Or.inl ⟨by rfl, fun w hSw => ?_⟩) hHeld ?_
        rotate_left
        · ((try dsimp only at hSw); go_split_ands; go_simp; (try with_reducible rfl))
        try simp only [Act.put, List.getElem_toArray, List.getElem_cons_zero, List.getElem_cons_succ, List.setIfInBounds_toArray, List.set_cons_zero, List.set_cons_succ]
        have hlB := kBox.lt
        have qb := kBox.cell
        have rb := kBox.frozen
        refine wpAnyH_ready (rs := [10]) (by kernel_rfl) (by simp) ?_
        refine AllReadyH.cons rfl (fun K hK => ?_) AllReadyH.nil
        try simp only [List.getElem_toArray, List.getElem_cons_zero, List.getElem_cons_succ]
        go_simp
        refine hK.out _ _ (⟨((k0.far (p := ⟨xb, 0, none⟩) (by simp only; omega) _).far (p := ⟨xb, 1, none⟩) (by simp only; omega) _).cell, ((kf.far (p := ⟨xb, 0, none⟩) (kf.ne_ kBox (by decide)) _).far (p := ⟨xb, 1, none⟩) (kf.ne_ kBox (by decide)) _).cell⟩) (fun hHeldN => ?_)
        clear hHeld hK K
        have hHeld := hHeldN
        clear hHeldN
        try simp only [Act.put, List.getElem_toArray, List.getElem_cons_zero, List.getElem_cons_succ, List.setIfInBounds_toArray, List.set_cons_zero, List.set_cons_succ]
        refine wpAnyH_done (by kernel_rfl) ?_ _
        refine NoPanic.normal ?_
        go_wp2_with fail
        go_meet
        case rel =>
          refine ⟨xb, F1, e1, G2, e3, rfl, Lib.hid ((OF.out.setT kBox (by decide) 0 _).setT (kBox.set_ 0 _) (by decide) 1 _), Lib.hid ((OB.out.setT kBox (by decide) 0 _).setT (kBox.set_ 0 _) (by decide) 1 _), ?_, (kx.far (p := ⟨xb, 0, none⟩) (kx.ne_ kBox (by decide)) _).far (p := ⟨xb, 1, none⟩) (kx.ne_ kBox (by decide)) _, (k6.far (p := ⟨xb, 0, none⟩) (by simp only; omega) _).far (p := ⟨xb, 1, none⟩) (by simp only; omega) _, by omega, Lib.hid ((HB.out.setCell (p := ⟨xb, 0, none⟩) (by simp only; omega) _).setCell (p := ⟨xb, 1, none⟩) (by simp only; omega) _)⟩
          have := (kBox.set_ 0 (.slice F1 a.facts.length e1)).set_ 1 (.slice G2 a.atoms.length e3)
          simpa using this
    · skip
      try simp only [List.getElem_toArray, List.getElem_cons_zero, List.getElem_cons_succ]
      go_simp
      refine hK.out _ _ ⟨rowC_ (bbox (Below.refl _ _) _) k0.lt k0.cell, rowC_ (bbox (Below.refl _ _) _) kf.lt kf.cell⟩ (fun hHeldN => ?_)
      clear hHeld hK K
      have hHeld := hHeldN
      clear hHeldN
      have hBq : Below wq.heap.size wq (wq.alloc (.cells #[.slice none 0 0, .slice none 0 0] tAs)) := bbox (Below.refl _ _) _
      have kBox : Blk (wq.alloc (.cells #[.slice none 0 0, .slice none 0 0] tAs)) wq.heap.size tAs #[.slice none 0 0, .slice none 0 0] := Blk.new _ _ _
      obtain ⟨xb, hxb⟩ : ∃ x, x = wq.heap.size := ⟨_, rfl⟩
      have hxb2 : W.heap.size ≤ xb := by omega
      replace k0 := k0.next hBq
      replace kx := kx.next hBq
      replace k6 := k6.next hBq
      replace kf := kf.next hBq
      replace HB := Lib.hid (bgo HB.out hBq)
      replace hzq := Nat.le_trans hzq hBq.size
      try replace OF := Lib.hid (OF.out.below hBq)
      try replace FA := Lib.hid (FA.out.below hBq)
      try replace OB := Lib.hid (OB.out.below hBq)
      rw [← hxb] at kBox ⊢
      clear hBq hxb
      generalize wq.alloc (.cells #[.slice none 0 0, .slice none 0 0] tAs) = wq at *
      refine wpAnyH_ready (rs := [2]) (by kernel_rfl) (by simp) ?_
      refine AllReadyH.cons rfl (fun K hK => ?_) AllReadyH.nil
      try simp only [List.getElem_toArray, List.getElem_cons_zero, List.getElem_cons_succ]
      (go_simp; refine (c_joinF A1 none c1 0 a.facts [] _ (H1.out.below HB.out) (Rd.nil _ 0 0 _ _) (by simpa using Nat.le_of_succ_le hfl)).mono ?_; rintro e wq ⟨rF, rfl, oF, hBq⟩; rw [List.append_nil] at oF; obtain ⟨F1, e1, rfl, -⟩ := oF.reads; have OF := Lib.hid (oF.lower (base' := w.heap.size) (by omega)); clear oF; replace k0 := k0.next hBq; replace kx := kx.next hBq; replace k6 := k6.next hBq; replace kf := kf.next hBq; replace HB := Lib.hid (bgo HB.out hBq); replace hzq := Nat.le_trans hzq hBq.size; have kBox := kBox.next hBq)
      refine hK.out _ _ (⟨k0.cell, kf.cell⟩) (fun hHeldN => ?_)
      clear hHeld hK K
      have hHeld := hHeldN
      clear hHeldN
      try simp only [Act.put, List.getElem_toArray, List.getElem_cons_zero, List.getElem_cons_succ, List.setIfInBounds_toArray, List.set_cons_zero, List.set_cons_succ]
      clear hBq
      refine wpAnyH_ready (rs := [6]) (by kernel_rfl) (by simp) ?_
      refine AllReadyH.cons rfl (fun K hK => ?_) AllReadyH.nil
      try simp only [List.getElem_toArray, List.getElem_cons_zero, List.getElem_cons_succ]
      (go_simp; refine (c_impl_without _ a i _ (hV.out.below HB.out) hi).mono ?_; rintro e wq ⟨rA, rfl, oA, hBq⟩; obtain ⟨G1, e2, rfl, fA⟩ := oA.reads; have FA := Lib.hid fA; replace OF := Lib.hid (OF.out.below hBq); clear oA fA; replace k0 := k0.next hBq; replace kx := kx.next hBq; replace k6 := k6.next hBq; replace kf := kf.next hBq; replace HB := Lib.hid (bgo HB.out hBq); replace hzq := Nat.le_trans hzq hBq.size; have kBox := kBox.next hBq)
      refine hK.out _ _ (⟨k0.cell, kf.cell⟩) (fun hHeldN => ?_)
      clear hHeld hK K
      have hHeld := hHeldN
      clear hHeldN
      try simp only [Act.put, List.getElem_toArray, List.getElem_cons_zero, List.getElem_cons_succ, List.setIfInBounds_toArray, List.set_cons_zero, List.set_cons_succ]
      clear hBq
      refine wpAnyH_ready (rs := [7]) (by kernel_rfl) (by simp) ?_
      refine AllReadyH.cons rfl (fun K hK => ?_) AllReadyH.nil
      try simp only [List.getElem_toArray, List.getElem_cons_zero, List.getElem_cons_succ]
      (go_simp; refine (c_joinA (some ⟨w.heap.size + 2 + 1, 0, none⟩) G1 1 e2 [⟨1, t, x.b⟩] (withoutL a.atoms i) _ (AtomsV.one (f := ⟨1, t, x.b⟩) kf) FA.out (by simp <;> omega)).mono ?_; rintro e wq ⟨rB, rfl, oB, hBq⟩; obtain ⟨G2, e3, rfl, -⟩ := oB.reads; rw [HBL.out] at oB; have OB := Lib.hid (oB.lower (base' := w.heap.size) (by omega)); replace OF := Lib.hid (OF.out.below hBq); clear oB; replace k0 := k0.next hBq; replace kx := kx.next hBq; replace k6 := k6.next hBq; replace kf := kf.next hBq; replace HB := Lib.hid (bgo HB.out hBq); replace hzq := Nat.le_trans hzq hBq.size; have kBox := kBox.next hBq)
      refine hK.out _ _ (⟨k0.cell, kf.cell⟩) (fun hHeldN => ?_)
      clear hHeld hK K
      have hHeld := hHeldN
      clear hHeldN
      try simp only [Act.put, List.getElem_toArray, List.getElem_cons_zero, List.getElem_cons_succ, List.setIfInBounds_toArray, List.set_cons_zero, List.set_cons_succ]
      clear hBq
      refine wpAnyH_take (i := 8) (v := ?_) rfl (by kernel_rfl) (by kernel_rfl) (by kernel_rfl) (fun _ _ _ h => h) (Or.inl ⟨by rfl, fun w hSw => ?_⟩) hHeld ?_
      rotate_left
      · ((try dsimp only at hSw); go_split_ands; go_simp; (try with_reducible rfl))
      try simp only [Act.put, List.getElem_toArray, List.getElem_cons_zero, List.getElem_cons_succ, List.setIfInBounds_toArray, List.set_cons_zero, List.set_cons_succ]
      have hlB := kBox.lt
      have qb := kBox.cell
      have rb := kBox.frozen
      refine wpAnyH_ready (rs := [10]) (by kernel_rfl) (by simp) ?_
      refine AllReadyH.cons rfl (fun K hK => ?_) AllReadyH.nil
      try simp only [List.getElem_toArray, List.getElem_cons_zero, List.getElem_cons_succ]
      go_simp
      refine hK.out _ _ (⟨((k0.far (p := ⟨xb, 0, none⟩) (by simp only; omega) _).far (p := ⟨xb, 1, none⟩) (by simp only; omega) _).cell, ((kf.far (p := ⟨xb, 0, none⟩) (kf.ne_ kBox (by decide)) _).far (p := ⟨xb, 1, none⟩) (kf.ne_ kBox (by decide)) _).cell⟩) (fun hHeldN => ?_)
      clear hHeld hK K
      have hHeld := hHeldN
      clear hHeldN
      try simp only [Act.put, List.getElem_toArray, List.getElem_cons_zero, List.getElem_cons_succ, List.setIfInBounds_toArray, List.set_cons_zero, List.set_cons_succ]
      refine wpAnyH_done (by kernel_rfl) ?_ _
      refine NoPanic.normal ?_
      go_wp2_with fail
      go_meet
      case rel =>
        refine ⟨xb, F1, e1, G2, e3, rfl, Lib.hid ((OF.out.setT kBox (by decide) 0 _).setT (kBox.set_ 0 _) (by decide) 1 _), Lib.hid ((OB.out.setT kBox (by decide) 0 _).setT (kBox.set_ 0 _) (by decide) 1 _), ?_, (kx.far (p := ⟨xb, 0, none⟩) (kx.ne_ kBox (by decide)) _).far (p := ⟨xb, 1, none⟩) (kx.ne_ kBox (by decide)) _, (k6.far (p := ⟨xb, 0, none⟩) (by simp only; omega) _).far (p := ⟨xb, 1, none⟩) (by simp only; omega) _, by omega, Lib.hid ((HB.out.setCell (p := ⟨xb, 0, none⟩) (by simp only; omega) _).setCell (p := ⟨xb, 1, none⟩) (by simp only; omega) _)⟩
        have := (kBox.set_ 0 (.slice F1 a.facts.length e1)).set_ 1 (.slice G2 a.atoms.length e3)
        simpa using this
  case rest =>
    obtain ⟨xb, F1, e1, G2, e3, rfl, OF, OB, kb, kx, k6, hxb, HB⟩ := hcut
    have hl0 := kb.lt
    by_cases hxt : x.a = t
    · have HXE : Hid (cellX a x i t = ⟨a.facts, [⟨1, t, x.b⟩] ++ withoutL a.atoms i⟩) := Lib.hid (by unfold cellX; rw [if_pos hxt, List.append_nil]; rfl)
      have HVX : Hid (AsnV wc 0 wc.heap.size (.agg #[.slice F1 a.facts.length e1, .slice G2 a.atoms.length e3]) (cellX a x i t)) := Lib.hid (by
        rw [HXE.out]
        refine ⟨F1, e1, G2, e3, ?_, OF.out.readsI.2.mono (Nat.zero_le _) (Nat.le_refl _), OB.out.readsI.2.mono (Nat.zero_le _) (Nat.le_refl _)⟩
        rw [HBL.out])
      have hb : (x.a != t) = false := by simpa using hxt
      clear hxt
      (replace qkb := kb.cell; replace rkb := kb.frozen; replace lkb := kb.lt; replace qkx := kx.cell; replace rkx := kx.frozen; replace lkx := kx.lt; replace qk6 := k6.cell; replace rk6 := k6.frozen; replace lk6 := k6.lt)
      go_upto_region 6 with fail
      clear qkx rkx lkx
      refine wp_region_noPanic ?_
      refine wp_region_held_drew (S := (fun w' => ∀ i, w'.cell? ⟨xb, i, none⟩ = #[.slice F1 a.facts.length e1, .slice G2 a.atoms.length e3][i]?)) (by kernel_rfl) (kb.drew.cell) (fun hHeld => ?_)
      refine wpAnyH_take (i := 0) (v := ?_) rfl (by kernel_rfl) (by kernel_rfl) (by kernel_rfl) (fun _ _ _ h => h) (Or.inl ⟨by rfl, fun w hSw => ?_⟩) hHeld ?_
      rotate_left
      · ((try dsimp only at hSw); go_split_ands; go_simp; (try with_reducible rfl))
      try simp only [Act.put, List.getElem_toArray, List.getElem_cons_zero, List.getElem_cons_succ, List.setIfInBounds_toArray, List.set_cons_zero, List.set_cons_succ]
      refine wpAnyH_take (i := 1) (v := ?_) rfl (by kernel_rfl) (by kernel_rfl) (by kernel_rfl) (fun _ _ _ h => h) (Or.inl ⟨by rfl, fun w hSw => ?_⟩) hHeld ?_
      rotate_left
      · ((try dsimp only at hSw); go_split_ands; go_simp; (try with_reducible rfl))
      try simp only [Act.put, List.getElem_toArray, List.getElem_cons_zero, List.getElem_cons_succ, List.setIfInBounds_toArray, List.set_cons_zero, List.set_cons_succ]
      refine wpAnyH_ready (rs := [2]) (by kernel_rfl) (by simp) ?_
      refine AllReadyH.cons rfl (fun K hK => ?_) AllReadyH.nil
      try simp only [List.getElem_toArray, List.getElem_cons_zero, List.getElem_cons_succ]
      (go_simp; refine (c_impl_AssertionValid _ (cellX a x i t) _ (HVX.out.below (Below.refl _ _).drew)).mono ?_; rintro e w8 ⟨rfl, hB8⟩; replace hB8 : Below wc.heap.size wc w8 := (Below.refl _ _).drew.trans hB8; have kb8 := kb.next hB8; have k68 := k6.next hB8; have OF8 := Lib.hid (OF.out.below hB8); have OB8 := Lib.hid (OB.out.below hB8); have HB8 := Lib.hid (bgo HB.out hB8); clear hB8)
      refine hK.out _ _ (kb8.cell) (fun hHeldN => ?_)
      clear hHeld hK K
      have hHeld := hHeldN
      clear hHeldN
      try simp only [Act.put, List.getElem_toArray, List.getElem_cons_zero, List.getElem_cons_succ, List.setIfInBounds_toArray, List.set_cons_zero, List.set_cons_succ]
      have q68 := k68.cell
      have r68 := k68.frozen
      have l68 := k68.lt
      refine wpAnyH_ready (rs := [3]) (by kernel_rfl) (by simp) ?_
      refine AllReadyH.cons rfl (fun K hK => ?_) AllReadyH.nil
      try simp only [List.getElem_toArray, List.getElem_cons_zero, List.getElem_cons_succ]
      go_simp
      refine hK.out _ _ (((kb8.far (p := ⟨w.heap.size + 1, 0, none⟩) (by simp only; omega) _).far (p := ⟨w.heap.size + 1, 1, none⟩) (by simp only; omega) _).cell) (fun hHeldN => ?_)
      clear hHeld hK K
      have hHeld := hHeldN
      clear hHeldN
      try simp only [Act.put, List.getElem_toArray, List.getElem_cons_zero, List.getElem_cons_succ, List.setIfInBounds_toArray, List.set_cons_zero, List.set_cons_succ]
      refine wpAnyH_ready (rs := [4]) (by kernel_rfl) (by simp) ?_
      refine AllReadyH.cons rfl (fun K hK => ?_) AllReadyH.nil
      try simp only [List.getElem_toArray, List.getElem_cons_zero, List.getElem_cons_succ]
      go_simp
      refine hK.out _ _ (((kb8.far (p := ⟨w.heap.size + 1, 0, none⟩) (by simp only; omega) _).far (p := ⟨w.heap.size + 1, 1, none⟩) (by simp only; omega) _).cell) (fun hHeldN => ?_)
      clear hHeld hK K
      have hHeld := hHeldN
      clear hHeldN
      try simp only [Act.put, List.getElem_toArray, List.getElem_cons_zero, List.getElem_cons_succ, List.setIfInBounds_toArray, List.set_cons_zero, List.set_cons_succ]
      refine wpAnyH_done (by kernel_rfl) ?_ _
      refine NoPanic.normal ?_
      go_wp2_with fail
      have z6 := ((k68.set_ 0 (.slice F1 a.facts.length e1)).set_ 1 (.slice G2 a.atoms.length e3)).cell
      refine bodyPost_ret (v := .tuple #[.agg #[.slice F1 a.facts.length e1, .slice G2 a.atoms.length e3], .bool (cellX a x i t).valid]) (by simp [results, Tryz.results123, go_sem, z6]) rfl ⟨_, rfl, ⟨_, _, rfl, ?_, ?_⟩, ?_⟩
      · rw [HXE.out]
        exact (OF8.out.setT k68 (by decide) 0 _).setT (k68.set_ 0 _) (by decide) 1 _
      · rw [HXE.out]
        exact (OB8.out.setT k68 (by decide) 0 _).setT (k68.set_ 0 _) (by decide) 1 _
      · exact (HB8.out.setCell (p := ⟨w.heap.size + 1, 0, none⟩) (by simp only; omega) _).setCell (p := ⟨w.heap.size + 1, 1, none⟩) (by simp only; omega) _
    · have HXE : Hid (cellX a x i t = ⟨a.facts ++ [⟨true, x.a, t⟩], [⟨1, t, x.b⟩] ++ withoutL a.atoms i⟩) := Lib.hid (by unfold cellX; rw [if_neg hxt]; rfl)
      have hb : (x.a != t) = true := by simpa using hxt
      clear hxt
      have hzw : w.heap.size ≤ wc.heap.size := HB.out.size
      (replace qkb := kb.cell; replace rkb := kb.frozen; replace lkb := kb.lt; replace qkx := kx.cell; replace rkx := kx.frozen; replace lkx := kx.lt; replace qk6 := k6.cell; replace rk6 := k6.frozen; replace lk6 := k6.lt)
      go_wp2_with (at_builtin; refine appFL (ys := [⟨true, x.a, t⟩]) (base := w.heap.size) rfl _ _ rfl rfl (OF.out.below bel) rfl (FactsV.one (f := ⟨true, x.a, t⟩) (Blk.new wc tF _)) (by simpa using hfl) (by simp; omega) ?_; intro A6 c6 w6 o6 hg6 hB6; have kO := OF.out.below (w' := wc.alloc (.cells #[.bool true, .int .i64 x.a, .int .i64 t] tF)) bel; have kb6 := Blk.grownO (hg := hg6) (kb.alloc _) kO.1 (by decide); have k66 := Blk.grownO (hg := hg6) (k6.alloc _) kO.1 (by decide); have OB6 : Hid (AtomsO w6 w.heap.size (.slice G2 a.atoms.length e3) ([⟨1, t, x.b⟩] ++ withoutL a.atoms i)) := Lib.hid ⟨own_grownO (OB.out.below (w' := wc.alloc (.cells #[.bool true, .int .i64 x.a, .int .i64 t] tF)) bel).1 kO.1 hg6 (by decide), OB.out.2⟩; have HB6 : Hid (Below w.heap.size w w6) := Lib.hid ((HB.out.alloc hzw _).trans hB6); have OF6 := Lib.hid o6; clear hB6 hg6 o6 kO; have qb6 := kb6.cell; have rb6 := kb6.frozen; have lb6 := kb6.lt)
      have kb7 : Blk (w6.setCell ⟨xb, 0, none⟩ (.slice A6 (a.facts.length + 1) c6)) xb tAs #[.slice A6 (a.facts.length + 1) c6, .slice G2 a.atoms.length e3] := by
        have := kb6.set_ 0 (.slice A6 (a.facts.length + 1) c6)
        simpa using this
      have k67 := k66.far (p := ⟨xb, 0, none⟩) (by simp only; omega) (.slice A6 (a.facts.length + 1) c6)
      have OF7 : Hid (FactsO (w6.setCell ⟨xb, 0, none⟩ (.slice A6 (a.facts.length + 1) c6)) w.heap.size (.slice A6 (a.facts.length + 1) c6) (a.facts ++ [⟨true, x.a, t⟩])) := Lib.hid (by
        have := OF6.out.setT kb6 (by decide) 0 (.slice A6 (a.facts.length + 1) c6)
        simpa using this)
      have OB7 := Lib.hid (OB6.out.setT kb6 (by decide) 0 (.slice A6 (a.facts.length + 1) c6))
      have HB7 := Lib.hid (HB6.out.setCell (p := ⟨xb, 0, none⟩) (by simp only; omega) (.slice A6 (a.facts.length + 1) c6))
      clear qkb rkb lkb qkx rkx lkx qk6 rk6 lk6 qb6 rb6 lb6 kb kx k6 OF OB HB kb6 k66 OF6 OB6 HB6
      generalize (w6.setCell ⟨xb, 0, none⟩ (.slice A6 (a.facts.length + 1) c6)) = W7 at kb7 k67 OF7 OB7 HB7 ⊢
      have kb := kb7
      have k6 := k67
      have OF := OF7
      have OB := OB7
      have HB := HB7
      clear kb7 k67 OF7 OB7 HB7
      have HVX : Hid (AsnV W7 0 W7.heap.size (.agg #[.slice A6 (a.facts.length + 1) c6, .slice G2 a.atoms.length e3]) (cellX a x i t)) := Lib.hid (by
        rw [HXE.out]
        refine ⟨A6, c6, G2, e3, ?_, by simpa using OF.out.readsI.2.mono (Nat.zero_le _) (Nat.le_refl _), OB.out.readsI.2.mono (Nat.zero_le _) (Nat.le_refl _)⟩
        rw [HBL.out]; simp)
      refine wp_region_noPanic ?_
      refine wp_region_held_drew (S := (fun w' => ∀ i, w'.cell? ⟨xb, i, none⟩ = #[.slice A6 (a.facts.length + 1) c6, .slice G2 a.atoms.length e3][i]?)) (by kernel_rfl) (kb.drew.cell) (fun hHeld => ?_)
      refine wpAnyH_take (i := 0) (v := ?_) rfl (by kernel_rfl) (by kernel_rfl) (by kernel_rfl) (fun _ _ _ h => h) (Or.inl ⟨by rfl, fun w hSw => ?_⟩) hHeld ?_
      rotate_left
      · ((try dsimp only at hSw); go_split_ands; go_simp; (try with_reducible rfl))
      try simp only [Act.put, List.getElem_toArray, List.getElem_cons_zero, List.getElem_cons_succ, List.setIfInBounds_toArray, List.set_cons_zero, List.set_cons_succ]
      refine wpAnyH_take (i := 1) (v := ?_) rfl (by kernel_rfl) (by kernel_rfl) (by kernel_rfl) (fun _ _ _ h => h) (Or.inl ⟨by rfl, fun w hSw => ?_⟩) hHeld ?_
      rotate_left
      · ((try dsimp only at hSw); go_split_ands; go_simp; (try with_reducible rfl))
      try simp only [Act.put, List.getElem_toArray, List.getElem_cons_zero, List.getElem_cons_succ, List.setIfInBounds_toArray, List.set_cons_zero, List.set_cons_succ]
      refine wpAnyH_ready (rs := [2]) (by kernel_rfl) (by simp) ?_
      refine AllReadyH.cons rfl (fun K hK => ?_) AllReadyH.nil
      try simp only [List.getElem_toArray, List.getElem_cons_zero, List.getElem_cons_succ]
      (go_simp; refine (c_impl_AssertionValid _ (cellX a x i t) _ (HVX.out.below (Below.refl _ _).drew)).mono ?_; rintro e w8 ⟨rfl, hB8⟩; replace hB8 : Below W7.heap.size W7 w8 := (Below.refl _ _).drew.trans hB8; have kb8 := kb.next hB8; have k68 := k6.next hB8; have OF8 := Lib.hid (OF.out.below hB8); have OB8 := Lib.hid (OB.out.below hB8); have HB8 := Lib.hid (bgo HB.out hB8); clear hB8)
      refine hK.out _ _ (kb8.cell) (fun hHeldN => ?_)
      clear hHeld hK K
      have hHeld := hHeldN
      clear hHeldN
      try simp only [Act.put, List.getElem_toArray, List.getElem_cons_zero, List.getElem_cons_succ, List.setIfInBounds_toArray, List.set_cons_zero, List.set_cons_succ]
      have q68 := k68.cell
      have r68 := k68.frozen
      have l68 := k68.lt
      refine wpAnyH_ready (rs := [3]) (by kernel_rfl) (by simp) ?_
      refine AllReadyH.cons rfl (fun K hK => ?_) AllReadyH.nil
      try simp only [List.getElem_toArray, List.getElem_cons_zero, List.getElem_cons_succ]
      go_simp
      refine hK.out _ _ (((kb8.far (p := ⟨w.heap.size + 1, 0, none⟩) (by simp only; omega) _).far (p := ⟨w.heap.size + 1, 1, none⟩) (by simp only; omega) _).cell) (fun hHeldN => ?_)
      clear hHeld hK K
      have hHeld := hHeldN
      clear hHeldN
      try simp only [Act.put, List.getElem_toArray, List.getElem_cons_zero, List.getElem_cons_succ, List.setIfInBounds_toArray, List.set_cons_zero, List.set_cons_succ]
      refine wpAnyH_ready (rs := [4]) (by kernel_rfl) (by simp) ?_
      refine AllReadyH.cons rfl (fun K hK => ?_) AllReadyH.nil
      try simp only [List.getElem_toArray, List.getElem_cons_zero, List.getElem_cons_succ]
      go_simp
      refine hK.out _ _ (((kb8.far (p := ⟨w.heap.size + 1, 0, none⟩) (by simp only; omega) _).far (p := ⟨w.heap.size + 1, 1, none⟩) (by simp only; omega) _).cell) (fun hHeldN => ?_)
      clear hHeld hK K
      have hHeld := hHeldN
      clear hHeldN
      try simp only [Act.put, List.getElem_toArray, List.getElem_cons_zero, List.getElem_cons_succ, List.setIfInBounds_toArray, List.set_cons_zero, List.set_cons_succ]
      refine wpAnyH_done (by kernel_rfl) ?_ _
      refine NoPanic.normal ?_
      go_wp2_with fail
      have z6 := ((k68.set_ 0 (.slice A6 (a.facts.length + 1) c6)).set_ 1 (.slice G2 a.atoms.length e3)).cell
      refine bodyPost_ret (v := .tuple #[.agg #[.slice A6 (a.facts.length + 1) c6, .slice G2 a.atoms.length e3], .bool (cellX a x i t).valid]) (by simp [results, Tryz.results123, go_sem, z6]) rfl ⟨_, rfl, ⟨_, _, rfl, ?_, ?_⟩, ?_⟩
      · rw [HXE.out]
        exact (OF8.out.setT k68 (by decide) 0 _).setT (k68.set_ 0 _) (by decide) 1 _
      · rw [HXE.out]
        exact (OB8.out.setT k68 (by decide) 0 _).setT (k68.set_ 0 _) (by decide) 1 _
      · exact (HB8.out.setCell (p := ⟨w.heap.size + 1, 0, none⟩) (by simp only; omega) _).setCell (p := ⟨w.heap.size + 1, 1, none⟩) (by simp only; omega) _
--@
end Go.Proofs.YtlmjjflalmegfaaGreat

/- Exposing cells; plain. -/
namespace Go.Proofs.YtlmjjflalmegfaaGreat
open Go Go.RowKit Go.Proofs

theorem imp_iff {a : Asn} {f : Fct} : impB a f = true ↔ a.valid = true ∧ f.valid = true ∧ ∀ M, Sat M a → decide (M f.a = M f.b) = f.eq := by
  unfold impB
  rw [Bool.and_eq_true, Bool.and_eq_true, and_assoc, List.all_eq_true]
  constructor
  · rintro ⟨h1, h2, h3⟩
    refine ⟨h1, h2, fun M hM => ?_⟩
    have hfo := Fct.valid_ok h2
    have ha : isTermB f.a = true := by simp [isTermB]; omega
    have hb : isTermB f.b = true := by simp [isTermB]; omega
    have hbit : ∀ j : Nat, (factS f).testBit j = (decide (f.a = (j : Int)) || decide (f.b = (j : Int))) := fun j => by
      rw [tins_bit, tins_bit, Nat.zero_testBit, ha, hb]; simp
    have b1 : (caseS a (factS f)).testBit f.a.toNat = true := by rw [caseS_bit, hbit, Int.toNat_of_nonneg hfo.1.1]; simp
    have b2 : (caseS a (factS f)).testBit f.b.toNat = true := by rw [caseS_bit, hbit, Int.toNat_of_nonneg hfo.2.1]; simp
    have hc := sat_case h1 (caseS_zero a (factS f)) (caseS_terms h1 (factS f)) hM
    have h4 := h3 _ hc
    have h5 := cl_canon_eq (M := M) (S := caseS a (factS f)) ⟨hfo.1, b1⟩ ⟨hfo.2, b2⟩
    simp only [Fct.fits, beq_iff_eq] at h4
    rw [← h4, decide_eq_decide]
    exact h5.symm
  · rintro ⟨h1, h2, h3⟩
    refine ⟨h1, h2, fun c hc => ?_⟩
    have := h3 _ (case_sat h1 (caseS_zero a (factS f)) hc)
    simp only [Fct.fits, beq_iff_eq]
    exact this
def emptyX (a : Asn) (x : Atm) (i : Nat) : Asn := ⟨a.facts ++ [⟨true, x.a, x.b⟩], withoutL a.atoms i⟩
def fullX (a : Asn) (x : Atm) (i : Nat) (m : Int) : Asn := ⟨a.facts ++ [⟨false, x.a, x.b⟩], ([⟨1, x.a, m⟩] ++ withoutL a.atoms i) ++ [⟨2, m, x.b⟩]⟩
theorem without_perm {xs : List Atm} {i : Nat} {x : Atm} (h : xs[i]? = some x) : xs.Perm (x :: withoutL xs i) := by
  obtain ⟨hi, rfl⟩ := List.getElem?_eq_some_iff.1 h
  have e : xs = xs.take i ++ xs[i] :: xs.drop (i + 1) := by rw [← List.drop_eq_getElem_cons hi, List.take_append_drop]
  conv => lhs; rw [e]
  exact List.perm_middle
theorem full_sat {M : Int → Int} {a : Asn} {x : Atm} {i : Nat} {m : Int} (hx : a.atoms[i]? = some x) (hk : x.kind = 2) (h : Sat M (fullX a x i m)) : Sat M a := by
  have hp := without_perm hx
  have hne : decide (M x.a = M x.b) = false := h.facts ⟨false, x.a, x.b⟩ (by simp [fullX])
  have hfx : fillM M x = true := by simp [fillM, hne]
  have hf1 : fillM M ⟨1, x.a, m⟩ = true := by simp [fillM]
  refine ⟨fun f hf => h.facts f (by simp [fullX, hf]), fun y hy hfy => ?_, ?_⟩
  · rcases List.mem_cons.1 (hp.mem_iff.1 hy) with rfl | hy
    · exact h.nil ⟨1, y.a, m⟩ (by simp [fullX]) hf1
    · exact h.nil y (by simp [fullX, hy]) hfy
  · have h2 := h.apart
    refine ((hp.filter (fillM M)).map fun x => M x.a).nodup_iff.2 ?_
    rw [List.filter_cons, if_pos hfx]
    simp only [fullX, List.filter_append, List.map_append, List.append_assoc, List.singleton_append, List.filter_cons, List.cons_append, if_pos hf1, List.map_cons, List.filter_nil, List.nil_append] at h2
    refine List.Nodup.sublist ?_ h2
    simp only [List.map_cons]
    exact List.Sublist.cons_cons _ (List.sublist_append_left _ _)
theorem full_imp {a : Asn} {x : Atm} {i : Nat} {m t : Int} (hx : a.atoms[i]? = some x) (hk : x.kind = 2) (hf : (fullX a x i m).valid = true) (h : impB a ⟨true, x.a, t⟩ = true) : impB (fullX a x i m) ⟨true, x.a, t⟩ = true := by
  rw [imp_iff] at h ⊢
  exact ⟨hf, h.2.1, fun M hM => h.2.2 M (full_sat hx hk hM)⟩
theorem find_some {a : Asn} {kind t : Int} {i : Nat} (h : findK a kind t = some i) : ∃ x, a.atoms[i]? = some x ∧ x.kind = kind ∧ impB a ⟨true, x.a, t⟩ = true ∧ i < a.atoms.length := by
  have h1 := List.find?_some h
  unfold findP at h1
  cases e : a.atoms[i]? with
  | none => rw [e] at h1; cases h1
  | some x =>
    rw [e] at h1
    simp only [Bool.and_eq_true, decide_eq_true_eq] at h1
    exact ⟨x, rfl, h1.1, h1.2, (List.getElem?_eq_some_iff.1 e).1⟩
theorem full_find {a : Asn} {x : Atm} {i : Nat} {m t : Int} (hx : a.atoms[i]? = some x) (hk : x.kind = 2) (hf : (fullX a x i m).valid = true) (h : impB a ⟨true, x.a, t⟩ = true) : findK (fullX a x i m) 1 t = some 0 := by
  refine findK_yes (by simp [fullX]) (fun j hj => by omega) ?_
  unfold findP
  have : (fullX a x i m).atoms[0]? = some ⟨1, x.a, m⟩ := by simp [fullX]
  rw [this]
  simp [full_imp hx hk hf h]
/-- what exposing a term gives, with at most n unfoldings -/
def exposeF : Nat → Asn → Int → Nat → Option (List Asn)
  | 0, _, _, _ => none
  | n + 1, a, t, K =>
    if a.valid = false then none
    else if consB a = false then some []
    else match findK a 1 t with
      | some i => if (cellX a (a.atoms[i]?.getD default) i t).valid then some [cellX a (a.atoms[i]?.getD default) i t] else none
      | none => match findK a 2 t with
        | none => none
        | some i => match newT (tset (termsL a) ||| tins K t) with
          | none => none
          | some m => match exposeF n (emptyX a (a.atoms[i]?.getD default) i) t K with
            | none => none
            | some l1 => match exposeF n (fullX a (a.atoms[i]?.getD default) i (m : Int)) t K with
              | none => none
              | some l2 => some (l1 ++ l2)
end Go.Proofs.YtlmjjflalmegfaaGreat

/- Exposing cells: impl.expose by its parts. -/
namespace Go.Proofs.YtlmjjflalmegfaaGreat
open Go Go.RowKit Go.Proofs
attribute [local go_sem ↓] Go.wp_at_zero Go.wp_at_succ

/-- what exposing a list at its first atom gives -/
def listF (n : Nat) (a : Asn) (x : Atm) (i : Nat) (t : Int) (K : Nat) : Option (List Asn) :=
  match newT (tset (termsL a) ||| tins K t) with
  | none => none
  | some m => match exposeF n (emptyX a x i) t K with
    | none => none
    | some l1 => match exposeF n (fullX a x i (m : Int)) t K with
      | none => none
      | some l2 => some (l1 ++ l2)
theorem expose_bad {n : Nat} {a : Asn} {t : Int} {K : Nat} (h : a.valid = false) : exposeF n a t K = none := by
  cases n with
  | zero => rfl
  | succ n => simp [exposeF, h]
theorem expose_no {n : Nat} {a : Asn} {t : Int} {K : Nat} (h : a.valid = true) (hc : consB a = false) : exposeF (n + 1) a t K = some [] := by simp [exposeF, h, hc]
theorem expose_cell {n : Nat} {a : Asn} {t : Int} {K i : Nat} {x : Atm} (h : a.valid = true) (hc : consB a = true) (hf : findK a 1 t = some i) (hx : a.atoms[i]? = some x) : exposeF (n + 1) a t K = if (cellX a x i t).valid then some [cellX a x i t] else none := by
  simp [exposeF, h, hc, hf, hx]
theorem expose_none {n : Nat} {a : Asn} {t : Int} {K : Nat} (h : a.valid = true) (hc : consB a = true) (hf : findK a 1 t = none) (hg : findK a 2 t = none) : exposeF (n + 1) a t K = none := by simp [exposeF, h, hc, hf, hg]
theorem expose_list {n : Nat} {a : Asn} {t : Int} {K i : Nat} {x : Atm} (h : a.valid = true) (hc : consB a = true) (hf : findK a 1 t = none) (hg : findK a 2 t = some i) (hx : a.atoms[i]? = some x) : exposeF (n + 1) a t K = listF n a x i t K := by
  simp only [exposeF, h, hc, hf, hg, hx, listF, Option.getD_some]; rfl
theorem expose_ok : ∀ {n : Nat} {a : Asn} {t : Int} {K : Nat} {l : List Asn}, exposeF n a t K = some l → l.length ≤ 2 ^ n ∧ ∀ b ∈ l, b.valid = true
  | 0, _, _, _, _, h => by cases h
  | n + 1, a, t, K, l, h => by
    unfold exposeF at h
    split at h
    · cases h
    · split at h
      · obtain rfl := Option.some.inj h; simp
      · split at h
        · split at h
          · rename_i hv
            obtain rfl := Option.some.inj h
            refine ⟨by simp; exact Nat.one_le_two_pow, fun b hb => ?_⟩
            obtain rfl := List.mem_singleton.1 hb
            exact hv
          · cases h
        · split at h
          · cases h
          · split at h
            · cases h
            · split at h
              · cases h
              · split at h
                · cases h
                · rename_i e1 _ _ e2
                  obtain rfl := Option.some.inj h
                  have h1 := expose_ok e1
                  have h2 := expose_ok e2
                  refine ⟨by rw [List.length_append, Nat.pow_succ]; omega, fun b hb => ?_⟩
                  rcases List.mem_append.1 hb with hb | hb
                  · exact h1.2 b hb
                  · exact h2.2 b hb
--@ impl.expose
/-- the contract of impl.expose at one assertion -/
def ExpC (n : Nat) (a : Asn) (t : Int) (K : Nat) : Prop := ∀ (lo hi : Nat) (v : Value) (w : World), AsnC w lo hi v a → hi ≤ w.heap.size → a.valid = true →
  Calls Tryz.prog 54 #[v, .int .i64 t, .int .u16 K] w fun e w' => ∃ r vs, e = .returned (.tuple #[r, .bool (exposeF n a t K).isSome]) ∧ A2O w' w.heap.size r vs ((exposeF n a t K).getD []) ∧ Below w.heap.size w w'
--@ impl.exposeListAt
/-- .. and of impl.exposeListAt -/
def ExpL (n : Nat) (a : Asn) (x : Atm) (i : Nat) (t : Int) (K : Nat) : Prop := ∀ (lo hi : Nat) (v : Value) (w : World), AsnC w lo hi v a → hi ≤ w.heap.size →
  Calls Tryz.prog 124 #[v, .int .i64 i, .int .i64 t, .int .u16 K] w fun e w' => ∃ r vs, e = .returned (.tuple #[r, .bool (listF n a x i t K).isSome]) ∧ A2O w' w.heap.size r vs ((listF n a x i t K).getD []) ∧ Below w.heap.size w w'
--@ impl.expose
set_option maxRecDepth 100000 in
set_option maxHeartbeats 3200000 in
theorem c_expose_step (n : Nat) (a : Asn) (t : Int) (K : Nat) (HL : ∀ i x, findK a 1 t = none → findK a 2 t = some i → a.atoms[i]? = some x → x.kind = 2 → impB a ⟨true, x.a, t⟩ = true → ExpL n a x i t K) : ExpC (n + 1) a t K := by
  intro lo hi v w h hhi hv
  have hV := Lib.hid h
  obtain ⟨A1, c1, A2, c2, rfl, -⟩ := h
  have HLL := Lib.hid HL
  have hvl := valid_len hv
  have HV := Lib.hid hv
  clear HL hv
  go_enter Tryz.func54, Tryz.ntmps54
  have k0 : Blk (w.alloc (.cells #[.slice A1 a.facts.length c1, .slice A2 a.atoms.length c2] tAs)) w.heap.size tAs #[.slice A1 a.facts.length c1, .slice A2 a.atoms.length c2] := blks
  go_wp2_with fail
  refine (c_impl_Consistent _ a _ (hV.out.V.below bel) (by simp; omega)).mono ?_
  rintro e w1 ⟨rfl, hB1⟩
  rw [show (a.valid && !(cases a (caseS a 0)).isEmpty) = consB a from rfl]
  have hB := bgo (w := w) bel hB1
  replace k0 := k0.next hB1
  clear hB1
  have hz1 := hB.size
  cases hc : consB a
  · have E := Lib.hid (expose_no (n := n) (t := t) (K := K) HV.out hc)
    clear hc
    go_wp2_with fail
    go_ret2
    exact ⟨_, _, by rw [E.out]; rfl, by rw [E.out]; exact A2O.nil _ _, hB⟩
  have HC := Lib.hid hc
  clear hc
  (replace qk0 := k0.cell; replace rk0 := k0.frozen; replace lk0 := k0.lt)
  go_wp2_with fail
  refine (c_impl_firstAtomAt _ a 1 t _ (hV.out.V.below bel) (by omega)).mono ?_
  rintro e w2 ⟨rfl, hB2⟩
  (replace hB := bgo hB hB2; replace k0 := k0.next hB2; replace qk0 := k0.cell; replace rk0 := k0.frozen; replace lk0 := k0.lt)
  clear hB2
  have hz2 := hB.size
  cases hf : findK a 1 t
  case some i =>
    obtain ⟨x, hx, -, -, hil⟩ := find_some hf
    have E := Lib.hid (expose_cell (n := n) (K := K) HV.out HC.out hf hx)
    have EI : findI a 1 t = (i : Int) := by unfold findI; rw [hf]
    rw [EI]
    have hxe : a.atoms[i] = x := by rw [List.getElem?_eq_getElem hil] at hx; exact Option.some.inj hx
    clear hf hx EI
    go_wp2_with fail
    refine (c_impl_exposeCellAt _ a i t _ (hV.out.below bel) hil (by omega)).mono ?_
    rw [hxe]
    rintro e w3 ⟨r, rfl, oC, hB3⟩
    (replace hB := bgo hB hB3; replace k0 := k0.next hB3)
    clear hB3 hxe
    have OC := Lib.hid oC
    obtain ⟨F3, f3, G3, g3, rfl, -⟩ := oC.C
    have hz3 := hB.size
    clear qk0 rk0 lk0
    cases hcv : (cellX a x i t).valid
    · have E2 : Hid (exposeF (n + 1) a t K = none) := Lib.hid (by rw [E.out, hcv]; rfl)
      clear hcv
      go_wp2_with fail
      go_ret2
      exact ⟨_, _, by rw [E2.out]; rfl, by rw [E2.out]; exact A2O.nil _ _, bel⟩
    · have E2 : Hid (exposeF (n + 1) a t K = some [cellX a x i t]) := Lib.hid (by rw [E.out, hcv]; rfl)
      clear hcv
      go_wp2_with fail
      go_ret2
      refine ⟨.slice (some ⟨w3.heap.size + 1, 0, none⟩) 1 1, [.slice F3 (cellX a x i t).facts.length f3, .slice G3 (cellX a x i t).atoms.length g3], by rw [E2.out]; rfl, ?_, bel⟩
      rw [E2.out]
      refine A2O.one (Blk.newE ?_) ?_ (AsnO.below (AsnO.lower OC.out (by omega)) bel)
      · simp
      · omega
  have HF1 := Lib.hid hf
  have EI : findI a 1 t = 0 := by unfold findI; rw [hf]
  rw [EI]
  clear hf EI
  go_wp2_with fail
  refine (c_impl_firstAtomAt _ a 2 t _ (hV.out.V.below bel) (by omega)).mono ?_
  rintro e w3 ⟨rfl, hB3⟩
  (replace hB := bgo hB hB3; replace k0 := k0.next hB3; replace qk0 := k0.cell; replace rk0 := k0.frozen; replace lk0 := k0.lt)
  clear hB3
  have hz3 := hB.size
  cases hg : findK a 2 t
  case none =>
    have E := Lib.hid (expose_none (n := n) (K := K) HV.out HC.out HF1.out hg)
    clear hg
    go_wp2_with fail
    go_ret2
    exact ⟨_, _, by rw [E.out]; rfl, by rw [E.out]; exact A2O.nil _ _, hB⟩
  case some i =>
    obtain ⟨x, hx, hk2, himp, hil⟩ := find_some hg
    have E := Lib.hid (expose_list (n := n) (K := K) HV.out HC.out HF1.out hg hx)
    have EI : findI a 2 t = (i : Int) := by unfold findI; rw [hg]
    rw [EI]
    have HX := Lib.hid (HLL.out i x HF1.out hg hx hk2 himp)
    clear hg hx EI hk2 himp
    go_wp2_with fail
    refine (HX.out lo hi _ _ (hV.out.below bel) (by omega)).mono ?_
    rintro e w4 ⟨r, vs, rfl, oR, hB4⟩
    have OR := Lib.hid oR
    obtain ⟨R1, r1, rfl⟩ := oR.form
    clear oR
    (replace hB := bgo hB hB4)
    go_wp2_with fail
    go_ret2
    refine ⟨_, vs, by rw [E.out]; rfl, ?_, bel⟩
    rw [E.out]
    exact OR.out.lower (by omega)
--@
end Go.Proofs.YtlmjjflalmegfaaGreat
