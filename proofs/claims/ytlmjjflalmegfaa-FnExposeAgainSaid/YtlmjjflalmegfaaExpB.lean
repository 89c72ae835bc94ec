/- Exposing cells: the cell of a term moved to the front (impl.exposeCellAt). Printed by genExpB.py. -/
import Derived.Test.YtlmjjflalmegfaaExpA
import Derived.Deep.DeepCutAuto
set_option linter.unusedSimpArgs false
set_option linter.unusedVariables false
namespace Go.Proofs.Ytlmjjflalmegfaa
open Go Go.RowKit Go.Proofs
attribute [local go_sem ↓] Go.wp_at_zero Go.wp_at_succ

theorem rowC_ {B : Nat} {w w' : World} (h : Below B w w') {g : Nat} (hg : g < B) {cs : Array Value} (hc : ∀ i, w.cell? ⟨g, i, none⟩ = cs[i]?) : ∀ i, w'.cell? ⟨g, i, none⟩ = cs[i]? := fun i => (h.cell (p := ⟨g, i, none⟩) hg).trans (hc i)
/-- the cell of the atom with an index moved to the front, for a term -/
def cellX (a : Asn) (x : Atm) (i : Nat) (t : Int) : Asn := ⟨a.facts ++ (if x.a = t then [] else [⟨true, x.a, t⟩]), ⟨1, t, x.b⟩ :: withoutL a.atoms i⟩
--@ impl.exposeCellAt
set_option maxRecDepth 100000 in
set_option maxHeartbeats 6400000 in
theorem c_impl_exposeCellAt {lo hi0 : Nat} (v : Value) (a : Asn) (i : Nat) (t : Int) (w : World) (h : AsnC w lo hi0 v a) (hi : i < a.atoms.length) (hfl : a.facts.length + 1 ≤ 1049600) :
    Calls Try.prog 83 #[v, .int .i64 i, .int .i64 t] w fun e w' => ∃ r, e = .returned (.tuple #[r, .bool (cellX a a.atoms[i] i t).valid]) ∧ AsnO w' w.heap.size r (cellX a a.atoms[i] i t) ∧ Below w.heap.size w w' := by
  have hV := Lib.hid h
  obtain ⟨A1, c1, A2, c2, rfl, h1, h2, -⟩ := h
  have H1 := Lib.hid h1
  have hl := h2.le
  have hwl := withoutL_len hi
  obtain ⟨b, o, rfl, g0, g1, g2⟩ := h2.at hi
  obtain ⟨x, hx⟩ : ∃ x, x = a.atoms[i] := ⟨_, rfl⟩
  rw [← hx] at g0 g1 g2 ⊢
  have hbl := block_lt_of_cell g0
  simp only at hbl
  have hii : (i : Int) < (a.atoms.length : Int) := by omega
  have HBL : Hid (([(⟨1, t, x.b⟩ : Atm)] ++ withoutL a.atoms i).length = a.atoms.length) := Lib.hid (by simp; omega)
  clear hx h1 h2
  go_enter Try.func83, Try.ntmps83
  have k0 : Blk ((w.alloc (.cells #[.slice A1 a.facts.length c1, .slice (some ⟨b, o, none⟩) a.atoms.length c2] tAs)).alloc (.cells #[.slice none 0 0, .slice none 0 0] tAs)) w.heap.size tAs #[.slice A1 a.facts.length c1, .slice (some ⟨b, o, none⟩) a.atoms.length c2] := blks
  have k6 : Blk ((w.alloc (.cells #[.slice A1 a.facts.length c1, .slice (some ⟨b, o, none⟩) a.atoms.length c2] tAs)).alloc (.cells #[.slice none 0 0, .slice none 0 0] tAs)) (w.heap.size + 1) tAs #[.slice none 0 0, .slice none 0 0] := blks
  have hB0 : Hid (Below w.heap.size w ((w.alloc (.cells #[.slice A1 a.facts.length c1, .slice (some ⟨b, o, none⟩) a.atoms.length c2] tAs)).alloc (.cells #[.slice none 0 0, .slice none 0 0] tAs))) := Lib.hid bel
  have hs0 : ((w.alloc (.cells #[.slice A1 a.facts.length c1, .slice (some ⟨b, o, none⟩) a.atoms.length c2] tAs)).alloc (.cells #[.slice none 0 0, .slice none 0 0] tAs)).heap.size = w.heap.size + 2 := by simp
  go_upto_region 3 with fail
  generalize ((w.alloc (.cells #[.slice A1 a.facts.length c1, .slice (some ⟨b, o, none⟩) a.atoms.length c2] tAs)).alloc (.cells #[.slice none 0 0, .slice none 0 0] tAs)) = W0 at k0 k6 hB0 hs0 ⊢
  have hk2 : w.heap.size + 2 = W0.heap.size := by omega
  have kx : Blk ((W0.alloc (.cells #[.int .i64 x.kind, .int .i64 x.a, .int .i64 x.b] tA)).alloc (.cells #[.int .i64 1, .int .i64 t, .int .i64 x.b] tA)) (w.heap.size + 2) tA #[.int .i64 x.kind, .int .i64 x.a, .int .i64 x.b] := (Blk.newE hk2).alloc _
  have kf : Blk ((W0.alloc (.cells #[.int .i64 x.kind, .int .i64 x.a, .int .i64 x.b] tA)).alloc (.cells #[.int .i64 1, .int .i64 t, .int .i64 x.b] tA)) (w.heap.size + 2 + 1) tA #[.int .i64 1, .int .i64 t, .int .i64 x.b] := Blk.newE (by simp; omega)
  have hbq : Below W0.heap.size W0 ((W0.alloc (.cells #[.int .i64 x.kind, .int .i64 x.a, .int .i64 x.b] tA)).alloc (.cells #[.int .i64 1, .int .i64 t, .int .i64 x.b] tA)) := bbox (bbox (Below.refl _ _) _) _
  replace k0 := k0.next hbq
  replace k6 := k6.next hbq
  have HB := Lib.hid (bgo hB0.out hbq)
  have hsW : ((W0.alloc (.cells #[.int .i64 x.kind, .int .i64 x.a, .int .i64 x.b] tA)).alloc (.cells #[.int .i64 1, .int .i64 t, .int .i64 x.b] tA)).heap.size = w.heap.size + 4 := by simp; omega
  clear hbq hB0
  generalize ((W0.alloc (.cells #[.int .i64 x.kind, .int .i64 x.a, .int .i64 x.b] tA)).alloc (.cells #[.int .i64 1, .int .i64 t, .int .i64 x.b] tA)) = W at k0 k6 kx kf HB hsW ⊢
  clear hk2 hs0 g0 g1 g2
  go_cut [10] (fun s10 wc => ∃ (xb : Nat) (F1 : Option Addr) (e1 : Nat) (G2 : Option Addr) (e3 : Nat), s10 = .pointer (some ⟨xb, 0, none⟩) ∧ Hid (FactsO wc w.heap.size (.slice F1 a.facts.length e1) a.facts) ∧ Hid (AtomsO wc w.heap.size (.slice G2 a.atoms.length e3) ([⟨1, t, x.b⟩] ++ withoutL a.atoms i)) ∧ Blk wc xb tAs #[.slice F1 a.facts.length e1, .slice G2 a.atoms.length e3] ∧ Blk wc (w.heap.size + 2) tA #[.int .i64 x.kind, .int .i64 x.a, .int .i64 x.b] ∧ Blk wc (w.heap.size + 1) tAs #[.slice none 0 0, .slice none 0 0] ∧ w.heap.size + 4 ≤ xb ∧ Hid (Below w.heap.size w wc))
  case first =>
    have lk0 := k0.lt
    have lkf := kf.lt
    go_wp2_with fail
    refine wp_region_noPanic ?_
    refine wp_region_held_drew (S := (fun w' => (∀ i, w'.cell? ⟨w.heap.size, i, none⟩ = #[.slice A1 a.facts.length c1, .slice (some ⟨b, o, none⟩) a.atoms.length c2][i]?) ∧ (∀ i, w'.cell? ⟨w.heap.size + 2 + 1, i, none⟩ = #[.int .i64 1, .int .i64 t, .int .i64 x.b][i]?))) (by kernel_rfl) (⟨k0.drew.cell, kf.drew.cell⟩) (fun hHeld => ?_)
    clear lk0 lkf
    replace k0 := k0.drew
    replace k6 := k6.drew
    replace kx := kx.drew
    replace kf := kf.drew
    replace HB := Lib.hid HB.out.drew
    have hzq : W.heap.size ≤ W.drew.heap.size := Nat.le_refl _
    generalize W.drew = wq at k0 kx k6 kf HB hzq hHeld ⊢
    refine wpAnyH_take (i := 0) (v := ?_) rfl (by kernel_rfl) (by kernel_rfl) (by kernel_rfl) (fun _ _ _ h => h) (Or.inl ⟨by rfl, fun w hSw => ?_⟩) hHeld ?_
    rotate_left
    · ((try dsimp only at hSw); go_split_ands; go_simp; (try with_reducible rfl))
    try simp only [Act.put, List.getElem_toArray, List.getElem_cons_zero, List.getElem_cons_succ, List.setIfInBounds_toArray, List.set_cons_zero, List.set_cons_succ]
    refine wpAnyH_take (i := 1) (v := ?_) rfl (by kernel_rfl) (by kernel_rfl) (by kernel_rfl) (fun _ _ _ h => h) (Or.inl ⟨by rfl, fun w hSw => ?_⟩) hHeld ?_
    rotate_left
    · ((try dsimp only at hSw); go_split_ands; go_simp; (try with_reducible rfl))
    try simp only [Act.put, List.getElem_toArray, List.getElem_cons_zero, List.getElem_cons_succ, List.setIfInBounds_toArray, List.set_cons_zero, List.set_cons_succ]
    refine wpAnyH_take (i := 3) (v := ?_) rfl (by kernel_rfl) (by kernel_rfl) (by kernel_rfl) (fun _ _ _ h => h) (Or.inl ⟨by rfl, fun w hSw => ?_⟩) hHeld ?_
    rotate_left
    · ((try dsimp only at hSw); go_split_ands; go_simp; (try with_reducible rfl))
    try simp only [Act.put, List.getElem_toArray, List.getElem_cons_zero, List.getElem_cons_succ, List.setIfInBounds_toArray, List.set_cons_zero, List.set_cons_succ]
    refine wpAnyH_take (i := 4) (v := ?_) rfl (by kernel_rfl) (by kernel_rfl) (by kernel_rfl) (fun _ _ _ h => h) (Or.inl ⟨by rfl, fun w hSw => ?_⟩) hHeld ?_
    rotate_left
    · ((try dsimp only at hSw); go_split_ands; go_simp; (try with_reducible rfl))
    try simp only [Act.put, List.getElem_toArray, List.getElem_cons_zero, List.getElem_cons_succ, List.setIfInBounds_toArray, List.set_cons_zero, List.set_cons_succ]
    refine wpAnyH_take (i := 5) (v := ?_) rfl (by kernel_rfl) (by kernel_rfl) (by kernel_rfl) (fun _ _ _ h => h) (Or.inl ⟨by rfl, fun w hSw => ?_⟩) hHeld ?_
    rotate_left
    · ((try dsimp only at hSw); go_split_ands; go_simp; (try with_reducible rfl))
    try simp only [Act.put, List.getElem_toArray, List.getElem_cons_zero, List.getElem_cons_succ, List.setIfInBounds_toArray, List.set_cons_zero, List.set_cons_succ]
    refine wpAnyH_ready (rs := [2, 9]) (by kernel_rfl) (by simp) ?_
    refine AllReadyH.cons rfl (fun K hK => ?_) (AllReadyH.cons rfl (fun K hK => ?_) (AllReadyH.nil))
    · skip
      try simp only [List.getElem_toArray, List.getElem_cons_zero, List.getElem_cons_succ]
      go_simp
      refine (c_joinF A1 none c1 0 a.facts [] _ (H1.out.below HB.out) (Rd.nil _ 0 0 _ _) (by simpa using Nat.le_of_succ_le hfl)).mono ?_
      rintro e wq ⟨rF, rfl, oF, hBq⟩
      rw [List.append_nil] at oF
      obtain ⟨F1, e1, rfl, -⟩ := oF.reads
      have OF := Lib.hid (oF.lower (base' := w.heap.size) (by omega))
      clear oF
      replace k0 := k0.next hBq
      replace kx := kx.next hBq
      replace k6 := k6.next hBq
      replace kf := kf.next hBq
      replace HB := Lib.hid (bgo HB.out hBq)
      replace hzq := Nat.le_trans hzq hBq.size
      clear hBq
      refine hK.out _ _ ⟨k0.cell, kf.cell⟩ (fun hHeldN => ?_)
      clear hHeld hK K
      have hHeld := hHeldN
      clear hHeldN
      refine wpAnyH_ready (rs := [6, 9]) (by kernel_rfl) (by simp) ?_
      refine AllReadyH.cons rfl (fun K hK => ?_) (AllReadyH.cons rfl (fun K hK => ?_) (AllReadyH.nil))
      · skip
        try simp only [List.getElem_toArray, List.getElem_cons_zero, List.getElem_cons_succ]
        go_simp
        refine (c_impl_without _ a i _ (hV.out.below HB.out) hi).mono ?_
        rintro e wq ⟨rA, rfl, oA, hBq⟩
        obtain ⟨G1, e2, rfl, fA⟩ := oA.reads
        have FA := Lib.hid fA
        replace OF := Lib.hid (OF.out.below hBq)
        clear oA fA
        replace k0 := k0.next hBq
        replace kx := kx.next hBq
        replace k6 := k6.next hBq
        replace kf := kf.next hBq
        replace HB := Lib.hid (bgo HB.out hBq)
        replace hzq := Nat.le_trans hzq hBq.size
        clear hBq
        refine hK.out _ _ ⟨k0.cell, kf.cell⟩ (fun hHeldN => ?_)
        clear hHeld hK K
        have hHeld := hHeldN
        clear hHeldN
        refine wpAnyH_ready (rs := [7, 9]) (by kernel_rfl) (by simp) ?_
        refine AllReadyH.cons rfl (fun K hK => ?_) (AllReadyH.cons rfl (fun K hK => ?_) (AllReadyH.nil))
        · skip
          try simp only [List.getElem_toArray, List.getElem_cons_zero, List.getElem_cons_succ]
          go_simp
          refine (c_joinA (some ⟨w.heap.size + 2 + 1, 0, none⟩) G1 1 e2 [⟨1, t, x.b⟩] (withoutL a.atoms i) _ (AtomsV.one (f := ⟨1, t, x.b⟩) kf) FA.out (by simp <;> omega)).mono ?_
          rintro e wq ⟨rB, rfl, oB, hBq⟩
          obtain ⟨G2, e3, rfl, -⟩ := oB.reads
          rw [HBL.out] at oB
          have OB := Lib.hid (oB.lower (base' := w.heap.size) (by omega))
          replace OF := Lib.hid (OF.out.below hBq)
          clear oB
          replace k0 := k0.next hBq
          replace kx := kx.next hBq
          replace k6 := k6.next hBq
          replace kf := kf.next hBq
          replace HB := Lib.hid (bgo HB.out hBq)
          replace hzq := Nat.le_trans hzq hBq.size
          clear hBq
          refine hK.out _ _ ⟨k0.cell, kf.cell⟩ (fun hHeldN => ?_)
          clear hHeld hK K
          have hHeld := hHeldN
          clear hHeldN
          refine wpAnyH_take (i := 8) (v := ?_) rfl (by kernel_rfl) (by kernel_rfl) (by kernel_rfl) (fun _ _ _ h => h) (Or.inl ⟨by rfl, fun w hSw => ?_⟩) hHeld ?_
          rotate_left
          · ((try dsimp only at hSw); go_split_ands; go_simp; (try with_reducible rfl))
          try simp only [Act.put, List.getElem_toArray, List.getElem_cons_zero, List.getElem_cons_succ, List.setIfInBounds_toArray, List.set_cons_zero, List.set_cons_succ]
          refine wpAnyH_ready (rs := [9]) (by kernel_rfl) (by simp) ?_
          refine AllReadyH.cons rfl (fun K hK => ?_) AllReadyH.nil
          try simp only [List.getElem_toArray, List.getElem_cons_zero, List.getElem_cons_succ]
          go_simp
          refine hK.out _ _ (⟨rowC_ (bbox (Below.refl _ _) _) k0.lt k0.cell, rowC_ (bbox (Below.refl _ _) _) kf.lt kf.cell⟩) (fun hHeldN => ?_)
          clear hHeld hK K
          have hHeld := hHeldN
          clear hHeldN
          try simp only [Act.put, List.getElem_toArray, List.getElem_cons_zero, List.getElem_cons_succ, List.setIfInBounds_toArray, List.set_cons_zero, List.set_cons_succ]
          have hBq : Below wq.heap.size wq (wq.alloc (.cells #[.slice none 0 0, .slice none 0 0] tAs)) := bbox (Below.refl _ _) _
          have kBox : Blk (wq.alloc (.cells #[.slice none 0 0, .slice none 0 0] tAs)) wq.heap.size tAs #[.slice none 0 0, .slice none 0 0] := Blk.new _ _ _
          obtain ⟨xb, hxb⟩ : ∃ x, x = wq.heap.size := ⟨_, rfl⟩
          have hxb2 : W.heap.size ≤ xb := by omega
          replace k0 := k0.next hBq
          replace kx := kx.next hBq
          replace k6 := k6.next hBq
          replace kf := kf.next hBq
          replace HB := Lib.hid (bgo HB.out hBq)
          replace hzq := Nat.le_trans hzq hBq.size
          try replace OF := Lib.hid (OF.out.below hBq)
          try replace FA := Lib.hid (FA.out.below hBq)
          try replace OB := Lib.hid (OB.out.below hBq)
          rw [← hxb] at kBox ⊢
          clear hBq hxb
          generalize wq.alloc (.cells #[.slice none 0 0, .slice none 0 0] tAs) = wq at *
          have hlB := kBox.lt
          have qb := kBox.cell
          have rb := kBox.frozen
          refine wpAnyH_ready (rs := [10]) (by kernel_rfl) (by simp) ?_
          refine AllReadyH.cons rfl (fun K hK => ?_) AllReadyH.nil
          try simp only [List.getElem_toArray, List.getElem_cons_zero, List.getElem_cons_succ]
          go_simp
          refine hK.out _ _ (⟨((k0.far (p := ⟨xb, 0, none⟩) (by simp only; omega) _).far (p := ⟨xb, 1, none⟩) (by simp only; omega) _).cell, ((kf.far (p := ⟨xb, 0, none⟩) (kf.ne_ kBox (by decide)) _).far (p := ⟨xb, 1, none⟩) (kf.ne_ kBox (by decide)) _).cell⟩) (fun hHeldN => ?_)
          clear hHeld hK K
          have hHeld := hHeldN
          clear hHeldN
          try simp only [Act.put, List.getElem_toArray, List.getElem_cons_zero, List.getElem_cons_succ, List.setIfInBounds_toArray, List.set_cons_zero, List.set_cons_succ]
          refine wpAnyH_done (by kernel_rfl) ?_ _
          refine NoPanic.normal ?_
          go_wp2_with fail
          go_meet
          case rel =>
            refine ⟨xb, F1, e1, G2, e3, rfl, Lib.hid ((OF.out.setT kBox (by decide) 0 _).setT (kBox.set_ 0 _) (by decide) 1 _), Lib.hid ((OB.out.setT kBox (by decide) 0 _).setT (kBox.set_ 0 _) (by decide) 1 _), ?_, (kx.far (p := ⟨xb, 0, none⟩) (kx.ne_ kBox (by decide)) _).far (p := ⟨xb, 1, none⟩) (kx.ne_ kBox (by decide)) _, (k6.far (p := ⟨xb, 0, none⟩) (by simp only; omega) _).far (p := ⟨xb, 1, none⟩) (by simp only; omega) _, by omega, Lib.hid ((HB.out.setCell (p := ⟨xb, 0, none⟩) (by simp only; omega) _).setCell (p := ⟨xb, 1, none⟩) (by simp only; omega) _)⟩
            have := (kBox.set_ 0 (.slice F1 a.facts.length e1)).set_ 1 (.slice G2 a.atoms.length e3)
            simpa using this
        · skip
          try simp only [List.getElem_toArray, List.getElem_cons_zero, List.getElem_cons_succ]
          go_simp
          refine hK.out _ _ ⟨rowC_ (bbox (Below.refl _ _) _) k0.lt k0.cell, rowC_ (bbox (Below.refl _ _) _) kf.lt kf.cell⟩ (fun hHeldN => ?_)
          clear hHeld hK K
          have hHeld := hHeldN
          clear hHeldN
          have hBq : Below wq.heap.size wq (wq.alloc (.cells #[.slice none 0 0, .slice none 0 0] tAs)) := bbox (Below.refl _ _) _
          have kBox : Blk (wq.alloc (.cells #[.slice none 0 0, .slice none 0 0] tAs)) wq.heap.size tAs #[.slice none 0 0, .slice none 0 0] := Blk.new _ _ _
          obtain ⟨xb, hxb⟩ : ∃ x, x = wq.heap.size := ⟨_, rfl⟩
          have hxb2 : W.heap.size ≤ xb := by omega
          replace k0 := k0.next hBq
          replace kx := kx.next hBq
          replace k6 := k6.next hBq
          replace kf := kf.next hBq
          replace HB := Lib.hid (bgo HB.out hBq)
          replace hzq := Nat.le_trans hzq hBq.size
          try replace OF := Lib.hid (OF.out.below hBq)
          try replace FA := Lib.hid (FA.out.below hBq)
          try replace OB := Lib.hid (OB.out.below hBq)
          rw [← hxb] at kBox ⊢
          clear hBq hxb
          generalize wq.alloc (.cells #[.slice none 0 0, .slice none 0 0] tAs) = wq at *
          refine wpAnyH_ready (rs := [7]) (by kernel_rfl) (by simp) ?_
          refine AllReadyH.cons rfl (fun K hK => ?_) AllReadyH.nil
          try simp only [List.getElem_toArray, List.getElem_cons_zero, List.getElem_cons_succ]
          (go_simp; refine (c_joinA (some ⟨w.heap.size + 2 + 1, 0, none⟩) G1 1 e2 [⟨1, t, x.b⟩] (withoutL a.atoms i) _ (AtomsV.one (f := ⟨1, t, x.b⟩) kf) FA.out (by simp <;> omega)).mono ?_; rintro e wq ⟨rB, rfl, oB, hBq⟩; obtain ⟨G2, e3, rfl, -⟩ := oB.reads; rw [HBL.out] at oB; have OB := Lib.hid (oB.lower (base' := w.heap.size) (by omega)); replace OF := Lib.hid (OF.out.below hBq); clear oB; replace k0 := k0.next hBq; replace kx := kx.next hBq; replace k6 := k6.next hBq; replace kf := kf.next hBq; replace HB := Lib.hid (bgo HB.out hBq); replace hzq := Nat.le_trans hzq hBq.size; have kBox := kBox.next hBq)
          refine hK.out _ _ (⟨k0.cell, kf.cell⟩) (fun hHeldN => ?_)
          clear hHeld hK K
          have hHeld := hHeldN
          clear hHeldN
          try simp only [Act.put, List.getElem_toArray, List.getElem_cons_zero, List.getElem_cons_succ, List.setIfInBounds_toArray, List.set_cons_zero, List.set_cons_succ]
          clear hBq
          refine wpAnyH_take (i := 8) (v := ?_) rfl (by kernel_rfl) (by kernel_rfl) (by kernel_rfl) (fun _ _ _ h => h) (Or.inl ⟨by rfl, fun w hSw => ?_⟩) hHeld ?_
          rotate_left
          · ((try dsimp only at hSw); go_split_ands; go_simp; (try with_reducible rfl))
          try simp only [Act.put, List.getElem_toArray, List.getElem_cons_zero, List.getElem_cons_succ, List.setIfInBounds_toArray, List.set_cons_zero, List.set_cons_succ]
          have hlB := kBox.lt
          have qb := kBox.cell
          have rb := kBox.frozen
          refine wpAnyH_ready (rs := [10]) (by kernel_rfl) (by simp) ?_
          refine AllReadyH.cons rfl (fun K hK => ?_) AllReadyH.nil
          try simp only [List.getElem_toArray, List.getElem_cons_zero, List.getElem_cons_succ]
          go_simp
          refine hK.out _ _ (⟨((k0.far (p := ⟨xb, 0, none⟩) (by simp only; omega) _).far (p := ⟨xb, 1, none⟩) (by simp only; omega) _).cell, ((kf.far (p := ⟨xb, 0, none⟩) (kf.ne_ kBox (by decide)) _).far (p := ⟨xb, 1, none⟩) (kf.ne_ kBox (by decide)) _).cell⟩) (fun hHeldN => ?_)
          clear hHeld hK K
          have hHeld := hHeldN
          clear hHeldN
          try simp only [Act.put, List.getElem_toArray, List.getElem_cons_zero, List.getElem_cons_succ, List.setIfInBounds_toArray, List.set_cons_zero, List.set_cons_succ]
          refine wpAnyH_done (by kernel_rfl) ?_ _
          refine NoPanic.normal ?_
          go_wp2_with fail
          go_meet
          case rel =>
            refine ⟨xb, F1, e1, G2, e3, rfl, Lib.hid ((OF.out.setT kBox (by decide) 0 _).setT (kBox.set_ 0 _) (by decide) 1 _), Lib.hid ((OB.out.setT kBox (by decide) 0 _).setT (kBox.set_ 0 _) (by decide) 1 _), ?_, (kx.far (p := ⟨xb, 0, none⟩) (kx.ne_ kBox (by decide)) _).far (p := ⟨xb, 1, none⟩) (kx.ne_ kBox (by decide)) _, (k6.far (p := ⟨xb, 0, none⟩) (by simp only; omega) _).far (p := ⟨xb, 1, none⟩) (by simp only; omega) _, by omega, Lib.hid ((HB.out.setCell (p := ⟨xb, 0, none⟩) (by simp only; omega) _).setCell (p := ⟨xb, 1, none⟩) (by simp only; omega) _)⟩
            have := (kBox.set_ 0 (.slice F1 a.facts.length e1)).set_ 1 (.slice G2 a.atoms.length e3)
            simpa using this
      · skip
        try simp only [List.getElem_toArray, List.getElem_cons_zero, List.getElem_cons_succ]
        go_simp
        refine hK.out _ _ ⟨rowC_ (bbox (Below.refl _ _) _) k0.lt k0.cell, rowC_ (bbox (Below.refl _ _) _) kf.lt kf.cell⟩ (fun hHeldN => ?_)
        clear hHeld hK K
        have hHeld := hHeldN
        clear hHeldN
        have hBq : Below wq.heap.size wq (wq.alloc (.cells #[.slice none 0 0, .slice none 0 0] tAs)) := bbox (Below.refl _ _) _
        have kBox : Blk (wq.alloc (.cells #[.slice none 0 0, .slice none 0 0] tAs)) wq.heap.size tAs #[.slice none 0 0, .slice none 0 0] := Blk.new _ _ _
        obtain ⟨xb, hxb⟩ : ∃ x, x = wq.heap.size := ⟨_, rfl⟩
        have hxb2 : W.heap.size ≤ xb := by omega
        replace k0 := k0.next hBq
        replace kx := kx.next hBq
        replace k6 := k6.next hBq
        replace kf := kf.next hBq
        replace HB := Lib.hid (bgo HB.out hBq)
        replace hzq := Nat.le_trans hzq hBq.size
        try replace OF := Lib.hid (OF.out.below hBq)
        try replace FA := Lib.hid (FA.out.below hBq)
        try replace OB := Lib.hid (OB.out.below hBq)
        rw [← hxb] at kBox ⊢
        clear hBq hxb
        generalize wq.alloc (.cells #[.slice none 0 0, .slice none 0 0] tAs) = wq at *
        refine wpAnyH_ready (rs := [6]) (by kernel_rfl) (by simp) ?_
        refine AllReadyH.cons rfl (fun K hK => ?_) AllReadyH.nil
        try simp only [List.getElem_toArray, List.getElem_cons_zero, List.getElem_cons_succ]
        (go_simp; refine (c_impl_without _ a i _ (hV.out.below HB.out) hi).mono ?_; rintro e wq ⟨rA, rfl, oA, hBq⟩; obtain ⟨G1, e2, rfl, fA⟩ := oA.reads; have FA := Lib.hid fA; replace OF := Lib.hid (OF.out.below hBq); clear oA fA; replace k0 := k0.next hBq; replace kx := kx.next hBq; replace k6 := k6.next hBq; replace kf := kf.next hBq; replace HB := Lib.hid (bgo HB.out hBq); replace hzq := Nat.le_trans hzq hBq.size; have kBox := kBox.next hBq)
        refine hK.out _ _ (⟨k0.cell, kf.cell⟩) (fun hHeldN => ?_)
        clear hHeld hK K
        have hHeld := hHeldN
        clear hHeldN
        try simp only [Act.put, List.getElem_toArray, List.getElem_cons_zero, List.getElem_cons_succ, List.setIfInBounds_toArray, List.set_cons_zero, List.set_cons_succ]
        clear hBq
        refine wpAnyH_ready (rs := [7]) (by kernel_rfl) (by simp) ?_
        refine AllReadyH.cons rfl (fun K hK => ?_) AllReadyH.nil
        try simp only [List.getElem_toArray, List.getElem_cons_zero, List.getElem_cons_succ]
        (go_simp; refine (c_joinA (some ⟨w.heap.size + 2 + 1, 0, none⟩) G1 1 e2 [⟨1, t, x.b⟩] (withoutL a.atoms i) _ (AtomsV.one (f := ⟨1, t, x.b⟩) kf) FA.out (by simp <;> omega)).mono ?_; rintro e wq ⟨rB, rfl, oB, hBq⟩; obtain ⟨G2, e3, rfl, -⟩ := oB.reads; rw [HBL.out] at oB; have OB := Lib.hid (oB.lower (base' := w.heap.size) (by omega)); replace OF := Lib.hid (OF.out.below hBq); clear oB; replace k0 := k0.next hBq; replace kx := kx.next hBq; replace k6 := k6.next hBq; replace kf := kf.next hBq; replace HB := Lib.hid (bgo HB.out hBq); replace hzq := Nat.le_trans hzq hBq.size; have kBox := kBox.next hBq)
        refine hK.out _ _ (⟨k0.cell, kf.cell⟩) (fun hHeldN => ?_)
        clear hHeld hK K
        have hHeld := hHeldN
        clear hHeldN
        try simp only [Act.put, List.getElem_toArray, List.getElem_cons_zero, List.getElem_cons_succ, List.setIfInBounds_toArray, List.set_cons_zero, List.set_cons_succ]
        clear hBq
        refine wpAnyH_take (i := 8) (v := ?_) rfl (by kernel_rfl) (by kernel_rfl) (by kernel_rfl) (fun _ _ _ h => h) (Or.inl ⟨by rfl, fun w hSw => ?_⟩) hHeld ?_
        rotate_left
        · ((try dsimp only at hSw); go_split_ands; go_simp; (try with_reducible rfl))
        try simp only [Act.put, List.getElem_toArray, List.getElem_cons_zero, List.getElem_cons_succ, List.setIfInBounds_toArray, List.set_cons_zero, List.set_cons_succ]
        have hlB := kBox.lt
        have qb := kBox.cell
        have rb := kBox.frozen
        refine wpAnyH_ready (rs := [10]) (by kernel_rfl) (by simp) ?_
        refine AllReadyH.cons rfl (fun K hK => ?_) AllReadyH.nil
        try simp only [List.getElem_toArray, List.getElem_cons_zero, List.getElem_cons_succ]
        go_simp
        refine hK.out _ _ (⟨((k0.far (p := ⟨xb, 0, none⟩) (by simp only; omega) _).far (p := ⟨xb, 1, none⟩) (by simp only; omega) _).cell, ((kf.far (p := ⟨xb, 0, none⟩) (kf.ne_ kBox (by decide)) _).far (p := ⟨xb, 1, none⟩) (kf.ne_ kBox (by decide)) _).cell⟩) (fun hHeldN => ?_)
        clear hHeld hK K
        have hHeld := hHeldN
        clear hHeldN
        try simp only [Act.put, List.getElem_toArray, List.getElem_cons_zero, List.getElem_cons_succ, List.setIfInBounds_toArray, List.set_cons_zero, List.set_cons_succ]
        refine wpAnyH_done (by kernel_rfl) ?_ _
        refine NoPanic.normal ?_
        go_wp2_with fail
        go_meet
        case rel =>
          refine ⟨xb, F1, e1, G2, e3, rfl, Lib.hid ((OF.out.setT kBox (by decide) 0 _).setT (kBox.set_ 0 _) (by decide) 1 _), Lib.hid ((OB.out.setT kBox (by decide) 0 _).setT (kBox.set_ 0 _) (by decide) 1 _), ?_, (kx.far (p := ⟨xb, 0, none⟩) (kx.ne_ kBox (by decide)) _).far (p := ⟨xb, 1, none⟩) (kx.ne_ kBox (by decide)) _, (k6.far (p := ⟨xb, 0, none⟩) (by simp only; omega) _).far (p := ⟨xb, 1, none⟩) (by simp only; omega) _, by omega, Lib.hid ((HB.out.setCell (p := ⟨xb, 0, none⟩) (by simp only; omega) _).setCell (p := ⟨xb, 1, none⟩) (by simp only; omega) _)⟩
          have := (kBox.set_ 0 (.slice F1 a.facts.length e1)).set_ 1 (.slice G2 a.atoms.length e3)
          simpa using this
    · skip
      try simp only [List.getElem_toArray, List.getElem_cons_zero, List.getElem_cons_succ]
      go_simp
      refine hK.out _ _ ⟨rowC_ (bbox (Below.refl _ _) _) k0.lt k0.cell, rowC_ (bbox (Below.refl _ _) _) kf.lt kf.cell⟩ (fun hHeldN => ?_)
      clear hHeld hK K
      have hHeld := hHeldN
      clear hHeldN
      have hBq : Below wq.heap.size wq (wq.alloc (.cells #[.slice none 0 0, .slice none 0 0] tAs)) := bbox (Below.refl _ _) _
      have kBox : Blk (wq.alloc (.cells #[.slice none 0 0, .slice none 0 0] tAs)) wq.heap.size tAs #[.slice none 0 0, .slice none 0 0] := Blk.new _ _ _
      obtain ⟨xb, hxb⟩ : ∃ x, x = wq.heap.size := ⟨_, rfl⟩
      have hxb2 : W.heap.size ≤ xb := by omega
      replace k0 := k0.next hBq
      replace kx := kx.next hBq
      replace k6 := k6.next hBq
      replace kf := kf.next hBq
      replace HB := Lib.hid (bgo HB.out hBq)
      replace hzq := Nat.le_trans hzq hBq.size
      try replace OF := Lib.hid (OF.out.below hBq)
      try replace FA := Lib.hid (FA.out.below hBq)
      try replace OB := Lib.hid (OB.out.below hBq)
      rw [← hxb] at kBox ⊢
      clear hBq hxb
      generalize wq.alloc (.cells #[.slice none 0 0, .slice none 0 0] tAs) = wq at *
      refine wpAnyH_ready (rs := [2]) (by kernel_rfl) (by simp) ?_
      refine AllReadyH.cons rfl (fun K hK => ?_) AllReadyH.nil
      try simp only [List.getElem_toArray, List.getElem_cons_zero, List.getElem_cons_succ]
      (go_simp; refine (c_joinF A1 none c1 0 a.facts [] _ (H1.out.below HB.out) (Rd.nil _ 0 0 _ _) (by simpa using Nat.le_of_succ_le hfl)).mono ?_; rintro e wq ⟨rF, rfl, oF, hBq⟩; rw [List.append_nil] at oF; obtain ⟨F1, e1, rfl, -⟩ := oF.reads; have OF := Lib.hid (oF.lower (base' := w.heap.size) (by omega)); clear oF; replace k0 := k0.next hBq; replace kx := kx.next hBq; replace k6 := k6.next hBq; replace kf := kf.next hBq; replace HB := Lib.hid (bgo HB.out hBq); replace hzq := Nat.le_trans hzq hBq.size; have kBox := kBox.next hBq)
      refine hK.out _ _ (⟨k0.cell, kf.cell⟩) (fun hHeldN => ?_)
      clear hHeld hK K
      have hHeld := hHeldN
      clear hHeldN
      try simp only [Act.put, List.getElem_toArray, List.getElem_cons_zero, List.getElem_cons_succ, List.setIfInBounds_toArray, List.set_cons_zero, List.set_cons_succ]
      clear hBq
      refine wpAnyH_ready (rs := [6]) (by kernel_rfl) (by simp) ?_
      refine AllReadyH.cons rfl (fun K hK => ?_) AllReadyH.nil
      try simp only [List.getElem_toArray, List.getElem_cons_zero, List.getElem_cons_succ]
      (go_simp; refine (c_impl_without _ a i _ (hV.out.below HB.out) hi).mono ?_; rintro e wq ⟨rA, rfl, oA, hBq⟩; obtain ⟨G1, e2, rfl, fA⟩ := oA.reads; have FA := Lib.hid fA; replace OF := Lib.hid (OF.out.below hBq); clear oA fA; replace k0 := k0.next hBq; replace kx := kx.next hBq; replace k6 := k6.next hBq; replace kf := kf.next hBq; replace HB := Lib.hid (bgo HB.out hBq); replace hzq := Nat.le_trans hzq hBq.size; have kBox := kBox.next hBq)
      refine hK.out _ _ (⟨k0.cell, kf.cell⟩) (fun hHeldN => ?_)
      clear hHeld hK K
      have hHeld := hHeldN
      clear hHeldN
      try simp only [Act.put, List.getElem_toArray, List.getElem_cons_zero, List.getElem_cons_succ, List.setIfInBounds_toArray, List.set_cons_zero, List.set_cons_succ]
      clear hBq
      refine wpAnyH_ready (rs := [7]) (by kernel_rfl) (by simp) ?_
      refine AllReadyH.cons rfl (fun K hK => ?_) AllReadyH.nil
      try simp only [List.getElem_toArray, List.getElem_cons_zero, List.getElem_cons_succ]
      (go_simp; refine (c_joinA (some ⟨w.heap.size + 2 + 1, 0, none⟩) G1 1 e2 [⟨1, t, x.b⟩] (withoutL a.atoms i) _ (AtomsV.one (f := ⟨1, t, x.b⟩) kf) FA.out (by simp <;> omega)).mono ?_; rintro e wq ⟨rB, rfl, oB, hBq⟩; obtain ⟨G2, e3, rfl, -⟩ := oB.reads; rw [HBL.out] at oB; have OB := Lib.hid (oB.lower (base' := w.heap.size) (by omega)); replace OF := Lib.hid (OF.out.below hBq); clear oB; replace k0 := k0.next hBq; replace kx := kx.next hBq; replace k6 := k6.next hBq; replace kf := kf.next hBq; replace HB := Lib.hid (bgo HB.out hBq); replace hzq := Nat.le_trans hzq hBq.size; have kBox := kBox.next hBq)
      refine hK.out _ _ (⟨k0.cell, kf.cell⟩) (fun hHeldN => ?_)
      clear hHeld hK K
      have hHeld := hHeldN
      clear hHeldN
      try simp only [Act.put, List.getElem_toArray, List.getElem_cons_zero, List.getElem_cons_succ, List.setIfInBounds_toArray, List.set_cons_zero, List.set_cons_succ]
      clear hBq
      refine wpAnyH_take (i := 8) (v := ?_) rfl (by kernel_rfl) (by kernel_rfl) (by kernel_rfl) (fun _ _ _ h => h) (Or.inl ⟨by rfl, fun w hSw => ?_⟩) hHeld ?_
      rotate_left
      · ((try dsimp only at hSw); go_split_ands; go_simp; (try with_reducible rfl))
      try simp only [Act.put, List.getElem_toArray, List.getElem_cons_zero, List.getElem_cons_succ, List.setIfInBounds_toArray, List.set_cons_zero, List.set_cons_succ]
      have hlB := kBox.lt
      have qb := kBox.cell
      have rb := kBox.frozen
      refine wpAnyH_ready (rs := [10]) (by kernel_rfl) (by simp) ?_
      refine AllReadyH.cons rfl (fun K hK => ?_) AllReadyH.nil
      try simp only [List.getElem_toArray, List.getElem_cons_zero, List.getElem_cons_succ]
      go_simp
      refine hK.out _ _ (⟨((k0.far (p := ⟨xb, 0, none⟩) (by simp only; omega) _).far (p := ⟨xb, 1, none⟩) (by simp only; omega) _).cell, ((kf.far (p := ⟨xb, 0, none⟩) (kf.ne_ kBox (by decide)) _).far (p := ⟨xb, 1, none⟩) (kf.ne_ kBox (by decide)) _).cell⟩) (fun hHeldN => ?_)
      clear hHeld hK K
      have hHeld := hHeldN
      clear hHeldN
      try simp only [Act.put, List.getElem_toArray, List.getElem_cons_zero, List.getElem_cons_succ, List.setIfInBounds_toArray, List.set_cons_zero, List.set_cons_succ]
      refine wpAnyH_done (by kernel_rfl) ?_ _
      refine NoPanic.normal ?_
      go_wp2_with fail
      go_meet
      case rel =>
        refine ⟨xb, F1, e1, G2, e3, rfl, Lib.hid ((OF.out.setT kBox (by decide) 0 _).setT (kBox.set_ 0 _) (by decide) 1 _), Lib.hid ((OB.out.setT kBox (by decide) 0 _).setT (kBox.set_ 0 _) (by decide) 1 _), ?_, (kx.far (p := ⟨xb, 0, none⟩) (kx.ne_ kBox (by decide)) _).far (p := ⟨xb, 1, none⟩) (kx.ne_ kBox (by decide)) _, (k6.far (p := ⟨xb, 0, none⟩) (by simp only; omega) _).far (p := ⟨xb, 1, none⟩) (by simp only; omega) _, by omega, Lib.hid ((HB.out.setCell (p := ⟨xb, 0, none⟩) (by simp only; omega) _).setCell (p := ⟨xb, 1, none⟩) (by simp only; omega) _)⟩
        have := (kBox.set_ 0 (.slice F1 a.facts.length e1)).set_ 1 (.slice G2 a.atoms.length e3)
        simpa using this
  case rest =>
    obtain ⟨xb, F1, e1, G2, e3, rfl, OF, OB, kb, kx, k6, hxb, HB⟩ := hcut
    have hl0 := kb.lt
    by_cases hxt : x.a = t
    · have HXE : Hid (cellX a x i t = ⟨a.facts, [⟨1, t, x.b⟩] ++ withoutL a.atoms i⟩) := Lib.hid (by unfold cellX; rw [if_pos hxt, List.append_nil]; rfl)
      have HVX : Hid (AsnV wc 0 wc.heap.size (.agg #[.slice F1 a.facts.length e1, .slice G2 a.atoms.length e3]) (cellX a x i t)) := Lib.hid (by
        rw [HXE.out]
        refine ⟨F1, e1, G2, e3, ?_, OF.out.readsI.2.mono (Nat.zero_le _) (Nat.le_refl _), OB.out.readsI.2.mono (Nat.zero_le _) (Nat.le_refl _)⟩
        rw [HBL.out])
      have hb : (x.a != t) = false := by simpa using hxt
      clear hxt
      (replace qkb := kb.cell; replace rkb := kb.frozen; replace lkb := kb.lt; replace qkx := kx.cell; replace rkx := kx.frozen; replace lkx := kx.lt; replace qk6 := k6.cell; replace rk6 := k6.frozen; replace lk6 := k6.lt)
      go_upto_region 6 with fail
      clear qkx rkx lkx
      refine wp_region_noPanic ?_
      refine wp_region_held_drew (S := (fun w' => ∀ i, w'.cell? ⟨xb, i, none⟩ = #[.slice F1 a.facts.length e1, .slice G2 a.atoms.length e3][i]?)) (by kernel_rfl) (kb.drew.cell) (fun hHeld => ?_)
      refine wpAnyH_take (i := 0) (v := ?_) rfl (by kernel_rfl) (by kernel_rfl) (by kernel_rfl) (fun _ _ _ h => h) (Or.inl ⟨by rfl, fun w hSw => ?_⟩) hHeld ?_
      rotate_left
      · ((try dsimp only at hSw); go_split_ands; go_simp; (try with_reducible rfl))
      try simp only [Act.put, List.getElem_toArray, List.getElem_cons_zero, List.getElem_cons_succ, List.setIfInBounds_toArray, List.set_cons_zero, List.set_cons_succ]
      refine wpAnyH_take (i := 1) (v := ?_) rfl (by kernel_rfl) (by kernel_rfl) (by kernel_rfl) (fun _ _ _ h => h) (Or.inl ⟨by rfl, fun w hSw => ?_⟩) hHeld ?_
      rotate_left
      · ((try dsimp only at hSw); go_split_ands; go_simp; (try with_reducible rfl))
      try simp only [Act.put, List.getElem_toArray, List.getElem_cons_zero, List.getElem_cons_succ, List.setIfInBounds_toArray, List.set_cons_zero, List.set_cons_succ]
      refine wpAnyH_ready (rs := [2]) (by kernel_rfl) (by simp) ?_
      refine AllReadyH.cons rfl (fun K hK => ?_) AllReadyH.nil
      try simp only [List.getElem_toArray, List.getElem_cons_zero, List.getElem_cons_succ]
      (go_simp; refine (c_impl_AssertionValid _ (cellX a x i t) _ (HVX.out.below (Below.refl _ _).drew)).mono ?_; rintro e w8 ⟨rfl, hB8⟩; replace hB8 : Below wc.heap.size wc w8 := (Below.refl _ _).drew.trans hB8; have kb8 := kb.next hB8; have k68 := k6.next hB8; have OF8 := Lib.hid (OF.out.below hB8); have OB8 := Lib.hid (OB.out.below hB8); have HB8 := Lib.hid (bgo HB.out hB8); clear hB8)
      refine hK.out _ _ (kb8.cell) (fun hHeldN => ?_)
      clear hHeld hK K
      have hHeld := hHeldN
      clear hHeldN
      try simp only [Act.put, List.getElem_toArray, List.getElem_cons_zero, List.getElem_cons_succ, List.setIfInBounds_toArray, List.set_cons_zero, List.set_cons_succ]
      have q68 := k68.cell
      have r68 := k68.frozen
      have l68 := k68.lt
      refine wpAnyH_ready (rs := [3]) (by kernel_rfl) (by simp) ?_
      refine AllReadyH.cons rfl (fun K hK => ?_) AllReadyH.nil
      try simp only [List.getElem_toArray, List.getElem_cons_zero, List.getElem_cons_succ]
      go_simp
      refine hK.out _ _ (((kb8.far (p := ⟨w.heap.size + 1, 0, none⟩) (by simp only; omega) _).far (p := ⟨w.heap.size + 1, 1, none⟩) (by simp only; omega) _).cell) (fun hHeldN => ?_)
      clear hHeld hK K
      have hHeld := hHeldN
      clear hHeldN
      try simp only [Act.put, List.getElem_toArray, List.getElem_cons_zero, List.getElem_cons_succ, List.setIfInBounds_toArray, List.set_cons_zero, List.set_cons_succ]
      refine wpAnyH_ready (rs := [4]) (by kernel_rfl) (by simp) ?_
      refine AllReadyH.cons rfl (fun K hK => ?_) AllReadyH.nil
      try simp only [List.getElem_toArray, List.getElem_cons_zero, List.getElem_cons_succ]
      go_simp
      refine hK.out _ _ (((kb8.far (p := ⟨w.heap.size + 1, 0, none⟩) (by simp only; omega) _).far (p := ⟨w.heap.size + 1, 1, none⟩) (by simp only; omega) _).cell) (fun hHeldN => ?_)
      clear hHeld hK K
      have hHeld := hHeldN
      clear hHeldN
      try simp only [Act.put, List.getElem_toArray, List.getElem_cons_zero, List.getElem_cons_succ, List.setIfInBounds_toArray, List.set_cons_zero, List.set_cons_succ]
      refine wpAnyH_done (by kernel_rfl) ?_ _
      refine NoPanic.normal ?_
      go_wp2_with fail
      have z6 := ((k68.set_ 0 (.slice F1 a.facts.length e1)).set_ 1 (.slice G2 a.atoms.length e3)).cell
      refine bodyPost_ret (v := .tuple #[.agg #[.slice F1 a.facts.length e1, .slice G2 a.atoms.length e3], .bool (cellX a x i t).valid]) (by simp [results, Try.results83, go_sem, z6]) rfl ⟨_, rfl, ⟨_, _, rfl, ?_, ?_⟩, ?_⟩
      · rw [HXE.out]
        exact (OF8.out.setT k68 (by decide) 0 _).setT (k68.set_ 0 _) (by decide) 1 _
      · rw [HXE.out]
        exact (OB8.out.setT k68 (by decide) 0 _).setT (k68.set_ 0 _) (by decide) 1 _
      · exact (HB8.out.setCell (p := ⟨w.heap.size + 1, 0, none⟩) (by simp only; omega) _).setCell (p := ⟨w.heap.size + 1, 1, none⟩) (by simp only; omega) _
    · have HXE : Hid (cellX a x i t = ⟨a.facts ++ [⟨true, x.a, t⟩], [⟨1, t, x.b⟩] ++ withoutL a.atoms i⟩) := Lib.hid (by unfold cellX; rw [if_neg hxt]; rfl)
      have hb : (x.a != t) = true := by simpa using hxt
      clear hxt
      have hzw : w.heap.size ≤ wc.heap.size := HB.out.size
      (replace qkb := kb.cell; replace rkb := kb.frozen; replace lkb := kb.lt; replace qkx := kx.cell; replace rkx := kx.frozen; replace lkx := kx.lt; replace qk6 := k6.cell; replace rk6 := k6.frozen; replace lk6 := k6.lt)
      go_wp2_with (at_builtin; refine appFL (ys := [⟨true, x.a, t⟩]) (base := w.heap.size) rfl _ _ rfl rfl (OF.out.below bel) rfl (FactsV.one (f := ⟨true, x.a, t⟩) (Blk.new wc tF _)) (by simpa using hfl) (by simp; omega) ?_; intro A6 c6 w6 o6 hg6 hB6; have kO := OF.out.below (w' := wc.alloc (.cells #[.bool true, .int .i64 x.a, .int .i64 t] tF)) bel; have kb6 := Blk.grownO (hg := hg6) (kb.alloc _) kO.1 (by decide); have k66 := Blk.grownO (hg := hg6) (k6.alloc _) kO.1 (by decide); have OB6 : Hid (AtomsO w6 w.heap.size (.slice G2 a.atoms.length e3) ([⟨1, t, x.b⟩] ++ withoutL a.atoms i)) := Lib.hid ⟨own_grownO (OB.out.below (w' := wc.alloc (.cells #[.bool true, .int .i64 x.a, .int .i64 t] tF)) bel).1 kO.1 hg6 (by decide), OB.out.2⟩; have HB6 : Hid (Below w.heap.size w w6) := Lib.hid ((HB.out.alloc hzw _).trans hB6); have OF6 := Lib.hid o6; clear hB6 hg6 o6 kO; have qb6 := kb6.cell; have rb6 := kb6.frozen; have lb6 := kb6.lt)
      have kb7 : Blk (w6.setCell ⟨xb, 0, none⟩ (.slice A6 (a.facts.length + 1) c6)) xb tAs #[.slice A6 (a.facts.length + 1) c6, .slice G2 a.atoms.length e3] := by
        have := kb6.set_ 0 (.slice A6 (a.facts.length + 1) c6)
        simpa using this
      have k67 := k66.far (p := ⟨xb, 0, none⟩) (by simp only; omega) (.slice A6 (a.facts.length + 1) c6)
      have OF7 : Hid (FactsO (w6.setCell ⟨xb, 0, none⟩ (.slice A6 (a.facts.length + 1) c6)) w.heap.size (.slice A6 (a.facts.length + 1) c6) (a.facts ++ [⟨true, x.a, t⟩])) := Lib.hid (by
        have := OF6.out.setT kb6 (by decide) 0 (.slice A6 (a.facts.length + 1) c6)
        simpa using this)
      have OB7 := Lib.hid (OB6.out.setT kb6 (by decide) 0 (.slice A6 (a.facts.length + 1) c6))
      have HB7 := Lib.hid (HB6.out.setCell (p := ⟨xb, 0, none⟩) (by simp only; omega) (.slice A6 (a.facts.length + 1) c6))
      clear qkb rkb lkb qkx rkx lkx qk6 rk6 lk6 qb6 rb6 lb6 kb kx k6 OF OB HB kb6 k66 OF6 OB6 HB6
      generalize (w6.setCell ⟨xb, 0, none⟩ (.slice A6 (a.facts.length + 1) c6)) = W7 at kb7 k67 OF7 OB7 HB7 ⊢
      have kb := kb7
      have k6 := k67
      have OF := OF7
      have OB := OB7
      have HB := HB7
      clear kb7 k67 OF7 OB7 HB7
      have HVX : Hid (AsnV W7 0 W7.heap.size (.agg #[.slice A6 (a.facts.length + 1) c6, .slice G2 a.atoms.length e3]) (cellX a x i t)) := Lib.hid (by
        rw [HXE.out]
        refine ⟨A6, c6, G2, e3, ?_, by simpa using OF.out.readsI.2.mono (Nat.zero_le _) (Nat.le_refl _), OB.out.readsI.2.mono (Nat.zero_le _) (Nat.le_refl _)⟩
        rw [HBL.out]; simp)
      refine wp_region_noPanic ?_
      refine wp_region_held_drew (S := (fun w' => ∀ i, w'.cell? ⟨xb, i, none⟩ = #[.slice A6 (a.facts.length + 1) c6, .slice G2 a.atoms.length e3][i]?)) (by kernel_rfl) (kb.drew.cell) (fun hHeld => ?_)
      refine wpAnyH_take (i := 0) (v := ?_) rfl (by kernel_rfl) (by kernel_rfl) (by kernel_rfl) (fun _ _ _ h => h) (Or.inl ⟨by rfl, fun w hSw => ?_⟩) hHeld ?_
      rotate_left
      · ((try dsimp only at hSw); go_split_ands; go_simp; (try with_reducible rfl))
      try simp only [Act.put, List.getElem_toArray, List.getElem_cons_zero, List.getElem_cons_succ, List.setIfInBounds_toArray, List.set_cons_zero, List.set_cons_succ]
      refine wpAnyH_take (i := 1) (v := ?_) rfl (by kernel_rfl) (by kernel_rfl) (by kernel_rfl) (fun _ _ _ h => h) (Or.inl ⟨by rfl, fun w hSw => ?_⟩) hHeld ?_
      rotate_left
      · ((try dsimp only at hSw); go_split_ands; go_simp; (try with_reducible rfl))
      try simp only [Act.put, List.getElem_toArray, List.getElem_cons_zero, List.getElem_cons_succ, List.setIfInBounds_toArray, List.set_cons_zero, List.set_cons_succ]
      refine wpAnyH_ready (rs := [2]) (by kernel_rfl) (by simp) ?_
      refine AllReadyH.cons rfl (fun K hK => ?_) AllReadyH.nil
      try simp only [List.getElem_toArray, List.getElem_cons_zero, List.getElem_cons_succ]
      (go_simp; refine (c_impl_AssertionValid _ (cellX a x i t) _ (HVX.out.below (Below.refl _ _).drew)).mono ?_; rintro e w8 ⟨rfl, hB8⟩; replace hB8 : Below W7.heap.size W7 w8 := (Below.refl _ _).drew.trans hB8; have kb8 := kb.next hB8; have k68 := k6.next hB8; have OF8 := Lib.hid (OF.out.below hB8); have OB8 := Lib.hid (OB.out.below hB8); have HB8 := Lib.hid (bgo HB.out hB8); clear hB8)
      refine hK.out _ _ (kb8.cell) (fun hHeldN => ?_)
      clear hHeld hK K
      have hHeld := hHeldN
      clear hHeldN
      try simp only [Act.put, List.getElem_toArray, List.getElem_cons_zero, List.getElem_cons_succ, List.setIfInBounds_toArray, List.set_cons_zero, List.set_cons_succ]
      have q68 := k68.cell
      have r68 := k68.frozen
      have l68 := k68.lt
      refine wpAnyH_ready (rs := [3]) (by kernel_rfl) (by simp) ?_
      refine AllReadyH.cons rfl (fun K hK => ?_) AllReadyH.nil
      try simp only [List.getElem_toArray, List.getElem_cons_zero, List.getElem_cons_succ]
      go_simp
      refine hK.out _ _ (((kb8.far (p := ⟨w.heap.size + 1, 0, none⟩) (by simp only; omega) _).far (p := ⟨w.heap.size + 1, 1, none⟩) (by simp only; omega) _).cell) (fun hHeldN => ?_)
      clear hHeld hK K
      have hHeld := hHeldN
      clear hHeldN
      try simp only [Act.put, List.getElem_toArray, List.getElem_cons_zero, List.getElem_cons_succ, List.setIfInBounds_toArray, List.set_cons_zero, List.set_cons_succ]
      refine wpAnyH_ready (rs := [4]) (by kernel_rfl) (by simp) ?_
      refine AllReadyH.cons rfl (fun K hK => ?_) AllReadyH.nil
      try simp only [List.getElem_toArray, List.getElem_cons_zero, List.getElem_cons_succ]
      go_simp
      refine hK.out _ _ (((kb8.far (p := ⟨w.heap.size + 1, 0, none⟩) (by simp only; omega) _).far (p := ⟨w.heap.size + 1, 1, none⟩) (by simp only; omega) _).cell) (fun hHeldN => ?_)
      clear hHeld hK K
      have hHeld := hHeldN
      clear hHeldN
      try simp only [Act.put, List.getElem_toArray, List.getElem_cons_zero, List.getElem_cons_succ, List.setIfInBounds_toArray, List.set_cons_zero, List.set_cons_succ]
      refine wpAnyH_done (by kernel_rfl) ?_ _
      refine NoPanic.normal ?_
      go_wp2_with fail
      have z6 := ((k68.set_ 0 (.slice A6 (a.facts.length + 1) c6)).set_ 1 (.slice G2 a.atoms.length e3)).cell
      refine bodyPost_ret (v := .tuple #[.agg #[.slice A6 (a.facts.length + 1) c6, .slice G2 a.atoms.length e3], .bool (cellX a x i t).valid]) (by simp [results, Try.results83, go_sem, z6]) rfl ⟨_, rfl, ⟨_, _, rfl, ?_, ?_⟩, ?_⟩
      · rw [HXE.out]
        exact (OF8.out.setT k68 (by decide) 0 _).setT (k68.set_ 0 _) (by decide) 1 _
      · rw [HXE.out]
        exact (OB8.out.setT k68 (by decide) 0 _).setT (k68.set_ 0 _) (by decide) 1 _
      · exact (HB8.out.setCell (p := ⟨w.heap.size + 1, 0, none⟩) (by simp only; omega) _).setCell (p := ⟨w.heap.size + 1, 1, none⟩) (by simp only; omega) _
--@
end Go.Proofs.Ytlmjjflalmegfaa
