/- Programs: the laws' copies. -/
import Derived.Test.YtcgifoghggajgaaCmdB
set_option linter.unusedSimpArgs false
set_option linter.unusedVariables false
namespace Go.Proofs.Ytcgifoghggajgaa
open Go Go.RowKit Go.Proofs

theorem AsnI.lo_ {w : World} {lo lo' hi : Nat} {v : Value} {x : Asn} (h : AsnI w lo hi v x) (hl : lo' ≤ lo) : AsnI w lo' hi v x := by
  obtain ⟨fv, av, e, h1, h2⟩ := h; exact ⟨fv, av, e, ⟨h1.1.lower hl, h1.2⟩, ⟨h2.1.lower hl, h2.2⟩⟩
--@ laws.toCmd
set_option maxHeartbeats 1600000 in
theorem c_toCmd {lo hi : Nat} (k a b : Int) (t : Fct) (i : Asn) (A1 A2 A3 A4 : Option Addr) (c1 c2 c3 c4 : Nat) (body els : Cms) (w : World)
    (ha : AsnV w lo hi (.agg #[.slice A1 i.facts.length c1, .slice A2 i.atoms.length c2]) i) (hb : CmsV w lo hi A3 body) (he : CmsV w lo hi A4 els)
    (IB : ∀ (w : World), CmsV w lo hi A3 body → Calls Try.prog 17 #[.slice A3 body.len c3] w fun e w' => ∃ v, e = .returned v ∧ CmsO w' w.heap.size w'.heap.size v body ∧ Below w.heap.size w w')
    (IE : ∀ (w : World), CmsV w lo hi A4 els → Calls Try.prog 17 #[.slice A4 els.len c4] w fun e w' => ∃ v, e = .returned v ∧ CmsO w' w.heap.size w'.heap.size v els ∧ Below w.heap.size w w') :
    Calls Try.prog 77 #[.agg #[.int .i64 k, .int .i64 a, .int .i64 b, .bool t.eq, .int .i64 t.a, .int .i64 t.b, .slice A1 i.facts.length c1, .slice A2 i.atoms.length c2, .slice A3 body.len c3, .slice A4 els.len c4]] w fun e w' =>
      ∃ vF vA vB vE m1 m2 m3, e = .returned (.agg #[.int .i64 k, .int .i64 a, .int .i64 b, .bool t.eq, .int .i64 t.a, .int .i64 t.b, vF, vA, vB, vE]) ∧ w.heap.size ≤ m1 ∧ AsnI w' w.heap.size m1 (.agg #[vF, vA]) i ∧ CmsO w' m1 m2 vB body ∧ CmsO w' m2 m3 vE els ∧ m3 ≤ w'.heap.size ∧ Below w.heap.size w w' := by
  replace IB := Lib.hid IB
  replace IE := Lib.hid IE
  replace ha := Lib.hid ha
  replace hb := Lib.hid hb
  replace he := Lib.hid he
  go_enter Try.func77, Try.ntmps77
  go_wp2_with fail
  refine (c_toFact t _).mono ?_
  rintro e w1 ⟨rfl, hB1⟩
  have hz1 := hB1.size
  have hB := bgo (w := w) bel hB1
  have k0 := (((Blk.new w _ _).alloc _).alloc _).next hB1
  have k1 := ((Blk.new (w.alloc _) _ _).alloc _).next hB1
  have k2 := (Blk.new ((w.alloc _).alloc _) _ _).next hB1
  simp only [World.size_alloc] at k1 k2 hz1
  clear hB1
  have q0 := k0.cell
  have q2 := k2.cell
  have r2 := k2.frozen
  have l0 := k0.lt
  go_wp2_with fail
  clear q0 q2 r2
  refine (c_toAssertion _ i _ (ha.out.below bel)).mono ?_
  rintro e w2 ⟨v2, rfl, ho2, hB2⟩
  have hz2 := hB2.size
  simp only [World.size_setCell] at hz2
  have m0 := Blk.next (g := w.heap.size) blks hB2
  have m1 := Blk.next (g := w.heap.size + 1) blks hB2
  have m2 := Blk.next (g := w.heap.size + 1 + 1) blks hB2
  have hBw2 := bgo (w := w) bel hB2
  replace ho2 := ho2.I
  simp only [World.size_setCell] at ho2
  obtain ⟨vF, vA, rfl, oF, oA⟩ := ho2
  obtain ⟨AF, cF, rfl⟩ := oF.form
  obtain ⟨AA, cA, rfl⟩ := oA.form
  clear k0 k1 k2 hB hB2
  have q0 := m0.cell
  have q2 := m2.cell
  have r2 := m2.frozen
  have l0 := m0.lt
  have oa : AsnI w2 w1.heap.size w2.heap.size (.agg #[.slice AF i.facts.length cF, .slice AA i.atoms.length cA]) i := ⟨_, _, rfl, oF, oA⟩
  replace oa := Lib.hid oa
  clear oF oA
  go_wp2_with fail
  clear q0 q2 r2
  refine (IB.out _ (hb.out.below bel)).mono ?_
  rintro e w3 ⟨v3, rfl, ho3, hB3⟩
  have hz3 := hB3.size
  simp only [World.size_setCell] at hz3 ho3
  have n0 := Blk.next (g := w.heap.size) blks hB3
  have n1 := Blk.next (g := w.heap.size + 1) blks hB3
  have n2 := Blk.next (g := w.heap.size + 1 + 1) blks hB3
  have hBw3 := bgo (w := w) bel hB3
  have M3 : Mk (fun g => w.heap.size + 1 ≤ g ∧ g < w.heap.size + 1 + 1 + 1) w2 w3 := Mk.trans (Mk.set (Mk.set (Mk.refl _ _) ⟨by simp, by simp⟩ _) ⟨by simp, by simp⟩ _) (Mk.below_ hB3)
  obtain ⟨g3, cs3, rfl, p3, K3, z3, u3, o3⟩ := ho3
  have ob : CmsO w3 w2.heap.size w3.heap.size (.slice (some ⟨g3, 0, none⟩) body.len body.len) body := ⟨g3, cs3, rfl, p3, K3, z3, u3, o3⟩
  replace ob := Lib.hid ob
  replace M3 := Lib.hid M3
  clear m0 m1 m2 hBw2 hB3 p3 K3 z3 u3 o3
  have q0 := n0.cell
  have q2 := n2.cell
  have r2 := n2.frozen
  have l0 := n0.lt
  go_wp2_with fail
  clear q0 q2 r2
  refine (IE.out _ (he.out.below bel)).mono ?_
  rintro e w4 ⟨v4, rfl, ho4, hB4⟩
  have hz4 := hB4.size
  simp only [World.size_setCell] at hz4 ho4
  have j1 := Blk.next (g := w.heap.size + 1) blks hB4
  have j2 := Blk.next (g := w.heap.size + 1 + 1) blks hB4
  have hBw4 := bgo (w := w) bel hB4
  have M4 : Mk (fun g => w.heap.size + 1 ≤ g ∧ g < w.heap.size + 1 + 1 + 1) w3 w4 := Mk.trans (Mk.set (Mk.refl _ _) ⟨by simp, by simp⟩ _) (Mk.below_ hB4)
  obtain ⟨g4, cs4, rfl, p4, K4, z4, u4, o4⟩ := ho4
  have oe : CmsO w4 w3.heap.size w4.heap.size (.slice (some ⟨g4, 0, none⟩) els.len els.len) els := ⟨g4, cs4, rfl, p4, K4, z4, u4, o4⟩
  replace oe := Lib.hid oe
  replace M4 := Lib.hid M4
  clear n0 n1 n2 hBw3 hB4 p4 K4 z4 u4 o4
  have q1 := j1.cell
  have r1 := j1.frozen
  have q2 := j2.cell
  have r2 := j2.frozen
  go_wp2_with fail
  have M5 : ∀ {w5 : World}, Mk (fun g => w.heap.size + 1 ≤ g ∧ g < w.heap.size + 1 + 1 + 1) w4 w5 → AsnI w5 w.heap.size w2.heap.size (.agg #[.slice AF i.facts.length cF, .slice AA i.atoms.length cA]) i ∧ CmsO w5 w2.heap.size w3.heap.size (.slice (some ⟨g3, 0, none⟩) body.len body.len) body ∧ CmsO w5 w3.heap.size w4.heap.size (.slice (some ⟨g4, 0, none⟩) els.len els.len) els := fun {w5} M => by
    refine ⟨(((oa.out.mk M3.out (by omega)).mk M4.out (by omega)).mk M (by omega)).lo_ (by omega), (ob.out.mk M4.out (by omega)).mk M (by omega), oe.out.mk M (by omega)⟩
  refine bodyPost_ret (v := .agg #[.int .i64 k, .int .i64 a, .int .i64 b, .bool t.eq, .int .i64 t.a, .int .i64 t.b, .slice AF i.facts.length cF, .slice AA i.atoms.length cA, .slice (some ⟨g3, 0, none⟩) body.len body.len, .slice (some ⟨g4, 0, none⟩) els.len els.len]) (by simp [results, Try.results77, go_sem, q1]) rfl ?_
  refine ⟨_, _, _, _, w2.heap.size, w3.heap.size, w4.heap.size, rfl, by omega, (M5 ?_).1, (M5 ?_).2.1, (M5 ?_).2.2, by simp, bel⟩
  all_goals exact Mk.set (Mk.set (Mk.set (Mk.set (Mk.set (Mk.set (Mk.set (Mk.set (Mk.set (Mk.set (Mk.set (Mk.refl _ _) ⟨by simp, by simp⟩ _) ⟨by simp, by simp⟩ _) ⟨by simp, by simp⟩ _) ⟨by simp, by simp⟩ _) ⟨by simp, by simp⟩ _) ⟨by simp, by simp⟩ _) ⟨by simp, by simp⟩ _) ⟨by simp, by simp⟩ _) ⟨by simp, by simp⟩ _) ⟨by simp, by simp⟩ _) ⟨by simp, by simp⟩ _
--@
end Go.Proofs.Ytcgifoghggajgaa
