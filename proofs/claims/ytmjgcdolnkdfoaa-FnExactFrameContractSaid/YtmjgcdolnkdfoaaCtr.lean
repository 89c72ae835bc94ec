/- Words for the exact laws: contracts in blocks of their own. -/
import Derived.Test.YtmjgcdolnkdfoaaKit
set_option linter.unusedSimpArgs false
set_option linter.unusedVariables false
namespace Go.Proofs.Ytmjgcdolnkdfoaa
open Go Go.RowKit Go.Proofs

def szC (k : Ctr) (left : Int) : Int := if szA k.pre left < 0 then -1 else if szA k.post (szA k.pre left) < 0 then -1 else szL k.changes.length (szA k.post (szA k.pre left))

--@ laws.szContract
set_option maxHeartbeats 800000 in
theorem c_szContract0 (A1 A2 A3 A4 A5 : Option Addr) (c1 c2 c3 c4 c5 : Nat) (k : Ctr) (w : World) (h1 : k.pre.facts.length ≤ 9223372036854775807) (h2 : k.pre.atoms.length ≤ 9223372036854775807) (h3 : k.post.facts.length ≤ 9223372036854775807) (h4 : k.post.atoms.length ≤ 9223372036854775807) (h5 : k.changes.length ≤ 9223372036854775807) (left : Int) (h0 : 0 ≤ left) (hl : left ≤ 1048576) :
    Calls Try.prog 36 #[.agg #[.slice A1 k.pre.facts.length c1, .slice A2 k.pre.atoms.length c2, .slice A3 k.post.facts.length c3, .slice A4 k.post.atoms.length c4, .slice A5 k.changes.length c5], .int .i64 left] w fun e w' => e = .returned (.int .i64 (szC k left)) ∧ Below w.heap.size w w' := by
  have hH : Hid (szC k left = if szA k.pre left < 0 then -1 else if szA k.post (szA k.pre left) < 0 then -1 else szL k.changes.length (szA k.post (szA k.pre left))) := rfl
  by_cases g1 : szA k.pre left < 0
  · go_enter Try.func36, Try.ntmps36
    go_wp2_with (go_at_call 37; refine (c_szAssertion _ _ _ _ _ _ _ h1 h2 h0 hl).mono ?_; rintro e w1 ⟨rfl, hB1⟩; have hq := (Blk.next (Blk.new _ _ _) hB1).cell)
    go_ret
    exact ⟨ret_int (by rw [hH.out, if_pos g1]), bgo (w := w) bel hB1⟩
  · have e1 : 0 ≤ szA k.pre left ∧ szA k.pre left ≤ left := by have := szA_le g1; omega
    by_cases g2 : szA k.post (szA k.pre left) < 0
    · go_enter Try.func36, Try.ntmps36
      go_wp2_with fail
      refine (c_szAssertion _ _ _ _ k.pre _ _ h1 h2 h0 hl).mono ?_; rintro e w1 ⟨rfl, hB1⟩
      have hB := bgo (w := w) bel hB1
      have hq := (Blk.next (Blk.new _ _ _) hB1).cell
      go_wp2_with fail
      refine (c_szAssertion _ _ _ _ k.post _ _ h3 h4 (by omega) (by omega)).mono ?_; rintro e w2 ⟨rfl, hB2⟩
      go_wp2_with fail
      go_ret
      exact ⟨ret_int (by rw [hH.out, if_neg (by omega), if_pos g2]), bgo hB hB2⟩
    · have e2 : 0 ≤ szA k.post (szA k.pre left) ∧ szA k.post (szA k.pre left) ≤ left := by have := szA_le g2; omega
      by_cases g3 : szL k.changes.length (szA k.post (szA k.pre left)) < 0
      all_goals
        go_enter Try.func36, Try.ntmps36
        go_wp2_with fail
        refine (c_szAssertion _ _ _ _ k.pre _ _ h1 h2 h0 hl).mono ?_; rintro e w1 ⟨rfl, hB1⟩
        have hB := bgo (w := w) bel hB1
        have hk := Blk.next (Blk.new _ _ _) hB1
        have hq := hk.cell
        go_wp2_with fail
        refine (c_szAssertion _ _ _ _ k.post _ _ h3 h4 (by omega) (by omega)).mono ?_; rintro e w2 ⟨rfl, hB2⟩
        have hq2 := (hk.next hB2).cell
        have hB3 := bgo hB hB2
        go_wp2_with fail
        refine (c_szIntS _ _ _ _ _ h5 (by omega) (by omega)).mono ?_; rintro e w3 ⟨rfl, rfl⟩
        go_wp2_with fail
        go_ret
      · exact ⟨ret_int (by rw [hH.out, if_neg (by omega), if_neg (by omega), szL_neg g3]), hB3⟩
      · exact ⟨ret_int (by rw [hH.out, if_neg (by omega), if_neg (by omega)]), hB3⟩


theorem c_szContract {w0 : World} (v : Value) (k : Ctr) (left : Int) (w : World) (h : CtrR w0 v k) (h0 : 0 ≤ left) (hl : left ≤ 1048576) :
    Calls Try.prog 36 #[v, .int .i64 left] w fun e w' => e = .returned (.int .i64 (szC k left)) ∧ Below w.heap.size w w' := by
  obtain ⟨A1, c1, A2, c2, A3, c3, A4, c4, A5, c5, rfl, h1, h2, h3, h4, h5⟩ := h
  exact c_szContract0 _ _ _ _ _ _ _ _ _ _ k _ h1.2 h2.2 h3.2 h4.2 h5.2 _ h0 hl
theorem szC_le {k : Ctr} {left : Int} (h : ¬ szC k left < 0) : 0 ≤ szC k left ∧ szC k left = left - k.pre.facts.length - k.pre.atoms.length - k.post.facts.length - k.post.atoms.length - k.changes.length ∧ 0 ≤ left := by
  unfold szC at h ⊢
  split at h
  · omega
  · rename_i h1
    split at h
    · omega
    · rename_i h2
      have e1 := szA_le h1
      have e2 := szA_le h2
      have e3 := szL_le h
      rw [if_neg h1, if_neg h2]
      omega

def CtrI (w : World) (lo hi : Nat) (v : Value) (k : Ctr) : Prop :=
  ∃ a1 a2 a3 a4 iv l1 h1 l2 h2, v = .agg #[a1, a2, a3, a4, iv] ∧ AsnI w l1 h1 (.agg #[a1, a2]) k.pre ∧ AsnI w l2 h2 (.agg #[a3, a4]) k.post ∧ IntsI w lo hi iv k.changes ∧
    hi ≤ w.heap.size ∧ lo ≤ l1 ∧ h1 ≤ hi ∧ lo ≤ l2 ∧ h2 ≤ hi ∧ (h1 ≤ l2 ∨ h2 ≤ l1)
def ctr0 : Ctr := ⟨⟨[], []⟩, ⟨[], []⟩, []⟩
theorem ne_types {w : World} {b b' : Nat} {t t' : TypeId} {n n' s s' : Nat} {v v' : Value} {xs ys : List Value} (h : w.ownsRow b t s v n xs) (h' : w.ownsRow b' t' s' v' n' ys) (ht : t ≠ t') (g : Nat) (hg : v.ownBlock = some g) : v'.ownBlock ≠ some g := by
  intro hg'
  obtain ⟨_, h2⟩ := h
  obtain ⟨_, h2'⟩ := h'
  rcases h2 with ⟨rfl, _⟩ | ⟨k, cap, cur, rfl, _, hh, _⟩
  · simp [Value.ownBlock] at hg
  rcases h2' with ⟨rfl, _⟩ | ⟨k', cap', cur', rfl, _, hh', _⟩
  · simp [Value.ownBlock] at hg'
  simp only [Value.ownBlock, Option.some.injEq] at hg hg'
  subst hg
  subst hg'
  exact Blk.ne_ (w := w) hh hh' ht rfl
section
variable {w w' : World} {lo hi lo' hi' a b : Nat} {v : Value}
theorem z1f {fv av : Value} {x : Asn} (h : AsnO w lo (.agg #[fv, av]) x) : FactsO w lo fv x.facts := by
  obtain ⟨fv', av', e, h1, h2⟩ := h
  injection e with e; injection e with e; injection e with e1 e2; injection e2 with e2; subst e1; subst e2
  exact h1
theorem z1a {fv av : Value} {x : Asn} (h : AsnO w lo (.agg #[fv, av]) x) : AtomsO w lo av x.atoms := by
  obtain ⟨fv', av', e, h1, h2⟩ := h
  injection e with e; injection e with e; injection e with e1 e2; injection e2 with e2; subst e1; subst e2
  exact h2
theorem undA {fv av : Value} {x : Asn} (h : AsnO w lo (.agg #[fv, av]) x) : Und fv w.heap.size ∧ Und av w.heap.size := ⟨(z1f h).und, (z1a h).und⟩
theorem CtrI.I {k : Ctr} (h : CtrI w lo hi v k) : CtrI w lo hi v k := h
theorem CtrI.below {k : Ctr} (h : CtrI w lo hi v k) (hb : Below w.heap.size w w') : CtrI w' lo hi v k := by
  obtain ⟨a1, a2, a3, a4, iv, l1, h1, l2, h2, e, p1, p2, p3, q⟩ := h
  have := hb.size
  exact ⟨a1, a2, a3, a4, iv, l1, h1, l2, h2, e, p1.below hb, p2.below hb, p3.below hb, by omega⟩
theorem CtrI.mk {k : Ctr} (h : CtrI w lo hi v k) (hb : Mk (fun g => a ≤ g ∧ g < b) w w') (hd : hi ≤ a ∨ b ≤ lo) : CtrI w' lo hi v k := by
  obtain ⟨a1, a2, a3, a4, iv, l1, h1, l2, h2, e, p1, p2, p3, q⟩ := h
  have := hb.size
  exact ⟨a1, a2, a3, a4, iv, l1, h1, l2, h2, e, p1.mk hb (by omega), p2.mk hb (by omega), p3.mk hb (by omega), by omega⟩
theorem CtrI.up {k : Ctr} (h : CtrI w lo hi v k) : CtrI w lo w.heap.size v k := by
  obtain ⟨a1, a2, a3, a4, iv, l1, h1, l2, h2, e, p1, p2, p3, q⟩ := h
  exact ⟨a1, a2, a3, a4, iv, l1, h1, l2, h2, e, p1, p2, ⟨p3.1, fun g hg => by have := p3.2 g hg; omega⟩, by omega⟩
theorem ctr_intro {a1 a2 a3 a4 iv : Value} {x : Ctr} {b1 b2 b3 u1 u2 : Nat} (p1 : AsnO w b1 (.agg #[a1, a2]) x.pre) (U1 : Und a1 u1 ∧ Und a2 u1) (p2 : AsnO w b2 (.agg #[a3, a4]) x.post) (U2 : Und a3 u2 ∧ Und a4 u2)
    (p3 : IntsO w b3 iv x.changes) (U3 : Und iv hi) (hq : lo ≤ b1 ∧ lo ≤ b2 ∧ lo ≤ b3 ∧ u1 ≤ hi ∧ u2 ≤ hi ∧ (u1 ≤ b2 ∨ u2 ≤ b1)) (hs : hi ≤ w.heap.size) : CtrI w lo hi (.agg #[a1, a2, a3, a4, iv]) x :=
  ⟨a1, a2, a3, a4, iv, b1, u1, b2, u2, rfl, ⟨_, _, rfl, ⟨z1f p1, U1.1⟩, ⟨z1a p1, U1.2⟩⟩, ⟨_, _, rfl, ⟨z1f p2, U2.1⟩, ⟨z1a p2, U2.2⟩⟩, ⟨p3.lower (by omega), U3⟩, by omega⟩
theorem CtrI.form {k : Ctr} (h : CtrI w lo hi v k) : ∃ A c B d E e F f G g, v = .agg #[.slice A k.pre.facts.length c, .slice B k.pre.atoms.length d, .slice E k.post.facts.length e, .slice F k.post.atoms.length f, .slice G k.changes.length g] := by
  obtain ⟨a1, a2, a3, a4, iv, l1, h1, l2, h2, e, p1, p2, p3, q⟩ := h
  obtain ⟨A, c, B, d, e1⟩ := p1.form
  obtain ⟨E, e', F, f, e2⟩ := p2.form
  obtain ⟨G, g, e3⟩ := p3.form
  simp only [Value.agg.injEq, Array.mk.injEq, List.cons.injEq, and_true] at e1 e2
  obtain ⟨rfl, rfl⟩ := e1
  obtain ⟨rfl, rfl⟩ := e2
  subst e3
  exact ⟨A, c, B, d, E, e', F, f, G, g, e⟩
theorem CtrI.reads {k : Ctr} (h : CtrI w lo hi v k) : CtrV w lo w.heap.size v k := by
  obtain ⟨a1, a2, a3, a4, iv, l1, h1, l2, h2, e, p1, p2, p3, q⟩ := h
  obtain ⟨G, g, rfl⟩ := p3.form
  exact ⟨a1, a2, a3, a4, G, g, e, p1.reads.mono (by omega) (Nat.le_refl _), p2.reads.mono (by omega) (Nat.le_refl _), p3.reads.mono (by omega) (Nat.le_refl _)⟩
theorem CtrI.len {k : Ctr} (h : CtrI w lo hi v k) : k.pre.facts.length ≤ 1049600 ∧ k.pre.atoms.length ≤ 1049600 ∧ k.post.facts.length ≤ 1049600 ∧ k.post.atoms.length ≤ 1049600 ∧ k.changes.length ≤ 1049600 := by
  obtain ⟨a1, a2, a3, a4, iv, l1, h1, l2, h2, e, p1, p2, p3, q⟩ := h
  have := p1.len
  have := p2.len
  have := p3.len
  omega
theorem CtrI.zero (h1 : lo ≤ hi) (h2 : hi ≤ w.heap.size) : CtrI w lo hi (.agg #[.slice none 0 0, .slice none 0 0, .slice none 0 0, .slice none 0 0, .slice none 0 0]) ctr0 := by
  have u : Und (.slice none 0 0) lo := fun g h => by cases h
  exact ⟨_, _, _, _, _, lo, lo, lo, lo, rfl, ⟨_, _, rfl, ⟨FactsO.nil _ _, u⟩, ⟨AtomsO.nil _ _, u⟩⟩, ⟨_, _, rfl, ⟨FactsO.nil _ _, u⟩, ⟨AtomsO.nil _ _, u⟩⟩, ⟨⟨World.ownsRow_nil _ _ _ _, by simp [Lim, ctr0]⟩, fun g h => by cases h⟩, by omega⟩
end

--@ laws.toContract
set_option maxHeartbeats 3200000 in
theorem to_ctr {lo hi : Nat} (v : Value) (a : Ctr) (w : World) (h : CtrV w lo hi v a) : Calls Try.prog 39 #[v] w fun e w' => ∃ r, e = .returned r ∧ CtrI w' w.heap.size w'.heap.size r a ∧ Below w.heap.size w w' := by
  obtain ⟨a1, a2, a3, a4, A5, c5, rfl, h1, h2, h3⟩ := h
  go_enter Try.func39, Try.ntmps39
  go_wp2_with fail
  refine (c_toAssertion _ a.pre _ (h1.below bel)).mono ?_
  rintro e w1 ⟨v1, rfl, ho1, hB1⟩
  obtain ⟨F1, d1, F2, d2, rfl, -, -⟩ := ho1.reads
  have U1 := undA ho1
  have hz1 := hB1.size
  have hB := bgo (w := w) bel hB1
  have k0 := (((Blk.new w _ _).alloc _).alloc _).next hB1
  have k1 := ((Blk.new (w.alloc _) _ _).alloc _).next hB1
  have k2 := (Blk.new ((w.alloc _).alloc _) _ _).next hB1
  simp only [World.size_alloc] at k1 k2 ho1 hz1
  have q0 := k0.cell
  have q2 := k2.cell
  have r2 := k2.frozen
  go_wp2_with fail
  clear q0 q2 r2
  refine (c_toAssertion _ a.post _ (h2.below bel)).mono ?_
  rintro e w2 ⟨v2, rfl, ho2, hB2⟩
  obtain ⟨F3, d3, F4, d4, rfl, -, -⟩ := ho2.reads
  have U2 := undA ho2
  have hz2 := hB2.size
  simp only [World.size_setCell] at hz2
  have m0 := Blk.next (g := w.heap.size) blks hB2
  have m1 := Blk.next (g := w.heap.size + 1) blks hB2
  have m2 := Blk.next (g := w.heap.size + 1 + 1) blks hB2
  have x1 := ho1.abv (lo := w.heap.size + 1 + 1 + 1) (Abv.next abv_ hB2) (Nat.le_refl _)
  have hBw2 := bgo (w := w) bel hB2
  clear k0 k1 k2 ho1
  have q0 := m0.cell
  have q2 := m2.cell
  have r2 := m2.frozen
  go_wp2_with fail
  clear q0 q2 r2
  refine (c_toIntS A5 c5 a.changes _ (h3.below bel)).mono ?_
  rintro e w3 ⟨v3, rfl, ho3, hB3⟩
  obtain ⟨F5, d5, rfl, -⟩ := ho3.reads
  have U3 := ho3.und
  have hz3 := hB3.size
  simp only [World.size_setCell] at hz3 ho2 ho3
  have n1 := Blk.next (g := w.heap.size + 1) blks hB3
  have n2 := Blk.next (g := w.heap.size + 1 + 1) blks hB3
  have y1 := x1.abv (lo := w.heap.size + 1 + 1 + 1) (Abv.next abv_ hB3) (Nat.le_refl _)
  have y2 := ho2.abv (lo := w.heap.size + 1 + 1 + 1) (Abv.next abv_ hB3) (by omega)
  have hBw3 := bgo (w := w) bel hB3
  clear m0 m1 m2
  have q1 := n1.cell
  have r1 := n1.frozen
  have q2 := n2.cell
  have r2 := n2.frozen
  go_wp2_with fail
  refine bodyPost_ret (v := .agg #[.slice F1 a.pre.facts.length d1, .slice F2 a.pre.atoms.length d2, .slice F3 a.post.facts.length d3, .slice F4 a.post.atoms.length d4, .slice F5 a.changes.length d5]) (by simp [results, Try.results39, go_sem, q1]) rfl ⟨_, rfl, ?_, bel⟩
  clear q1 r1 q2 r2
  refine CtrI.up (hi := w3.heap.size) (ctr_intro (y1.abv (lo := w.heap.size + 1 + 1 + 1) abv_ (Nat.le_refl _)) U1 (y2.abv (lo := w.heap.size + 1 + 1 + 1) abv_ (by omega)) U2 (ho3.abv (lo := w.heap.size + 1 + 1 + 1) abv_ (by omega)) U3 ?_ ?_)
  · omega
  · simp

--@ laws.eqContract
theorem t_ctr {lo hi lo' hi' : Nat} (v v' : Value) (x : Ctr) (w : World) (h : CtrV w lo hi v x) (h' : CtrV w lo' hi' v' x) : Calls Try.prog 42 #[v, v'] w fun e w' => e = .returned (.bool true) ∧ Below w.heap.size w w' := c_eqContract v v' x w h h'

--@ laws.markContract
def markCtr (k : Int) (x : Ctr) : Ctr := ⟨markAs k x.pre, markAs (k + 3 * x.pre.facts.length + 3 * x.pre.atoms.length) x.post, iota (k + 3 * x.pre.facts.length + 3 * x.pre.atoms.length + 3 * x.post.facts.length + 3 * x.post.atoms.length) x.changes.length⟩
set_option maxHeartbeats 800000 in
theorem m_asn2 (fv av : Value) (s : Asn) (k : Int) (lo hi : Nat) (w : World) (h : AsnI w lo hi (.agg #[fv, av]) s) (h0 : 0 ≤ k) (h1 : k ≤ 549755813888) : Calls Try.prog 45 #[.agg #[fv, av], .int .i64 k] w fun e w' => e = .returned (.int .i64 (k + 3 * s.facts.length + 3 * s.atoms.length)) ∧ AsnI w' lo hi (.agg #[fv, av]) (markAs k s) ∧ Mk (fun g => fv.ownBlock = some g ∨ av.ownBlock = some g) w w' := by
  obtain ⟨fv', av', e, ⟨o1, u1⟩, ⟨o2, u2⟩⟩ := h
  injection e with e; injection e with e; injection e with e1 e2; injection e2 with e2; subst e1; subst e2
  have hd := o1.ne_atoms o2
  have L1 : s.facts.length ≤ 1049600 := o1.2
  obtain ⟨F1, d1, e1, -⟩ := o1.reads
  obtain ⟨F2, d2, e2, -⟩ := o2.reads
  have o1b := o1.below (w' := w.alloc (.cells #[fv, av] 26)) bel
  have o2b := o2.below (w' := w.alloc (.cells #[fv, av] 26)) bel
  subst e1
  subst e2
  go_enter Try.func45, Try.ntmps45
  go_wp2_with fail
  refine (c_markFactS _ s.facts k lo _ o1b h0 (by omega)).mono ?_
  rintro e w1 ⟨rfl, p1, hM1⟩
  have k0 := hM1.blk (Blk.new w _ _) (fun e => by have := o1.und _ e; omega)
  have q0 := k0.cell
  have o2c := o2b.mk hM1 (fun g e1 e2 => hd g e2 e1)
  have hM1' := (Mk.below_ (p := fun g => (Value.slice F1 s.facts.length d1).ownBlock = some g ∨ (Value.slice F2 s.atoms.length d2).ownBlock = some g) (w := w) bel).trans (hM1.mono fun g e => Or.inl e)
  clear hM1
  go_wp2_with fail
  refine (c_markAtomS _ s.atoms _ lo _ o2c (by omega) (by omega)).mono ?_
  rintro e w2 ⟨rfl, p2, hM2⟩
  have p1c := p1.mk hM2 (fun g e1 e2 => hd g e1 e2)
  have hM2' := hM1'.trans (hM2.mono fun g e => Or.inr e)
  go_wp2_with fail
  go_ret
  exact ⟨rfl, ⟨_, _, rfl, ⟨by simpa [markAs, markF_length] using p1c, u1⟩, ⟨p2, u2⟩⟩, hM2'⟩
theorem AsnI.mk2 {p : Nat → Prop} {w w' : World} {lo hi : Nat} {fv av : Value} {x : Asn} (h : AsnI w lo hi (.agg #[fv, av]) x) (hb : Mk p w w') (hd : ∀ g, (fv.ownBlock = some g ∨ av.ownBlock = some g) → ¬ p g) : AsnI w' lo hi (.agg #[fv, av]) x := by
  obtain ⟨fv', av', e, ⟨o1, u1⟩, ⟨o2, u2⟩⟩ := h
  injection e with e; injection e with e; injection e with e1 e2; injection e2 with e2; subst e1; subst e2
  exact ⟨_, _, rfl, ⟨o1.mk hb fun g hg => hd g (Or.inl hg), u1⟩, ⟨o2.mk hb fun g hg => hd g (Or.inr hg), u2⟩⟩
theorem AsnI.own {w : World} {lo hi : Nat} {fv av : Value} {x : Asn} (h : AsnI w lo hi (.agg #[fv, av]) x) (g : Nat) (hg : fv.ownBlock = some g ∨ av.ownBlock = some g) : lo ≤ g ∧ g < hi ∧ g < w.heap.size := by
  obtain ⟨fv', av', e, ⟨o1, u1⟩, ⟨o2, u2⟩⟩ := h
  injection e with e; injection e with e; injection e with e1 e2; injection e2 with e2; subst e1; subst e2
  rcases hg with hg | hg
  · have := (o1.1.lt g hg); have := u1 g hg; omega
  · have := (o2.1.lt g hg); have := u2 g hg; omega
theorem AsnI.ne_ints {w : World} {lo hi b : Nat} {fv av iv : Value} {x : Asn} {xs : List Int} (h : AsnI w lo hi (.agg #[fv, av]) x) (h' : IntsO w b iv xs) (g : Nat) (hg : fv.ownBlock = some g ∨ av.ownBlock = some g) : iv.ownBlock ≠ some g := by
  obtain ⟨fv', av', e, ⟨o1, u1⟩, ⟨o2, u2⟩⟩ := h
  injection e with e; injection e with e; injection e with e1 e2; injection e2 with e2; subst e1; subst e2
  rcases hg with hg | hg
  · exact ne_types o1.1 h'.1 (by decide) g hg
  · exact ne_types o2.1 h'.1 (by decide) g hg
set_option maxHeartbeats 800000 in
theorem m_ctr (v : Value) (x : Ctr) (k : Int) (lo hi : Nat) (w : World) (h : CtrI w lo hi v x) (h0 : 0 ≤ k) (h1 : k ≤ 274877906944) : Calls Try.prog 44 #[v, .int .i64 k] w fun e w' => e = .returned (.int .i64 (k + 3 * x.pre.facts.length + 3 * x.pre.atoms.length + 3 * x.post.facts.length + 3 * x.post.atoms.length + x.changes.length)) ∧ CtrI w' lo hi v (markCtr k x) ∧ Mk (fun g => lo ≤ g ∧ g < hi) w w' := by
  have L := h.len
  obtain ⟨a1, a2, a3, a4, iv, l1, u1, l2, u2, rfl, p1, p2, p3, q⟩ := h
  have ni1 := p1.ne_ints p3.1
  have ni2 := p2.ne_ints p3.1
  have w1 := p1.own
  have w2 := p2.own
  have w3 : ∀ g, iv.ownBlock = some g → lo ≤ g ∧ g < hi := fun g hg => ⟨(p3.1.1.lt g hg).1, p3.2 g hg⟩
  replace p1 := p1.below (w' := w.alloc (.cells #[a1, a2, a3, a4, iv] 62)) bel
  replace p2 := p2.below (w' := w.alloc (.cells #[a1, a2, a3, a4, iv] 62)) bel
  replace p3 := p3.below (w' := w.alloc (.cells #[a1, a2, a3, a4, iv] 62)) bel
  go_enter Try.func44, Try.ntmps44
  go_wp2_with fail
  refine (m_asn2 _ _ x.pre k l1 u1 _ p1 h0 (by omega)).mono ?_
  rintro e v1 ⟨rfl, p1m, hM1⟩
  have k0 := hM1.blk (Blk.new w _ _) (fun e => by have := w1 _ e; omega)
  replace p2 := p2.mk2 hM1 (fun g e1 e2 => by have := w2 g e1; have := w1 g e2; omega)
  replace p3 : IntsI v1 lo hi iv x.changes := ⟨p3.1.mk hM1 (fun g e1 e2 => ni1 g e2 e1), p3.2⟩
  have hM : Mk (fun g => lo ≤ g ∧ g < hi) w v1 := (Mk.below_ (p := fun g => lo ≤ g ∧ g < hi) (w := w) bel).trans (hM1.mono fun g e => by have := w1 g e; omega)
  clear hM1
  have q0 := k0.cell
  go_wp2_with fail
  refine (m_asn2 _ _ x.post _ l2 u2 _ p2 (by omega) (by omega)).mono ?_
  rintro e v2 ⟨rfl, p2m, hM2⟩
  replace k0 := hM2.blk k0 (fun e => by have := w2 _ e; omega)
  replace p1m := p1m.mk2 hM2 (fun g e1 e2 => by have := w1 g e1; have := w2 g e2; omega)
  replace p3 : IntsI v2 lo hi iv x.changes := ⟨p3.1.mk hM2 (fun g e1 e2 => ni2 g e2 e1), p3.2⟩
  replace hM := hM.trans (hM2.mono fun g e => by have := w2 g e; omega)
  clear hM2 q0
  have q0 := k0.cell
  go_wp2_with fail
  refine (c_markIntS _ x.changes _ lo _ p3.1 (by omega) (by omega)).mono ?_
  rintro e v3 ⟨rfl, p3m, hM3⟩
  replace p1m := p1m.mk2 hM3 (fun g e1 e2 => ni1 g e1 e2)
  replace p2m := p2m.mk2 hM3 (fun g e1 e2 => ni2 g e1 e2)
  replace hM := hM.trans (hM3.mono fun g e => w3 g e)
  have hz := hM.size
  have p3u := p3.2
  go_wp2_with fail
  go_ret
  exact ⟨rfl, ⟨_, _, _, _, _, l1, u1, l2, u2, rfl, p1m, p2m, ⟨p3m, p3u⟩, by omega⟩, hM⟩

--@ laws.heldContract
set_option maxHeartbeats 800000 in
theorem h_ctr {lo hi : Nat} {A B E F G : Option Addr} {c d e f g : Nat} (x : Ctr) (k : Int) (w : World) (h : CtrI w lo hi (.agg #[.slice A x.pre.facts.length c, .slice B x.pre.atoms.length d, .slice E x.post.facts.length e, .slice F x.post.atoms.length f, .slice G x.changes.length g]) (markCtr k x)) (h0 : 0 ≤ k) (hk : k ≤ 274877906944) :
    Calls Try.prog 46 #[.agg #[.slice A x.pre.facts.length c, .slice B x.pre.atoms.length d, .slice E x.post.facts.length e, .slice F x.post.atoms.length f, .slice G x.changes.length g], .int .i64 k] w fun e w' => e = .returned (.int .i64 (k + 3 * x.pre.facts.length + 3 * x.pre.atoms.length + 3 * x.post.facts.length + 3 * x.post.atoms.length + x.changes.length)) ∧ Below w.heap.size w w' := by
  have L := h.len
  simp only [markCtr, markAs, markF_length, markA_length, iota_length] at L
  obtain ⟨a1, a2, a3, a4, iv, l1, u1, l2, u2, e1, p1, p2, p3, q⟩ := h
  simp only [Value.agg.injEq, Array.mk.injEq, List.cons.injEq, and_true] at e1
  obtain ⟨rfl, rfl, rfl, rfl, rfl⟩ := e1
  go_enter Try.func46, Try.ntmps46
  have k0 := Blk.new w 62 #[.slice A x.pre.facts.length c, .slice B x.pre.atoms.length d, .slice E x.post.facts.length e, .slice F x.post.atoms.length f, .slice G x.changes.length g]
  go_wp2_with fail
  refine (h_asn A B x.pre c d k _ (p1.below bel) h0 (by omega)).mono ?_
  rintro e w1 ⟨rfl, hB1⟩
  have hB := bgo (w := w) bel hB1
  replace k0 := k0.next hB1
  have q0 := k0.cell
  clear hB1
  go_wp2_with fail
  refine (h_asn E F x.post _ _ _ _ (p2.below hB) (by omega) (by omega)).mono ?_
  rintro e w2 ⟨rfl, hB2⟩
  replace hB := bgo hB hB2
  replace k0 := k0.next hB2
  clear hB2 q0
  have q0 := k0.cell
  go_wp2_with fail
  refine (h_ints G x.changes _ _ _ (p3.below hB) (by omega) (by omega)).mono ?_
  rintro e w3 ⟨rfl, hB3⟩
  replace hB := bgo hB hB3
  go_wp2_with fail
  go_ret
  exact ⟨rfl, hB⟩
end Go.Proofs.Ytmjgcdolnkdfoaa
