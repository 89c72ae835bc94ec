/- Programs: a basic command's fields. -/
import Derived.Test.YtlmjjflalmegfaaGreatMCmdG
import Derived.Test.YtlmjjflalmegfaaGreatVal
import Derived.Deep.RegionHeld3
import Derived.Test.YtlmjjflalmegfaaGreatMOpenC
import Derived.Test.YtlmjjflalmegfaaGreatMIntSS
set_option linter.unusedSimpArgs false
set_option linter.unusedVariables false
namespace Go.Proofs.YtlmjjflalmegfaaGreat
open Go Go.RowKit Go.Proofs

def plainB (t : Fct) (i : Asn) (body els : Cms) : Bool := noFct t && (noAsn i && (decide (body.len = 0) && decide (els.len = 0)))
def fieldsB (k a b : Int) : Bool :=
  if k = 1 ∨ k = 2 then isProgB a && isTermB b else if k = 3 then isTermB a && isTermB b else if k = 4 then isProgB a && decide (b = 0) else if k = 5 then isTermB a && decide (b = 0) else false
--@ spec.l8Basic
set_option maxRecDepth 100000 in
set_option maxHeartbeats 6400000 in
theorem c_spec_l8Basic_no (k a b : Int) (t : Fct) (i : Asn) (A1 A2 A3 A4 : Option Addr) (c1 c2 c3 c4 : Nat) (body els : Cms) (w : World) (h1 : i.facts.length ≤ 1049600) (h2 : i.atoms.length ≤ 1049600) (h3 : body.len ≤ 1049600) (h4 : els.len ≤ 1049600) (hn : plainB t i body els = false) :
    Calls Tryz.prog 95 #[.agg #[.int .i64 k, .int .i64 a, .int .i64 b, .bool t.eq, .int .i64 t.a, .int .i64 t.b, .slice A1 i.facts.length c1, .slice A2 i.atoms.length c2, .slice A3 body.len c3, .slice A4 els.len c4]] w fun e w' => e = .returned (.bool false) ∧ Below w.heap.size w w' := by
  obtain ⟨x, hx⟩ : ∃ x, x = noFct t := ⟨_, rfl⟩
  obtain ⟨y, hy⟩ : ∃ y, y = noAsn i := ⟨_, rfl⟩
  unfold plainB at hn
  rw [← hx, ← hy] at hn
  replace hx := Lib.hid hx
  replace hy := Lib.hid hy
  replace hn := Lib.hid hn
  go_enter Tryz.func95, Tryz.ntmps95
  go_wp2_with fail
  refine (c_spec_l8NoFact t _).mono ?_
  rintro e w1 ⟨rfl, hB1⟩
  rw [← hx.out]
  have hB := bgo (w := w) bel hB1
  have K0 := (Blk.next (g := w.heap.size) (Blk.new w _ _) hB1)
  have q0 := K0.cell
  have l0 := K0.lt
  cases x
  · go_wp2_with fail
    go_ret
    exact ⟨ret_bool rfl, hB⟩
  go_wp2_with fail
  refine (c_spec_l8NoInv A1 A2 c1 c2 i _ h1 h2).mono ?_
  rintro e w2 ⟨rfl, hB2⟩
  rw [← hy.out]
  have hBB := bgo hB hB2
  have K1 := K0.next hB2
  clear q0 l0
  have q0 := K1.cell
  have l0 := K1.lt
  cases y
  · go_wp2_with fail
    go_ret
    exact ⟨ret_bool rfl, hBB⟩
  by_cases z1 : body.len = 0
  case neg =>
    have z1' : 0 < body.len := by omega
    go_wp2_with fail
    go_ret
    exact ⟨ret_bool rfl, hBB⟩
  by_cases z2 : els.len = 0
  case neg =>
    have z2' : 0 < els.len := by omega
    go_wp2_with fail
    go_ret
    exact ⟨ret_bool rfl, hBB⟩
  exact absurd hn.out (by simp [z1, z2])
set_option maxRecDepth 100000 in
set_option maxHeartbeats 6400000 in
theorem c_spec_l8Basic_yes (k a b : Int) (t : Fct) (i : Asn) (A1 A2 A3 A4 : Option Addr) (c1 c2 c3 c4 : Nat) (body els : Cms) (w : World) (h1 : i.facts.length ≤ 1049600) (h2 : i.atoms.length ≤ 1049600) (hn : plainB t i body els = true) :
    Calls Tryz.prog 95 #[.agg #[.int .i64 k, .int .i64 a, .int .i64 b, .bool t.eq, .int .i64 t.a, .int .i64 t.b, .slice A1 i.facts.length c1, .slice A2 i.atoms.length c2, .slice A3 body.len c3, .slice A4 els.len c4]] w fun e w' => e = .returned (.bool (fieldsB k a b)) ∧ Below w.heap.size w w' := by
  have hn' : noFct t = true ∧ noAsn i = true ∧ body.len = 0 ∧ els.len = 0 := by simpa [plainB] using hn
  obtain ⟨e1, e2, e3, e4⟩ := hn'
  rw [e3, e4]
  clear hn e3 e4
  replace e1 := Lib.hid e1
  replace e2 := Lib.hid e2
  obtain ⟨R, hR⟩ : ∃ R, R = fieldsB k a b := ⟨_, rfl⟩
  rw [← hR]
  unfold fieldsB at hR
  obtain ⟨pa, hpa⟩ : ∃ pa, pa = isProgB a := ⟨_, rfl⟩
  obtain ⟨ta, hta⟩ : ∃ ta, ta = isTermB a := ⟨_, rfl⟩
  obtain ⟨tb, htb⟩ : ∃ tb, tb = isTermB b := ⟨_, rfl⟩
  rw [← hpa, ← hta, ← htb] at hR
  replace hpa := Lib.hid hpa
  replace hta := Lib.hid hta
  replace htb := Lib.hid htb
  replace hR := Lib.hid hR
  go_enter Tryz.func95, Tryz.ntmps95
  go_wp2_with fail
  refine (c_spec_l8NoFact t _).mono ?_
  rintro e w1 ⟨rfl, hB1⟩
  rw [e1.out]
  have hB := bgo (w := w) bel hB1
  have K0 := (Blk.next (g := w.heap.size) (Blk.new w _ _) hB1)
  have q0 := K0.cell
  have l0 := K0.lt
  go_wp2_with fail
  refine (c_spec_l8NoInv A1 A2 c1 c2 i _ h1 h2).mono ?_
  rintro e w2 ⟨rfl, hB2⟩
  rw [e2.out]
  have hBB := bgo hB hB2
  have K1 := K0.next hB2
  clear q0 l0
  have q0 := K1.cell
  have l0 := K1.lt
  by_cases k1 : k = 1 ∨ k = 2
  · have hR2 := Lib.hid (show R = (pa && tb) from by rw [hR.out, if_pos k1])
    clear hR
    rcases k1 with rfl | rfl
    all_goals
      cases pa
      all_goals
        cases tb
        all_goals
          go_wp2_with (first | (go_at_call 143; refine (c_spec_l8Prog a _).mono ?_; rintro e w' ⟨rfl, rfl⟩; rw [← hpa.out]) | (go_at_call 57; refine (c_spec_l1Is b _).mono ?_; rintro e w' ⟨rfl, rfl⟩; rw [← htb.out]))
          go_ret
          exact ⟨ret_bool (by rw [hR2.out]; rfl), hBB⟩
  by_cases k3 : k = 3
  · have hR2 := Lib.hid (show R = (ta && tb) from by rw [hR.out, if_neg k1, if_pos k3])
    clear hR
    subst k3
    clear k1
    cases ta
    all_goals
      cases tb
      all_goals
        go_wp2_with (first | (go_at_call 57; refine (c_spec_l1Is a _).mono ?_; rintro e w' ⟨rfl, rfl⟩; rw [← hta.out]) | (go_at_call 57; refine (c_spec_l1Is b _).mono ?_; rintro e w' ⟨rfl, rfl⟩; rw [← htb.out]))
        go_ret
        exact ⟨ret_bool (by rw [hR2.out]; rfl), hBB⟩
  by_cases k4 : k = 4
  · have hR2 := Lib.hid (show R = (pa && decide (b = 0)) from by rw [hR.out, if_neg k1, if_neg k3, if_pos k4])
    clear hR
    subst k4
    clear k1 k3
    cases pa
    all_goals
      by_cases b0 : b = 0
      all_goals
        have hb0 := Lib.hid b0
        go_wp2_with (go_at_call 143; refine (c_spec_l8Prog a _).mono ?_; rintro e w' ⟨rfl, rfl⟩; rw [← hpa.out])
        go_ret
        exact ⟨ret_bool (by rw [hR2.out]; first | rfl | (simp_all)), hBB⟩
  by_cases k5 : k = 5
  · have hR2 := Lib.hid (show R = (ta && decide (b = 0)) from by rw [hR.out, if_neg k1, if_neg k3, if_neg k4, if_pos k5])
    clear hR
    subst k5
    clear k1 k3 k4
    cases ta
    all_goals
      by_cases b0 : b = 0
      all_goals
        have hb0 := Lib.hid b0
        go_wp2_with (go_at_call 57; refine (c_spec_l1Is a _).mono ?_; rintro e w' ⟨rfl, rfl⟩; rw [← hta.out])
        go_ret
        exact ⟨ret_bool (by rw [hR2.out]; first | rfl | (simp_all)), hBB⟩
  · have hR2 := Lib.hid (show R = false from by rw [hR.out, if_neg k1, if_neg k3, if_neg k4, if_neg k5])
    clear hR
    have ka : k ≠ 1 := fun e => k1 (.inl e)
    have kb : k ≠ 2 := fun e => k1 (.inr e)
    clear k1
    go_wp2_with fail
    go_ret
    exact ⟨ret_bool (by rw [hR2.out]), hBB⟩
--@
end Go.Proofs.YtlmjjflalmegfaaGreat

/- Programs: validity, plain. -/
namespace Go.Proofs.YtlmjjflalmegfaaGreat
open Go Go.RowKit Go.Proofs

/-- a command's own fields -/
def fvalB (k a b : Int) (t : Fct) (i : Asn) (body els : Cms) : Bool :=
  if k = 6 then decide (a = 0) && (decide (b = 0) && (t.valid && noAsn i))
  else if k = 7 then decide (a = 0) && (decide (b = 0) && (t.valid && (i.valid && decide (els.len = 0))))
  else plainB t i body els && fieldsB k a b
/-- well-formed down to a depth -/
def Cms.shape : Cms → Nat → Bool
  | .nil, _ => true
  | .cons k a b t i body els r, d => decide (0 < d) && (fvalB k a b t i body els && (body.shape (d - 1) && (els.shape (d - 1) && r.shape d)))
/-- the number of commands down to a depth -/
def Cms.count : Cms → Nat → Nat
  | .nil, _ => 0
  | .cons _ _ _ _ _ body els r, d => if 0 < d then body.count (d - 1) + els.count (d - 1) + 1 + r.count d else 0
/-- size counts at most what the laws' size counts -/
theorem Cms.sz_cost : ∀ (L : Cms), L.sz ≤ L.len + L.cost
  | .nil => Nat.le_refl _
  | .cons k a b t i body els r => by
    simp only [Cms.sz, Cms.len, Cms.cost]
    have h1 := Cms.sz_cost body
    have h2 := Cms.sz_cost els
    have h3 := Cms.sz_cost r
    omega
/-- a valid program -/
def Cms.prog (L : Cms) : Bool := L.shape 4 && decide (L.sz ≤ 16)
theorem fvalB_basic {k a b : Int} {t : Fct} {i : Asn} {body els : Cms} (h6 : k ≠ 6) (h7 : k ≠ 7) : fvalB k a b t i body els = (plainB t i body els && fieldsB k a b) := by
  unfold fvalB; rw [if_neg h6, if_neg h7]
theorem fieldsB_basic {k a b : Int} (h : fieldsB k a b = true) : 1 ≤ k ∧ k ≤ 5 := by
  unfold fieldsB at h
  split at h
  · rename_i h1; rcases h1 with rfl | rfl <;> omega
  split at h
  · omega
  split at h
  · omega
  split at h
  · omega
  · cases h
end Go.Proofs.YtlmjjflalmegfaaGreat

/- Programs: validity, the spec's way. -/
namespace Go.Proofs.YtlmjjflalmegfaaGreat
open Go Go.RowKit Go.Proofs

--@ spec.l8Basic
theorem c_spec_l8Basic (k a b : Int) (t : Fct) (i : Asn) (A1 A2 A3 A4 : Option Addr) (c1 c2 c3 c4 : Nat) (body els : Cms) (w : World) (h1 : i.facts.length ≤ 1049600) (h2 : i.atoms.length ≤ 1049600) (h3 : body.len ≤ 1049600) (h4 : els.len ≤ 1049600) :
    Calls Tryz.prog 95 #[.agg #[.int .i64 k, .int .i64 a, .int .i64 b, .bool t.eq, .int .i64 t.a, .int .i64 t.b, .slice A1 i.facts.length c1, .slice A2 i.atoms.length c2, .slice A3 body.len c3, .slice A4 els.len c4]] w fun e w' => e = .returned (.bool (plainB t i body els && fieldsB k a b)) ∧ Below w.heap.size w w' := by
  cases hn : plainB t i body els
  · exact c_spec_l8Basic_no k a b t i A1 A2 A3 A4 c1 c2 c3 c4 body els w h1 h2 h3 h4 hn
  · exact c_spec_l8Basic_yes k a b t i A1 A2 A3 A4 c1 c2 c3 c4 body els w h1 h2 hn

--@ spec.l8Shape
end Go.Proofs.YtlmjjflalmegfaaGreat

/- Words for the exact laws over programs. -/
namespace Go.Proofs.YtlmjjflalmegfaaGreat
open Go Go.RowKit Go.Proofs

/-- a program that can be read, with the bounds of the laws -/
def CmsW (w : World) (lo hi : Nat) (A : Option Addr) (L : Cms) : Prop := CmsV w lo hi A L ∧ L.len + L.cost ≤ 1048576
/-- as it comes in -/
def CmsR (w : World) (A : Option Addr) (L : Cms) : Prop := L.len ≤ 9223372036854775807 ∧ L.small 9223372036854775807 ∧ CmsV w 0 w.heap.size A L
section
variable {w w' : World} {lo hi lo' hi' a b : Nat} {v : Value} {A : Option Addr} {L : Cms}
theorem CmsW.below (h : CmsW w lo hi A L) (hb : Below w.heap.size w w') : CmsW w' lo hi A L := ⟨h.1.below hb, h.2⟩
theorem CmsW.mono (h : CmsW w lo hi A L) (e1 : lo' ≤ lo) (e2 : hi ≤ hi') : CmsW w lo' hi' A L := ⟨h.1.mono e1 e2, h.2⟩
theorem CmsW.len (h : CmsW w lo hi A L) : L.len ≤ 1049600 := by have := h.2; omega
theorem CmsW.small (h : CmsW w lo hi A L) : L.small 1049600 := Cms.cost_small (by have := h.2; omega)
theorem CmsW.sz (h : CmsW w lo hi A L) : L.sz ≤ 1049600 := by have := h.2; have := Cms.sz_cost L; omega
theorem CmsR.toW (h : CmsR w A L) (hl : L.len + L.cost ≤ 1048576) : CmsW w 0 w.heap.size A L := ⟨h.2.2, hl⟩
end
--@ laws.szCmdS
def szP (L : Cms) (left : Int) : Int := szL (L.len + L.cost) left
def CmsI (w : World) (lo hi : Nat) (v : Value) (L : Cms) : Prop := CmsO w lo hi v L ∧ L.len + L.cost ≤ 1048576
section
variable {w w' : World} {lo hi lo' hi' a b : Nat} {v : Value} {A : Option Addr} {L : Cms}
theorem CmsI.below (h : CmsI w lo hi v L) (hb : Below w.heap.size w w') : CmsI w' lo hi v L := ⟨h.1.below hb, h.2⟩
theorem CmsI.mk (h : CmsI w lo hi v L) (hb : Mk (fun g => a ≤ g ∧ g < b) w w') (hd : hi ≤ a ∨ b ≤ lo) : CmsI w' lo hi v L := ⟨h.1.mk hb hd, h.2⟩
theorem CmsI.form (h : CmsI w lo hi v L) : ∃ A c, v = .slice A L.len c := by obtain ⟨A, c, e, -⟩ := h.1.form; exact ⟨A, c, e⟩
theorem CmsI.reads {n c : Nat} (h : CmsI w lo hi (.slice A n c) L) : CmsW w lo w.heap.size A L := by
  obtain ⟨A', c', e, h2⟩ := h.1.form
  injection e with e1 e2 e3
  subst e1
  exact ⟨h2, h.2⟩
theorem CmsI.len (h : CmsI w lo hi v L) : L.len ≤ 1049600 := h.1.len
end
--@ laws.toCmdS
end Go.Proofs.YtlmjjflalmegfaaGreat

/- Words for the exact laws over one command. -/
namespace Go.Proofs.YtlmjjflalmegfaaGreat
open Go Go.RowKit Go.Proofs
attribute [local go_sem ↓] Go.wp_at_zero Go.wp_at_succ

structure Cm1 where
  k : Int
  a : Int
  b : Int
  t : Fct
  i : Asn
  body : Cms
  els : Cms
def Cm1.cost (x : Cm1) : Nat := cost1 x.i x.body x.els
def Cm1.marks (x : Cm1) : Nat := 3 * x.i.facts.length + 3 * x.i.atoms.length + x.body.marks + x.els.marks
theorem Cm1.marks_le (x : Cm1) : x.marks ≤ 6 * x.cost := by
  have h1 := Cms.marks_le x.body
  have h2 := Cms.marks_le x.els
  unfold Cm1.marks Cm1.cost cost1
  omega
theorem Cm1.parts_le {x : Cm1} {n : Nat} (h : x.cost ≤ n) : x.i.facts.length ≤ n ∧ x.i.atoms.length ≤ n ∧ x.body.len + x.body.cost ≤ n ∧ x.els.len + x.els.cost ≤ n := by
  unfold Cm1.cost cost1 at h
  omega
/-- a command that can be read -/
def C1V (w : World) (lo hi : Nat) (v : Value) (x : Cm1) : Prop := ∃ A1 c1 A2 c2 A3 c3 A4 c4, v = .agg #[.int .i64 x.k, .int .i64 x.a, .int .i64 x.b, .bool x.t.eq, .int .i64 x.t.a, .int .i64 x.t.b, .slice A1 x.i.facts.length c1, .slice A2 x.i.atoms.length c2, .slice A3 x.body.len c3, .slice A4 x.els.len c4] ∧
  AsnV w lo hi (.agg #[.slice A1 x.i.facts.length c1, .slice A2 x.i.atoms.length c2]) x.i ∧ CmsW w lo hi A3 x.body ∧ CmsW w lo hi A4 x.els
/-- as it comes in -/
def C1R (w : World) (v : Value) (x : Cm1) : Prop := ∃ A1 c1 A2 c2 A3 c3 A4 c4, v = .agg #[.int .i64 x.k, .int .i64 x.a, .int .i64 x.b, .bool x.t.eq, .int .i64 x.t.a, .int .i64 x.t.b, .slice A1 x.i.facts.length c1, .slice A2 x.i.atoms.length c2, .slice A3 x.body.len c3, .slice A4 x.els.len c4] ∧
  FactsR w A1 x.i.facts ∧ AtomsR w A2 x.i.atoms ∧ CmsR w A3 x.body ∧ CmsR w A4 x.els
def C1I (w : World) (lo hi : Nat) (v : Value) (x : Cm1) : Prop := ∃ vF vA vB vE m1 m2 m3, v = .agg #[.int .i64 x.k, .int .i64 x.a, .int .i64 x.b, .bool x.t.eq, .int .i64 x.t.a, .int .i64 x.t.b, vF, vA, vB, vE] ∧
  (lo ≤ m1 ∧ m1 ≤ m2 ∧ m2 ≤ m3 ∧ m3 ≤ hi) ∧ AsnI w lo m1 (.agg #[vF, vA]) x.i ∧ CmsO w m1 m2 vB x.body ∧ CmsO w m2 m3 vE x.els ∧ x.cost ≤ 1048576
section
variable {w w' : World} {lo hi lo' hi' a b : Nat} {v : Value} {x : Cm1}
theorem C1V.below (h : C1V w lo hi v x) (hb : Below w.heap.size w w') : C1V w' lo hi v x := by
  obtain ⟨A1, c1, A2, c2, A3, c3, A4, c4, e, h1, h2, h3⟩ := h
  exact ⟨A1, c1, A2, c2, A3, c3, A4, c4, e, h1.below hb, h2.below hb, h3.below hb⟩
theorem C1I.below (h : C1I w lo hi v x) (hb : Below w.heap.size w w') : C1I w' lo hi v x := by
  obtain ⟨vF, vA, vB, vE, m1, m2, m3, e, hm, h1, h2, h3, h4⟩ := h
  exact ⟨vF, vA, vB, vE, m1, m2, m3, e, hm, h1.below hb, h2.below hb, h3.below hb, h4⟩
theorem C1I.mk (h : C1I w lo hi v x) (hb : Mk (fun g => a ≤ g ∧ g < b) w w') (hd : hi ≤ a ∨ b ≤ lo) : C1I w' lo hi v x := by
  obtain ⟨vF, vA, vB, vE, m1, m2, m3, e, hm, h1, h2, h3, h4⟩ := h
  exact ⟨vF, vA, vB, vE, m1, m2, m3, e, hm, h1.mk hb (by omega), h2.mk hb (by omega), h3.mk hb (by omega), h4⟩
theorem C1I.form (h : C1I w lo hi v x) : ∃ A c B d E e F f, v = .agg #[.int .i64 x.k, .int .i64 x.a, .int .i64 x.b, .bool x.t.eq, .int .i64 x.t.a, .int .i64 x.t.b, .slice A x.i.facts.length c, .slice B x.i.atoms.length d, .slice E x.body.len e, .slice F x.els.len f] := by
  obtain ⟨vF, vA, vB, vE, m1, m2, m3, rfl, hm, h1, h2, h3, h4⟩ := h
  obtain ⟨A, c, B, d, e⟩ := h1.form
  injection e with e
  injection e with e
  injection e with e1 e2
  injection e2 with e2
  obtain ⟨E, ec, rfl, -⟩ := h2.form
  obtain ⟨F, fc, rfl, -⟩ := h3.form
  exact ⟨A, c, B, d, E, ec, F, fc, by rw [e1, e2]⟩
theorem C1I.reads (h : C1I w lo hi v x) : C1V w lo w.heap.size v x := by
  obtain ⟨vF, vA, vB, vE, m1, m2, m3, rfl, hm, h1, h2, h3, h4⟩ := h
  have h1' := h1.reads
  obtain ⟨A, c, B, d, e⟩ := h1.form
  injection e with e
  injection e with e
  injection e with e1 e2
  injection e2 with e2
  subst e1 e2
  obtain ⟨E, ec, rfl, q1⟩ := h2.form
  obtain ⟨F, fc, rfl, q2⟩ := h3.form
  have hp := Cm1.parts_le h4
  exact ⟨A, c, B, d, E, ec, F, fc, rfl, h1', ⟨q1.mono (by omega) (Nat.le_refl _), hp.2.2.1⟩, ⟨q2.mono (by omega) (Nat.le_refl _), hp.2.2.2⟩⟩
end
--@ laws.szCmd
def sz1 (x : Cm1) (left : Int) : Int := szL x.cost left
theorem sz1_le {x : Cm1} {left : Int} (h : ¬ sz1 x left < 0) : 0 ≤ sz1 x left ∧ sz1 x left = left - (x.cost : Int) ∧ 0 ≤ left := by
  unfold sz1 at h ⊢
  have := szL_le h
  omega
theorem c_sz1 (v : Value) (x : Cm1) (left : Int) (w : World) (h : C1R w v x) {w' : World} (hb : Below w.heap.size w w') (h0 : 0 ≤ left) (h1 : left ≤ 1048576) :
    Calls Tryz.prog 35 #[v, .int .i64 left] w' fun e w2 => e = .returned (.int .i64 (sz1 x left)) ∧ Below w'.heap.size w' w2 := by
  obtain ⟨A1, c1, A2, c2, A3, c3, A4, c4, rfl, r1, r2, r3, r4⟩ := h
  have hw : ∀ {A : Option Addr} {L : Cms}, CmsR w A L → CmsV w' 0 w'.heap.size A L := fun r => (r.2.2.below hb).mono (Nat.le_refl _) hb.size
  exact c_szCmd x.k x.a x.b x.t x.i A1 A2 A3 A4 c1 c2 c3 c4 x.body x.els left w' (hw r3) (hw r4) r1.2 r2.2 h0 h1
    (fun l w hV h0 h1 => c_szCmdS x.body A3 c3 l w hV r3.1 r3.2.1 h0 h1) (fun l w hV h0 h1 => c_szCmdS x.els A4 c4 l w hV r4.1 r4.2.1 h0 h1)
--@ laws.toCmd
theorem to_cmd {lo hi : Nat} (v : Value) (x : Cm1) (w : World) (h : C1V w lo hi v x) (hc : x.cost ≤ 1048576) : Calls Tryz.prog 37 #[v] w fun e w' => ∃ r, e = .returned r ∧ C1I w' w.heap.size w'.heap.size r x ∧ Below w.heap.size w w' := by
  obtain ⟨A1, c1, A2, c2, A3, c3, A4, c4, rfl, h1, h2, h3⟩ := h
  refine (c_toCmd x.k x.a x.b x.t x.i A1 A2 A3 A4 c1 c2 c3 c4 x.body x.els w h1 h2.1 h3.1
    (fun w hV => toCmdS_go _ x.body (Nat.lt_succ_self _) A3 c3 w lo hi hV h2.len h2.small) (fun w hV => toCmdS_go _ x.els (Nat.lt_succ_self _) A4 c4 w lo hi hV h3.len h3.small)).mono ?_
  rintro e w' ⟨vF, vA, vB, vE, m1, m2, m3, rfl, hm1, p1, p2, p3, hm3, hB⟩
  have i1 : m1 ≤ m2 := by obtain ⟨_, _, _, z1, _, _, _, z2⟩ := p2; have := z2.le; omega
  have i2 : m2 ≤ m3 := by obtain ⟨_, _, _, z1, _, _, _, z2⟩ := p3; have := z2.le; omega
  exact ⟨_, rfl, ⟨vF, vA, vB, vE, m1, m2, m3, rfl, ⟨hm1, i1, i2, hm3⟩, p1, p2, p3, hc⟩, hB⟩
--@ laws.eqCmd
theorem t_cmd {lo hi lo' hi' : Nat} (v v' : Value) (x : Cm1) (w : World) (h : C1V w lo hi v x) (h' : C1V w lo' hi' v' x) : Calls Tryz.prog 40 #[v, v'] w fun e w' => e = .returned (.bool true) ∧ Below w.heap.size w w' := by
  obtain ⟨A1, c1, A2, c2, A3, c3, A4, c4, rfl, h1, h2, h3⟩ := h
  obtain ⟨B1, d1, B2, d2, B3, d3, B4, d4, rfl, g1, g2, g3⟩ := h'
  refine (c_eqCmd x.k x.a x.b x.t x.i A1 A2 A3 A4 c1 c2 c3 c4 x.body x.els x.k x.a x.b x.t x.i B1 B2 B3 B4 d1 d2 d3 d4 x.body x.els w h1 h2.1 h3.1 g1 g2.1 g3.1
    (fun w q1 q2 => eqCmdS_go _ x.body x.body (Nat.lt_succ_self _) A3 B3 c3 d3 w lo hi lo' hi' q1 q2 h2.len g2.len h2.small g2.small) (fun w q1 q2 => eqCmdS_go _ x.els x.els (Nat.lt_succ_self _) A4 B4 c4 d4 w lo hi lo' hi' q1 q2 h3.len g3.len h3.small g3.small)).mono ?_
  rintro e w' ⟨rfl, hB⟩
  exact ⟨by simp [eq1], hB⟩
--@ laws.markCmd
set_option maxRecDepth 100000 in
set_option maxHeartbeats 1600000 in
theorem m_cmd (v : Value) (x : Cm1) (k : Int) (lo hi : Nat) (w : World) (h : C1I w lo hi v x) (h0 : 0 ≤ k) (h1 : k ≤ 549740000000) (hhi : hi ≤ w.heap.size) : Calls Tryz.prog 41 #[v, .int .i64 k] w fun e w' => e = .returned (.int .i64 (k + x.marks)) ∧ True ∧ Mk (fun g => lo ≤ g ∧ g < hi) w w' := by
  obtain ⟨vF, vA, vB, vE, m1, m2, m3, rfl, hm, p1, p2, p3, hc⟩ := h
  have hmk := Cm1.marks_le x
  obtain ⟨A, c, B, d, e⟩ := p1.form
  injection e with e
  injection e with e
  injection e with e1 e2
  injection e2 with e2
  subst e1 e2
  obtain ⟨E, ec, rfl, -⟩ := p2.form
  obtain ⟨F, fc, rfl, -⟩ := p3.form
  obtain ⟨n1, hn1⟩ : ∃ n, n = 3 * x.i.facts.length + 3 * x.i.atoms.length := ⟨_, rfl⟩
  have HN : Hid (x.marks = n1 + x.body.marks + x.els.marks) := Lib.hid (by rw [hn1]; rfl)
  have hb1 : n1 + x.body.marks + x.els.marks ≤ 6291456 := by have := HN.out; omega
  have HN1 := Lib.hid hn1
  have P1 := Lib.hid p1
  have P2 := Lib.hid p2
  have P3 := Lib.hid p3
  clear hn1 p1 p2 p3 hmk hc
  go_enter Tryz.func41, Tryz.ntmps41
  have kc : Blk (w.alloc (.cells #[.int .i64 x.k, .int .i64 x.a, .int .i64 x.b, .bool x.t.eq, .int .i64 x.t.a, .int .i64 x.t.b, .slice A x.i.facts.length c, .slice B x.i.atoms.length d, .slice E x.body.len ec, .slice F x.els.len fc] tC)) w.heap.size tC #[.int .i64 x.k, .int .i64 x.a, .int .i64 x.b, .bool x.t.eq, .int .i64 x.t.a, .int .i64 x.t.b, .slice A x.i.facts.length c, .slice B x.i.atoms.length d, .slice E x.body.len ec, .slice F x.els.len fc] := Blk.new _ _ _
  have HB0 : Hid (Below w.heap.size w (w.alloc (.cells #[.int .i64 x.k, .int .i64 x.a, .int .i64 x.b, .bool x.t.eq, .int .i64 x.t.a, .int .i64 x.t.b, .slice A x.i.facts.length c, .slice B x.i.atoms.length d, .slice E x.body.len ec, .slice F x.els.len fc] tC))) := Lib.hid bel
  go_wp2_with fail
  refine (m_asn _ x.i k lo m1 _ (P1.out.below HB0.out) h0 (by omega)).mono ?_
  rintro e w1 ⟨rfl, -, hM1⟩
  replace kc := hM1.blk kc (by omega)
  have P2a := Lib.hid ((P2.out.below HB0.out).mk hM1 (.inr (Nat.le_refl _)))
  have P3a := Lib.hid ((P3.out.below HB0.out).mk hM1 (.inr (by omega)))
  have E1 : Hid (k + 3 * (x.i.facts.length : Int) + 3 * (x.i.atoms.length : Int) = k + n1) := Lib.hid (by have := HN1.out; omega)
  rw [E1.out]
  (replace qkc := kc.cell; replace rkc := kc.frozen; replace lkc := kc.lt)
  go_wp2_with fail
  refine (markCmdS_go _ x.body (Nat.lt_succ_self _) m1 m2 _ (k + n1) _ P2a.out (by omega) (by omega)).mono ?_
  rintro e w2 ⟨rfl, hM2⟩
  replace kc := hM2.blk kc (by omega)
  have P3b := Lib.hid (P3a.out.mk hM2 (.inr (Nat.le_refl _)))
  (replace qkc := kc.cell; replace rkc := kc.frozen; replace lkc := kc.lt)
  go_wp2_with fail
  refine (markCmdS_go _ x.els (Nat.lt_succ_self _) m2 m3 _ (k + n1 + x.body.marks) _ P3b.out (by omega) (by omega)).mono ?_
  rintro e w3 ⟨rfl, hM3⟩
  go_wp2_with fail
  go_ret
  have ee : k + (n1 : Int) + (x.body.marks : Int) + (x.els.marks : Int) = k + (x.marks : Int) := by have := HN.out; omega
  refine ⟨by rw [← ee]; rfl, trivial, ?_⟩
  exact ((Mk.below_ HB0.out).trans (hM1.mono fun g h => by omega)).trans ((hM2.mono fun g h => by omega).trans (hM3.mono fun g h => by omega))
--@
end Go.Proofs.YtlmjjflalmegfaaGreat
