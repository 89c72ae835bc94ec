/- Words for the exact laws over programs. -/
import Derived.Test.YtcgifoghggajgaaCmdD
import Derived.Test.YtcgifoghggajgaaCmdF
import Derived.Test.YtcgifoghggajgaaOpenC
import Derived.Test.YtcgifoghggajgaaCmdP
set_option linter.unusedSimpArgs false
set_option linter.unusedVariables false
namespace Go.Proofs.Ytcgifoghggajgaa
open Go Go.RowKit Go.Proofs

/-- a program that can be read, with the bounds of the laws -/
def CmsW (w : World) (lo hi : Nat) (A : Option Addr) (L : Cms) : Prop := CmsV w lo hi A L ∧ L.len + L.cost ≤ 1048576
/-- as it comes in -/
def CmsR (w : World) (A : Option Addr) (L : Cms) : Prop := L.len ≤ 9223372036854775807 ∧ L.small 9223372036854775807 ∧ CmsV w 0 w.heap.size A L
section
variable {w w' : World} {lo hi lo' hi' a b : Nat} {v : Value} {A : Option Addr} {L : Cms}
theorem CmsW.below (h : CmsW w lo hi A L) (hb : Below w.heap.size w w') : CmsW w' lo hi A L := ⟨h.1.below hb, h.2⟩
theorem CmsW.mono (h : CmsW w lo hi A L) (e1 : lo' ≤ lo) (e2 : hi ≤ hi') : CmsW w lo' hi' A L := ⟨h.1.mono e1 e2, h.2⟩
theorem CmsW.len (h : CmsW w lo hi A L) : L.len ≤ 1049600 := by have := h.2; omega
theorem CmsW.small (h : CmsW w lo hi A L) : L.small 1049600 := Cms.cost_small (by have := h.2; omega)
theorem CmsW.sz (h : CmsW w lo hi A L) : L.sz ≤ 1049600 := by have := h.2; have := Cms.sz_cost L; omega
theorem CmsR.toW (h : CmsR w A L) (hl : L.len + L.cost ≤ 1048576) : CmsW w 0 w.heap.size A L := ⟨h.2.2, hl⟩
end
--@ laws.szCmdS
def szP (L : Cms) (left : Int) : Int := szL (L.len + L.cost) left
theorem szP_le {L : Cms} {left : Int} (h : ¬ szP L left < 0) : 0 ≤ szP L left ∧ szP L left = left - (L.len : Int) - (L.cost : Int) ∧ 0 ≤ left := by
  unfold szP at h ⊢
  have := szL_le h
  omega
theorem c_szP (A : Option Addr) (c : Nat) (L : Cms) (left : Int) (w : World) (h : CmsR w A L) {w' : World} (hb : Below w.heap.size w w') (h0 : 0 ≤ left) (h1 : left ≤ 1048576) :
    Calls Try.prog 15 #[.slice A L.len c, .int .i64 left] w' fun e w2 => e = .returned (.int .i64 (szP L left)) ∧ Below w'.heap.size w' w2 :=
  c_szCmdS L A c left w' ((h.2.2.below hb).mono (Nat.le_refl _) hb.size) h.1 h.2.1 h0 h1
--@ []impl.Cmd
def CmsI (w : World) (lo hi : Nat) (v : Value) (L : Cms) : Prop := CmsO w lo hi v L ∧ L.len + L.cost ≤ 1048576
section
variable {w w' : World} {lo hi lo' hi' a b : Nat} {v : Value} {A : Option Addr} {L : Cms}
theorem CmsI.below (h : CmsI w lo hi v L) (hb : Below w.heap.size w w') : CmsI w' lo hi v L := ⟨h.1.below hb, h.2⟩
theorem CmsI.mk (h : CmsI w lo hi v L) (hb : Mk (fun g => a ≤ g ∧ g < b) w w') (hd : hi ≤ a ∨ b ≤ lo) : CmsI w' lo hi v L := ⟨h.1.mk hb hd, h.2⟩
theorem CmsI.form (h : CmsI w lo hi v L) : ∃ A c, v = .slice A L.len c := by obtain ⟨A, c, e, -⟩ := h.1.form; exact ⟨A, c, e⟩
theorem CmsI.reads {n c : Nat} (h : CmsI w lo hi (.slice A n c) L) : CmsW w lo w.heap.size A L := by
  obtain ⟨A', c', e, h2⟩ := h.1.form
  injection e with e1 e2 e3
  subst e1
  exact ⟨h2, h.2⟩
theorem CmsI.len (h : CmsI w lo hi v L) : L.len ≤ 1049600 := h.1.len
end
--@ laws.toCmdS
theorem to_cmds {lo hi : Nat} (A : Option Addr) (c : Nat) (x : Cms) (w : World) (h : CmsW w lo hi A x) : Calls Try.prog 17 #[.slice A x.len c] w fun e w' => ∃ r, e = .returned r ∧ CmsI w' w.heap.size w'.heap.size r x ∧ Below w.heap.size w w' := by
  refine (toCmdS_go _ x (Nat.lt_succ_self _) A c w lo hi h.1 h.len h.small).mono ?_
  rintro e w' ⟨r, rfl, o, hB⟩
  exact ⟨r, rfl, ⟨o, h.2⟩, hB⟩
--@ laws.eqCmdS
theorem t_cmds {lo hi lo' hi' : Nat} (A A' : Option Addr) (c c' : Nat) (x : Cms) (w : World) (h : CmsW w lo hi A x) (h' : CmsW w lo' hi' A' x) : Calls Try.prog 20 #[.slice A x.len c, .slice A' x.len c'] w fun e w' => e = .returned (.bool true) ∧ Below w.heap.size w w' := by
  refine (eqCmdS_go _ x x (Nat.lt_succ_self _) A A' c c' w lo hi lo' hi' h.1 h'.1 h.len h'.len h.small h'.small).mono ?_
  rintro e w' ⟨rfl, hB⟩
  exact ⟨by simp, hB⟩
--@ laws.markCmdS
theorem m_cmds (v : Value) (x : Cms) (k : Int) (lo hi : Nat) (w : World) (h : CmsI w lo hi v x) (h0 : 0 ≤ k) (h1 : k ≤ 549747425280) : Calls Try.prog 21 #[v, .int .i64 k] w fun e w' => e = .returned (.int .i64 (k + x.marks)) ∧ True ∧ Mk (fun g => lo ≤ g ∧ g < hi) w w' := by
  have hm := Cms.marks_le x
  have h2 := h.2
  refine (markCmdS_go _ x (Nat.lt_succ_self _) lo hi v k w h.1 h0 (by omega)).mono ?_
  rintro e w' ⟨rfl, h3⟩
  exact ⟨rfl, trivial, h3⟩
--@
end Go.Proofs.Ytcgifoghggajgaa
