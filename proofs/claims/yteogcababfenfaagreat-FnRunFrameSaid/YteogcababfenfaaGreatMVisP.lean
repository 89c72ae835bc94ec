/- Sets of terms as flags: the spec's contracts. -/
import Derived.Test.YteogcababfenfaaGreatMCmdG
import Derived.Test.YteogcababfenfaaGreatHolds
import Derived.Test.YteogcababfenfaaGreatMSte
import Derived.Test.YteogcababfenfaaGreatMCmdK
import Derived.Test.YteogcababfenfaaGreatTidyI
set_option linter.unusedSimpArgs false
set_option linter.unusedVariables false
namespace Go.Proofs.YteogcababfenfaaGreat
open Go Go.RowKit Go.Proofs
attribute [local go_sem ↓] Go.wp_at_zero Go.wp_at_succ

theorem tins_flags (S m : Nat) (hm : m ≤ 8) : ((encB (flagsOf S)).toArray).setIfInBounds m (.bool true) = (encB (flagsOf (tins S (m : Int)))).toArray := by
  rw [flags_upd, tins, if_pos (isTermB_iff.2 (by omega)), Int.toNat_natCast]
theorem BoolsO.ofBlk {w : World} {g base S : Nat} (h : Blk w g tB (encB (flagsOf S)).toArray) (hb : base ≤ g) : BoolsO w base (.slice (some ⟨g, 0, none⟩) 9 9) (flagsOf S) :=
  ⟨own_of_blk (n := 9) (cap := 9) h hb (by simp [flagsOf]) (by intro j hj; simp) (Nat.le_refl _) (by decide) (by simp [flagsOf]), by simp [flagsOf, Lim]⟩
theorem flags2 (T m1 m2 : Nat) (h1 : m1 ≤ 8) (h2 : m2 ≤ 8) : (((encB (flagsOf T)).toArray).setIfInBounds m1 (.bool true)).setIfInBounds m2 (.bool true) = (encB (flagsOf (tins (tins T (m1 : Int)) (m2 : Int)))).toArray := by
  rw [tins_flags _ _ h1, tins_flags _ _ h2]
theorem Blk.two {w : World} {g T m1 m2 : Nat} (h : Blk w g tB (encB (flagsOf T)).toArray) (h1 : m1 ≤ 8) (h2 : m2 ≤ 8) : Blk ((w.setCell ⟨g, m1, none⟩ (.bool true)).setCell ⟨g, m2, none⟩ (.bool true)) g tB (encB (flagsOf (tins (tins T (m1 : Int)) (m2 : Int)))).toArray := by
  rw [← flags2 _ _ _ h1 h2]; exact (h.set_ _ _).set_ _ _
end Go.Proofs.YteogcababfenfaaGreat

/- Programs: what is gathered over all commands. Plain. -/
namespace Go.Proofs.YteogcababfenfaaGreat
open Go Go.RowKit Go.Proofs

/-- gathered over all commands, at any level -/
def Cms.fold (F : Nat → Int → Int → Int → Fct → Asn → Nat) : Cms → Nat → Nat
  | .nil, S => S
  | .cons k a b t i body els r, S => r.fold F (els.fold F (body.fold F (F S k a b t i)))
def chF (S : Nat) (k a _b : Int) (_t : Fct) (_i : Asn) : Nat := if k = 1 ∨ k = 2 ∨ k = 4 then tins S a else S
def loF (S : Nat) (_k a b : Int) (t : Fct) (i : Asn) : Nat := tins (tins (tins (tins S a) b) t.a) t.b ||| tset (termsL i)
def tsup (S : Nat) (x : Int) : Nat := if 4 < x then tins S x else S
def lsL (a b : Int) (t : Fct) (i : Asn) : List Int := [a, b, t.a, t.b] ++ tlistL (tset (termsL i)) 9
def lsF (S : Nat) (_k a b : Int) (t : Fct) (i : Asn) : Nat := (lsL a b t i).foldl tsup S
/-- what the two laws hand back -/
def changedL (L : Cms) : List Int := if L.prog then tlistL (L.fold chF 0) 9 else []
def logicalL (L : Cms) : List Int := if L.prog then tlistL (L.fold lsF 0) 9 else []
section
variable {w w' : World} {lo hi : Nat}
/-- a program's blocks lie as they lay -/
theorem CmsAt.keep (hk : ∀ b, lo ≤ b → b < hi → w'.heap[b]? = w.heap[b]?) : ∀ {L : Cms} {bl o : Nat}, lo ≤ bl → bl < hi → CmsAt w lo hi L bl o → CmsAt w' lo hi L bl o
  | .nil, _, _, _, _, _ => trivial
  | .cons k a b t i body els r, bl, o, e1, e2, h => by
    obtain ⟨⟨h0, h1, h2, h3, h4, h5⟩, ⟨A6, c6, h6, g6⟩, ⟨A7, c7, h7, g7⟩, ⟨A8, c8, h8, g8⟩, ⟨A9, c9, h9, g9⟩, hr⟩ := h
    have hc : ∀ j, w'.cell? ⟨bl, j, none⟩ = w.cell? ⟨bl, j, none⟩ := fun j => World.cell?_of_block (a := ⟨bl, j, none⟩) (hk bl e1 e2)
    refine ⟨⟨(hc _).trans h0, (hc _).trans h1, (hc _).trans h2, (hc _).trans h3, (hc _).trans h4, (hc _).trans h5⟩, ⟨A6, c6, (hc _).trans h6, g6.keep hk⟩, ⟨A7, c7, (hc _).trans h7, g7.keep hk⟩, ⟨A8, c8, (hc _).trans h8, fun hl => ?_⟩, ⟨A9, c9, (hc _).trans h9, fun hl => ?_⟩, CmsAt.keep hk e1 e2 hr⟩
    · obtain ⟨b', o', e, p1, p2, p3⟩ := g8 hl; exact ⟨b', o', e, p1, p2, CmsAt.keep hk p1 p2 p3⟩
    · obtain ⟨b', o', e, p1, p2, p3⟩ := g9 hl; exact ⟨b', o', e, p1, p2, CmsAt.keep hk p1 p2 p3⟩
theorem CmsV.keep {A : Option Addr} {L : Cms} (h : CmsV w lo hi A L) (hk : ∀ b, lo ≤ b → b < hi → w'.heap[b]? = w.heap[b]?) : CmsV w' lo hi A L := fun hl => by
  obtain ⟨b, o, e, p1, p2, p3⟩ := h hl; exact ⟨b, o, e, p1, p2, p3.keep hk p1 p2⟩
end
end Go.Proofs.YteogcababfenfaaGreat
