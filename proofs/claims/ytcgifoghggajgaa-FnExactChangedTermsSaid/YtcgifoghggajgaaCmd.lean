/- Programs: the plain data and the words for memory. Plain; no program. -/
import Derived.Test.YtcgifoghggajgaaDef
set_option linter.unusedSimpArgs false
set_option linter.unusedVariables false
namespace Go.Proofs.Ytcgifoghggajgaa
open Go Go.RowKit

/-- a list of commands -/
inductive Cms where
  | nil : Cms
  | cons (kind a b : Int) (test : Fct) (inv : Asn) (body els rest : Cms) : Cms
deriving DecidableEq, Inhabited
def Cms.len : Cms → Nat
  | .nil => 0
  | .cons _ _ _ _ _ _ _ r => r.len + 1
/-- what the laws' size counts, without the list's own length -/
def Cms.cost : Cms → Nat
  | .nil => 0
  | .cons _ _ _ _ i body els r => i.facts.length + i.atoms.length + (body.len + body.cost) + (els.len + els.cost) + r.cost
/-- all inner lists are at most n long -/
def Cms.small (n : Nat) : Cms → Prop
  | .nil => True
  | .cons _ _ _ _ i body els r => i.facts.length ≤ n ∧ i.atoms.length ≤ n ∧ body.len ≤ n ∧ els.len ≤ n ∧ body.small n ∧ els.small n ∧ r.small n
theorem Cms.cost_small {n : Nat} : ∀ {L : Cms}, L.cost ≤ n → L.small n
  | .nil, _ => trivial
  | .cons k a b t i body els r, h => by
    simp only [Cms.cost] at h
    exact ⟨by omega, by omega, by omega, by omega, Cms.cost_small (by omega), Cms.cost_small (by omega), Cms.cost_small (by omega)⟩
def Cms.drop : Nat → Cms → Cms
  | 0, L => L
  | _ + 1, .nil => .nil
  | n + 1, .cons _ _ _ _ _ _ _ r => r.drop n
theorem Cms.drop_len : ∀ (n : Nat) (L : Cms), (L.drop n).len = L.len - n
  | 0, L => rfl
  | n + 1, .nil => by simp [Cms.drop, Cms.len]
  | n + 1, .cons _ _ _ _ _ _ _ r => by simp only [Cms.drop, Cms.len]; rw [Cms.drop_len n r]; omega
theorem Cms.drop_succ : ∀ (n : Nat) (L : Cms) {k a b : Int} {t : Fct} {i : Asn} {body els r : Cms}, L.drop n = .cons k a b t i body els r → L.drop (n + 1) = r
  | 0, .cons _ _ _ _ _ _ _ r, _, _, _, _, _, _, _, _, h => by simp only [Cms.drop] at h ⊢; injection h
  | 0, .nil, _, _, _, _, _, _, _, _, h => by cases h
  | n + 1, .nil, _, _, _, _, _, _, _, _, h => by cases h
  | n + 1, .cons _ _ _ _ _ _ _ r, _, _, _, _, _, _, _, _, h => Cms.drop_succ n r h
theorem Cms.cons_of_len : ∀ {L : Cms}, 0 < L.len → ∃ k a b t i body els r, L = .cons k a b t i body els r
  | .nil, h => by simp [Cms.len] at h
  | .cons k a b t i body els r, _ => ⟨k, a, b, t, i, body, els, r, rfl⟩

/-- the commands lie in a block from an offset on; what they point to lies in blocks of [lo, hi) -/
def CmsAt (w : World) (lo hi : Nat) : Cms → Nat → Nat → Prop
  | .nil, _, _ => True
  | .cons k a b t i body els r, bl, o =>
    (w.cell? ⟨bl, o, none⟩ = some (.int .i64 k) ∧ w.cell? ⟨bl, o + 1, none⟩ = some (.int .i64 a) ∧ w.cell? ⟨bl, o + 2, none⟩ = some (.int .i64 b) ∧
      w.cell? ⟨bl, o + 3, none⟩ = some (.bool t.eq) ∧ w.cell? ⟨bl, o + 4, none⟩ = some (.int .i64 t.a) ∧ w.cell? ⟨bl, o + 5, none⟩ = some (.int .i64 t.b)) ∧
    (∃ A c, w.cell? ⟨bl, o + 6, none⟩ = some (.slice A i.facts.length c) ∧ Rw w lo hi 3 A i.facts.length (encF i.facts)) ∧
    (∃ A c, w.cell? ⟨bl, o + 7, none⟩ = some (.slice A i.atoms.length c) ∧ Rw w lo hi 3 A i.atoms.length (encA i.atoms)) ∧
    (∃ A c, w.cell? ⟨bl, o + 8, none⟩ = some (.slice A body.len c) ∧ (0 < body.len → ∃ b' o', A = some ⟨b', o', none⟩ ∧ lo ≤ b' ∧ b' < hi ∧ CmsAt w lo hi body b' o')) ∧
    (∃ A c, w.cell? ⟨bl, o + 9, none⟩ = some (.slice A els.len c) ∧ (0 < els.len → ∃ b' o', A = some ⟨b', o', none⟩ ∧ lo ≤ b' ∧ b' < hi ∧ CmsAt w lo hi els b' o')) ∧
    CmsAt w lo hi r bl (o + 10)
def CmsV (w : World) (lo hi : Nat) (A : Option Addr) (L : Cms) : Prop := 0 < L.len → ∃ b o, A = some ⟨b, o, none⟩ ∧ lo ≤ b ∧ b < hi ∧ CmsAt w lo hi L b o
section
variable {w w' : World} {lo hi lo' hi' : Nat}
theorem CmsAt.below (hb : Below w.heap.size w w') : ∀ {L : Cms} {bl o : Nat}, CmsAt w lo hi L bl o → CmsAt w' lo hi L bl o
  | .nil, _, _, _ => trivial
  | .cons k a b t i body els r, bl, o, h => by
    obtain ⟨⟨h0, h1, h2, h3, h4, h5⟩, ⟨A6, c6, h6, g6⟩, ⟨A7, c7, h7, g7⟩, ⟨A8, c8, h8, g8⟩, ⟨A9, c9, h9, g9⟩, hr⟩ := h
    have hlt : bl < w.heap.size := block_lt_of_cell h0
    have hc : ∀ j, w'.cell? ⟨bl, j, none⟩ = w.cell? ⟨bl, j, none⟩ := fun j => hb.cell (p := ⟨bl, j, none⟩) hlt
    refine ⟨⟨(hc _).trans h0, (hc _).trans h1, (hc _).trans h2, (hc _).trans h3, (hc _).trans h4, (hc _).trans h5⟩, ⟨A6, c6, (hc _).trans h6, g6.below hb⟩, ⟨A7, c7, (hc _).trans h7, g7.below hb⟩, ⟨A8, c8, (hc _).trans h8, fun hl => ?_⟩, ⟨A9, c9, (hc _).trans h9, fun hl => ?_⟩, CmsAt.below hb hr⟩
    · obtain ⟨b', o', e, p1, p2, p3⟩ := g8 hl; exact ⟨b', o', e, p1, p2, CmsAt.below hb p3⟩
    · obtain ⟨b', o', e, p1, p2, p3⟩ := g9 hl; exact ⟨b', o', e, p1, p2, CmsAt.below hb p3⟩
theorem CmsAt.mono (e1 : lo' ≤ lo) (e2 : hi ≤ hi') : ∀ {L : Cms} {bl o : Nat}, CmsAt w lo hi L bl o → CmsAt w lo' hi' L bl o
  | .nil, _, _, _ => trivial
  | .cons k a b t i body els r, bl, o, h => by
    obtain ⟨h0, ⟨A6, c6, h6, g6⟩, ⟨A7, c7, h7, g7⟩, ⟨A8, c8, h8, g8⟩, ⟨A9, c9, h9, g9⟩, hr⟩ := h
    refine ⟨h0, ⟨A6, c6, h6, g6.mono e1 e2⟩, ⟨A7, c7, h7, g7.mono e1 e2⟩, ⟨A8, c8, h8, fun hl => ?_⟩, ⟨A9, c9, h9, fun hl => ?_⟩, CmsAt.mono e1 e2 hr⟩
    · obtain ⟨b', o', e, p1, p2, p3⟩ := g8 hl; exact ⟨b', o', e, by omega, by omega, CmsAt.mono e1 e2 p3⟩
    · obtain ⟨b', o', e, p1, p2, p3⟩ := g9 hl; exact ⟨b', o', e, by omega, by omega, CmsAt.mono e1 e2 p3⟩
theorem CmsV.below {A : Option Addr} {L : Cms} (h : CmsV w lo hi A L) (hb : Below w.heap.size w w') : CmsV w' lo hi A L := fun hl => by
  obtain ⟨b, o, e, p1, p2, p3⟩ := h hl; exact ⟨b, o, e, p1, p2, p3.below hb⟩
theorem CmsV.mono {A : Option Addr} {L : Cms} (h : CmsV w lo hi A L) (e1 : lo' ≤ lo) (e2 : hi ≤ hi') : CmsV w lo' hi' A L := fun hl => by
  obtain ⟨b, o, e, p1, p2, p3⟩ := h hl; exact ⟨b, o, e, by omega, by omega, p3.mono e1 e2⟩
theorem CmsAt.drop : ∀ (n : Nat) {L : Cms} {bl o : Nat}, CmsAt w lo hi L bl o → CmsAt w lo hi (L.drop n) bl (o + n * 10)
  | 0, L, bl, o, h => by simpa [Cms.drop] using h
  | n + 1, .nil, bl, o, h => trivial
  | n + 1, .cons k a b t i body els r, bl, o, h => by
    have := CmsAt.drop n h.2.2.2.2.2
    rwa [show o + 10 + n * 10 = o + (n + 1) * 10 from by omega] at this
end
theorem Cms.small_drop {m : Nat} : ∀ (n : Nat) {L : Cms}, L.small m → (L.drop n).small m
  | 0, L, h => h
  | n + 1, .nil, h => trivial
  | n + 1, .cons k a b t i body els r, h => Cms.small_drop n h.2.2.2.2.2.2
end Go.Proofs.Ytcgifoghggajgaa
