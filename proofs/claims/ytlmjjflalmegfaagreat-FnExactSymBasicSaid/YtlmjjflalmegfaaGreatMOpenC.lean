/- Programs: the plain data and the words for memory. Plain; no program. -/
import Derived.Test.YtlmjjflalmegfaaGreatMDefS
import Derived.Test.YtlmjjflalmegfaaGreatProg
set_option linter.unusedSimpArgs false
set_option linter.unusedVariables false
namespace Go.Proofs.YtlmjjflalmegfaaGreat
open Go Go.RowKit

/-- a list of commands -/
inductive Cms where
  | nil : Cms
  | cons (kind a b : Int) (test : Fct) (inv : Asn) (body els rest : Cms) : Cms
deriving DecidableEq, Inhabited
def Cms.len : Cms → Nat
  | .nil => 0
  | .cons _ _ _ _ _ _ _ r => r.len + 1
/-- what the laws' size counts, without the list's own length -/
def Cms.cost : Cms → Nat
  | .nil => 0
  | .cons _ _ _ _ i body els r => i.facts.length + i.atoms.length + (body.len + body.cost) + (els.len + els.cost) + r.cost
/-- all inner lists are at most n long -/
def Cms.small (n : Nat) : Cms → Prop
  | .nil => True
  | .cons _ _ _ _ i body els r => i.facts.length ≤ n ∧ i.atoms.length ≤ n ∧ body.len ≤ n ∧ els.len ≤ n ∧ body.small n ∧ els.small n ∧ r.small n
theorem Cms.cost_small {n : Nat} : ∀ {L : Cms}, L.cost ≤ n → L.small n
  | .nil, _ => trivial
  | .cons k a b t i body els r, h => by
    simp only [Cms.cost] at h
    exact ⟨by omega, by omega, by omega, by omega, Cms.cost_small (by omega), Cms.cost_small (by omega), Cms.cost_small (by omega)⟩
def Cms.drop : Nat → Cms → Cms
  | 0, L => L
  | _ + 1, .nil => .nil
  | n + 1, .cons _ _ _ _ _ _ _ r => r.drop n
theorem Cms.drop_len : ∀ (n : Nat) (L : Cms), (L.drop n).len = L.len - n
  | 0, L => rfl
  | n + 1, .nil => by simp [Cms.drop, Cms.len]
  | n + 1, .cons _ _ _ _ _ _ _ r => by simp only [Cms.drop, Cms.len]; rw [Cms.drop_len n r]; omega
theorem Cms.drop_all : ∀ (L : Cms), L.drop L.len = .nil
  | .nil => rfl
  | .cons k a b t i body els r => by simp only [Cms.len, Cms.drop]; exact Cms.drop_all r
theorem Cms.drop_succ : ∀ (n : Nat) (L : Cms) {k a b : Int} {t : Fct} {i : Asn} {body els r : Cms}, L.drop n = .cons k a b t i body els r → L.drop (n + 1) = r
  | 0, .cons _ _ _ _ _ _ _ r, _, _, _, _, _, _, _, _, h => by simp only [Cms.drop] at h ⊢; injection h
  | 0, .nil, _, _, _, _, _, _, _, _, h => by cases h
  | n + 1, .nil, _, _, _, _, _, _, _, _, h => by cases h
  | n + 1, .cons _ _ _ _ _ _ _ r, _, _, _, _, _, _, _, _, h => Cms.drop_succ n r h
theorem Cms.cons_of_len : ∀ {L : Cms}, 0 < L.len → ∃ k a b t i body els r, L = .cons k a b t i body els r
  | .nil, h => by simp [Cms.len] at h
  | .cons k a b t i body els r, _ => ⟨k, a, b, t, i, body, els, r, rfl⟩

/-- the commands lie in a block from an offset on; what they point to lies in blocks of [lo, hi) -/
def CmsAt (w : World) (lo hi : Nat) : Cms → Nat → Nat → Prop
  | .nil, _, _ => True
  | .cons k a b t i body els r, bl, o =>
    (w.cell? ⟨bl, o, none⟩ = some (.int .i64 k) ∧ w.cell? ⟨bl, o + 1, none⟩ = some (.int .i64 a) ∧ w.cell? ⟨bl, o + 2, none⟩ = some (.int .i64 b) ∧
      w.cell? ⟨bl, o + 3, none⟩ = some (.bool t.eq) ∧ w.cell? ⟨bl, o + 4, none⟩ = some (.int .i64 t.a) ∧ w.cell? ⟨bl, o + 5, none⟩ = some (.int .i64 t.b)) ∧
    (∃ A c, w.cell? ⟨bl, o + 6, none⟩ = some (.slice A i.facts.length c) ∧ Rw w lo hi 3 A i.facts.length (encF i.facts)) ∧
    (∃ A c, w.cell? ⟨bl, o + 7, none⟩ = some (.slice A i.atoms.length c) ∧ Rw w lo hi 3 A i.atoms.length (encA i.atoms)) ∧
    (∃ A c, w.cell? ⟨bl, o + 8, none⟩ = some (.slice A body.len c) ∧ (0 < body.len → ∃ b' o', A = some ⟨b', o', none⟩ ∧ lo ≤ b' ∧ b' < hi ∧ CmsAt w lo hi body b' o')) ∧
    (∃ A c, w.cell? ⟨bl, o + 9, none⟩ = some (.slice A els.len c) ∧ (0 < els.len → ∃ b' o', A = some ⟨b', o', none⟩ ∧ lo ≤ b' ∧ b' < hi ∧ CmsAt w lo hi els b' o')) ∧
    CmsAt w lo hi r bl (o + 10)
def CmsV (w : World) (lo hi : Nat) (A : Option Addr) (L : Cms) : Prop := 0 < L.len → ∃ b o, A = some ⟨b, o, none⟩ ∧ lo ≤ b ∧ b < hi ∧ CmsAt w lo hi L b o
section
variable {w w' : World} {lo hi lo' hi' : Nat}
theorem CmsAt.below (hb : Below w.heap.size w w') : ∀ {L : Cms} {bl o : Nat}, CmsAt w lo hi L bl o → CmsAt w' lo hi L bl o
  | .nil, _, _, _ => trivial
  | .cons k a b t i body els r, bl, o, h => by
    obtain ⟨⟨h0, h1, h2, h3, h4, h5⟩, ⟨A6, c6, h6, g6⟩, ⟨A7, c7, h7, g7⟩, ⟨A8, c8, h8, g8⟩, ⟨A9, c9, h9, g9⟩, hr⟩ := h
    have hlt : bl < w.heap.size := block_lt_of_cell h0
    have hc : ∀ j, w'.cell? ⟨bl, j, none⟩ = w.cell? ⟨bl, j, none⟩ := fun j => hb.cell (p := ⟨bl, j, none⟩) hlt
    refine ⟨⟨(hc _).trans h0, (hc _).trans h1, (hc _).trans h2, (hc _).trans h3, (hc _).trans h4, (hc _).trans h5⟩, ⟨A6, c6, (hc _).trans h6, g6.below hb⟩, ⟨A7, c7, (hc _).trans h7, g7.below hb⟩, ⟨A8, c8, (hc _).trans h8, fun hl => ?_⟩, ⟨A9, c9, (hc _).trans h9, fun hl => ?_⟩, CmsAt.below hb hr⟩
    · obtain ⟨b', o', e, p1, p2, p3⟩ := g8 hl; exact ⟨b', o', e, p1, p2, CmsAt.below hb p3⟩
    · obtain ⟨b', o', e, p1, p2, p3⟩ := g9 hl; exact ⟨b', o', e, p1, p2, CmsAt.below hb p3⟩
theorem CmsAt.mono (e1 : lo' ≤ lo) (e2 : hi ≤ hi') : ∀ {L : Cms} {bl o : Nat}, CmsAt w lo hi L bl o → CmsAt w lo' hi' L bl o
  | .nil, _, _, _ => trivial
  | .cons k a b t i body els r, bl, o, h => by
    obtain ⟨h0, ⟨A6, c6, h6, g6⟩, ⟨A7, c7, h7, g7⟩, ⟨A8, c8, h8, g8⟩, ⟨A9, c9, h9, g9⟩, hr⟩ := h
    refine ⟨h0, ⟨A6, c6, h6, g6.mono e1 e2⟩, ⟨A7, c7, h7, g7.mono e1 e2⟩, ⟨A8, c8, h8, fun hl => ?_⟩, ⟨A9, c9, h9, fun hl => ?_⟩, CmsAt.mono e1 e2 hr⟩
    · obtain ⟨b', o', e, p1, p2, p3⟩ := g8 hl; exact ⟨b', o', e, by omega, by omega, CmsAt.mono e1 e2 p3⟩
    · obtain ⟨b', o', e, p1, p2, p3⟩ := g9 hl; exact ⟨b', o', e, by omega, by omega, CmsAt.mono e1 e2 p3⟩
theorem CmsV.below {A : Option Addr} {L : Cms} (h : CmsV w lo hi A L) (hb : Below w.heap.size w w') : CmsV w' lo hi A L := fun hl => by
  obtain ⟨b, o, e, p1, p2, p3⟩ := h hl; exact ⟨b, o, e, p1, p2, p3.below hb⟩
theorem CmsV.mono {A : Option Addr} {L : Cms} (h : CmsV w lo hi A L) (e1 : lo' ≤ lo) (e2 : hi ≤ hi') : CmsV w lo' hi' A L := fun hl => by
  obtain ⟨b, o, e, p1, p2, p3⟩ := h hl; exact ⟨b, o, e, by omega, by omega, p3.mono e1 e2⟩
theorem CmsAt.drop : ∀ (n : Nat) {L : Cms} {bl o : Nat}, CmsAt w lo hi L bl o → CmsAt w lo hi (L.drop n) bl (o + n * 10)
  | 0, L, bl, o, h => by simpa [Cms.drop] using h
  | n + 1, .nil, bl, o, h => trivial
  | n + 1, .cons k a b t i body els r, bl, o, h => by
    have := CmsAt.drop n h.2.2.2.2.2
    rwa [show o + 10 + n * 10 = o + (n + 1) * 10 from by omega] at this
end
theorem Cms.small_drop {m : Nat} : ∀ (n : Nat) {L : Cms}, L.small m → (L.drop n).small m
  | 0, L, h => h
  | n + 1, .nil, h => trivial
  | n + 1, .cons k a b t i body els r, h => Cms.small_drop n h.2.2.2.2.2.2
end Go.Proofs.YtlmjjflalmegfaaGreat

/- Programs opened: what can be read as data reads as a list of commands. -/
namespace Go.Proofs.YtlmjjflalmegfaaGreat
open Go Go.RowKit Go.Proofs Go.ChangeShapes Go.WideShapes Go.ChangeAt Go.Deep

theorem form10 {α : Type} {l : List α} (h : l.length = 10) : ∃ a b c d e f g i j k, l = [a, b, c, d, e, f, g, i, j, k] := by
  match l, h with
  | [a, b, c, d, e, f, g, i, j, k], _ => exact ⟨a, b, c, d, e, f, g, i, j, k, rfl⟩
/-- one command's own cells -/
def CmdAt (w : World) (lo hi : Nat) (bl o : Nat) : Prop := ∃ (k a b : Int) (t : Fct) (i : Asn) (body els : Cms), CmsAt w lo hi (.cons k a b t i body els .nil) bl o ∧ (Cms.cons k a b t i body els .nil).small 9223372036854775807
theorem cms_build {w : World} {lo hi bl : Nat} : ∀ (n o : Nat), (∀ i, i < n → CmdAt w lo hi bl (o + i * 10)) → ∃ L : Cms, L.len = n ∧ CmsAt w lo hi L bl o ∧ L.small 9223372036854775807
  | 0, o, _ => ⟨.nil, rfl, trivial, trivial⟩
  | n + 1, o, h => by
    obtain ⟨k, a, b, t, i, body, els, h0, hs⟩ := h 0 (by omega)
    obtain ⟨r, hr, hat, hsr⟩ := cms_build n (o + 10) (fun i hi => by have := h (i + 1) (by omega); rwa [show o + (i + 1) * 10 = o + 10 + i * 10 from by omega] at this)
    rw [Nat.zero_mul, Nat.add_zero] at h0
    exact ⟨.cons k a b t i body els r, by simp [Cms.len, hr], ⟨h0.1, h0.2.1, h0.2.2.1, h0.2.2.2.1, h0.2.2.2.2.1, hat⟩, hs.1, hs.2.1, hs.2.2.1, hs.2.2.2.1, hs.2.2.2.2.1, hs.2.2.2.2.2.1, hsr⟩
section
variable {H : Type} {enc : TypeId × Value → H} {w : World} {base : Nat} {spare : Nat → Bool} {held : Bool}
theorem tr_struct7n {P : Program} {t : TypeId} {f0 f1 f2 f3 f4 f5 f6 : Field} {fuel : Nat} {cs : List Value} {x : DataW H × List MemPlace} (ht : P.underlying t = some (.struct #[f0, f1, f2, f3, f4, f5, f6])) (h : DataW.trod enc P w base spare held fuel t cs = some x) :
    ∃ n, fuel = n + 1 ∧ cs.length = P.cellsOf t ∧ (∃ y, DataW.trod enc P w base spare held n f0.type ((cs.drop f0.offset).take (P.cellsOf f0.type)) = some y) ∧ (∃ y, DataW.trod enc P w base spare held n f1.type ((cs.drop f1.offset).take (P.cellsOf f1.type)) = some y) ∧ (∃ y, DataW.trod enc P w base spare held n f2.type ((cs.drop f2.offset).take (P.cellsOf f2.type)) = some y) ∧ (∃ y, DataW.trod enc P w base spare held n f3.type ((cs.drop f3.offset).take (P.cellsOf f3.type)) = some y) ∧ (∃ y, DataW.trod enc P w base spare held n f4.type ((cs.drop f4.offset).take (P.cellsOf f4.type)) = some y) ∧ (∃ y, DataW.trod enc P w base spare held n f5.type ((cs.drop f5.offset).take (P.cellsOf f5.type)) = some y) ∧ (∃ y, DataW.trod enc P w base spare held n f6.type ((cs.drop f6.offset).take (P.cellsOf f6.type)) = some y) := by
  obtain ⟨xs, n, hfuel, _, hl, hlen, hf⟩ := DataW.trod_struct ht h
  have get : ∀ (i : Nat) (f : Field), #[f0, f1, f2, f3, f4, f5, f6][i]? = some f → ∃ y, DataW.trod enc P w base spare held n f.type ((cs.drop f.offset).take (P.cellsOf f.type)) = some y := fun i f hi => ⟨_, (hf i f hi).trans (List.getElem?_eq_getElem (by rw [hlen]; exact (Array.getElem?_eq_some_iff.1 hi).1))⟩
  exact ⟨n, hfuel, hl, get 0 f0 rfl, get 1 f1 rfl, get 2 f2 rfl, get 3 f3 rfl, get 4 f4 rfl, get 5 f5 rfl, get 6 f6 rfl⟩
--@ laws.Cmd
theorem cells_lCmd : Tryz.prog.cellsOf 73 = 10 := by kernel_rfl
theorem cells_lCmds : Tryz.prog.cellsOf 71 = 1 := by kernel_rfl
theorem cells_lFact' : Tryz.prog.cellsOf 70 = 3 := by kernel_rfl
theorem cells_lAsn' : Tryz.prog.cellsOf 54 = 2 := by kernel_rfl
/-- the cells of a command -/
def CmdR (w : World) (cs : List Value) : Prop := ∃ (k a b : Int) (t : Fct) (i : Asn) (A1 : Option Addr) (c1 : Nat) (A2 : Option Addr) (c2 : Nat) (A3 : Option Addr) (c3 : Nat) (body : Cms) (A4 : Option Addr) (c4 : Nat) (els : Cms),
  cs = [.int .i64 k, .int .i64 a, .int .i64 b, .bool t.eq, .int .i64 t.a, .int .i64 t.b, .slice A1 i.facts.length c1, .slice A2 i.atoms.length c2, .slice A3 body.len c3, .slice A4 els.len c4] ∧
    FactsR w A1 i.facts ∧ AtomsR w A2 i.atoms ∧ CmsV w 0 w.heap.size A3 body ∧ CmsV w 0 w.heap.size A4 els ∧ body.len ≤ 9223372036854775807 ∧ els.len ≤ 9223372036854775807 ∧ body.small 9223372036854775807 ∧ els.small 9223372036854775807
set_option maxRecDepth 100000 in
theorem tr_cmd1 {N : Nat} (IH : ∀ fuel, fuel ≤ N → ∀ (cs : List Value) (x : DataW H × List MemPlace), DataW.trod enc Tryz.prog w base spare held fuel 71 cs = some x → ∃ (A : Option Addr) (c : Nat) (L : Cms), cs = [.slice A L.len c] ∧ L.len ≤ 9223372036854775807 ∧ L.small 9223372036854775807 ∧ CmsV w 0 w.heap.size A L)
    {cs : List Value} {x : DataW H × List MemPlace} {fuel : Nat} (hN : fuel ≤ N + 1) (h : DataW.trod enc Tryz.prog w base spare held fuel 73 cs = some x) : CmdR w cs := by
  obtain ⟨n, hfuel, hl, ⟨y0, h0⟩, ⟨y1, h1⟩, ⟨y2, h2⟩, ⟨y3, h3⟩, ⟨y4, h4⟩, ⟨y5, h5⟩, ⟨y6, h6⟩⟩ := tr_struct7n Tryz.underlying73 h
  have hn : n ≤ N := by omega
  rw [cells_lCmd] at hl
  obtain ⟨z0, z1, z2, z3, z4, z5, z6, z7, z8, z9, rfl⟩ := form10 hl
  simp only [cells_int, cells_lFact', cells_lAsn', cells_lCmds, List.drop_succ_cons, List.drop_zero, List.take_succ_cons, List.take_zero] at h0 h1 h2 h3 h4 h5 h6
  obtain ⟨i0, e0, _⟩ := tr_int h0
  obtain ⟨i1, e1, _⟩ := tr_int h1
  obtain ⟨i2, e2, _⟩ := tr_int h2
  obtain ⟨t, e3⟩ := tr_fact h3
  obtain ⟨a, A1, c1, A2, c2, e4, g1, g2⟩ := tr_asn h4
  obtain ⟨A3, c3, L3, e5, u3, s3, g3⟩ := IH _ hn _ _ h5
  obtain ⟨A4, c4, L4, e6, u4, s4, g4⟩ := IH _ hn _ _ h6
  exact ⟨i0, i1, i2, t, a, A1, c1, A2, c2, A3, c3, L3, A4, c4, L4, by simp_all, g1, g2, g3, g4, u3, u4, s3, s4⟩
theorem CmdR.at {cs : List Value} (h : CmdR w cs) {bl o : Nat} (hc : ∀ j, j < 10 → w.cell? ⟨bl, o + j, none⟩ = cs[j]?) : CmdAt w 0 w.heap.size bl o := by
  obtain ⟨k, a, b, t, i, A1, c1, A2, c2, A3, c3, body, A4, c4, els, rfl, g1, g2, g3, g4, u3, u4, s3, s4⟩ := h
  exact ⟨k, a, b, t, i, body, els, ⟨⟨hc 0 (by omega), hc 1 (by omega), hc 2 (by omega), hc 3 (by omega), hc 4 (by omega), hc 5 (by omega)⟩, ⟨A1, c1, hc 6 (by omega), g1.1⟩, ⟨A2, c2, hc 7 (by omega), g2.1⟩, ⟨A3, c3, hc 8 (by omega), g3⟩, ⟨A4, c4, hc 9 (by omega), g4⟩, trivial⟩, ⟨g1.2, g2.2, u3, u4, s3, s4, trivial⟩⟩
set_option maxRecDepth 100000 in
theorem tr_cmds : ∀ (N : Nat) (fuel : Nat), fuel ≤ N → ∀ (cs : List Value) (x : DataW H × List MemPlace), DataW.trod enc Tryz.prog w base spare held fuel 71 cs = some x → ∃ (A : Option Addr) (c : Nat) (L : Cms), cs = [.slice A L.len c] ∧ L.len ≤ 9223372036854775807 ∧ L.small 9223372036854775807 ∧ CmsV w 0 w.heap.size A L := by
  intro N
  induction N with
  | zero => intro fuel hf cs x h; obtain rfl : fuel = 0 := by omega
            simp [DataW.trod] at h
  | succ N IH =>
    intro fuel hN cs x h
    rcases DataW.trod_slice Tryz.underlying71 h with ⟨rfl, _⟩ | ⟨a, len, cap, elems, rest, n, hfu, rfl, _, _, hl, hm, hlen, hel, _, _⟩
    · exact ⟨none, 0, .nil, rfl, by simp [Cms.len], trivial, fun h => by simp [Cms.len] at h⟩
    · have hx : ∀ i, i < len → ∃ cs', w.cells? base (a.add (i * 10)) 10 = some cs' ∧ CmdR w cs' := fun i hi => by
        have h1 := hel i hi
        rw [cells_lCmd, List.getElem?_eq_getElem (by omega)] at h1
        obtain ⟨cs', h2, h3⟩ := Option.bind_eq_some_iff.1 h1
        exact ⟨cs', h2, tr_cmd1 IH (by omega) h3⟩
      have hnone : 0 < len → a.spot = none := fun hp => by
        obtain ⟨cs', h1, h2⟩ := hx 0 hp
        have h3 := (World.cells?_some h1).2.2 0 (by omega)
        obtain ⟨k, a', b, t, i, A1, c1, A2, c2, A3, c3, body, A4, c4, els, rfl, _⟩ := h2
        rw [Nat.zero_mul] at h3
        exact none_of_cell (show w.cell? a = some (.int .i64 k) from by simpa [Addr.add] using h3)
      rcases Nat.eq_zero_or_pos len with rfl | hp
      · exact ⟨some a, cap, .nil, rfl, by simp [Cms.len], trivial, fun h => by simp [Cms.len] at h⟩
      have hsp := hnone hp
      obtain ⟨b, o, s⟩ := a
      simp only at hsp
      subst hsp
      have hcell : ∀ i, i < len → CmdAt w 0 w.heap.size b (o + i * 10) := fun i hi => by
        obtain ⟨cs', h1, h2⟩ := hx i hi
        refine h2.at fun j hj => ?_
        have h3 := (World.cells?_some h1).2.2 j hj
        have ea : ((⟨b, o, none⟩ : Addr).add (i * 10)).add j = ⟨b, o + i * 10 + j, none⟩ := by
          rw [Go.Deep.add_add]; unfold Addr.add; split
          · rename_i h0; simp only [Addr.mk.injEq, and_true, true_and]; omega
          · simp only [Addr.mk.injEq, and_true, true_and]; omega
        rwa [ea] at h3
      obtain ⟨L, hL, hat, hsm⟩ := cms_build len o hcell
      refine ⟨some ⟨b, o, none⟩, cap, L, by rw [hL], by rw [hL]; unfold maxLen at hm; omega, hsm, fun _ => ⟨b, o, rfl, Nat.zero_le _, ?_, hat⟩⟩
      obtain ⟨k, a, b', t, i, body, els, h0⟩ := hcell 0 hp
      exact block_lt_of_cell h0.1.1.1
--@
end
--@ laws.Cmd
set_option maxRecDepth 100000 in
theorem open_cmd {H : Type} {enc : TypeId × Value → H} {w : World} {v : Value} {d : DataW H} {p : List MemPlace} (hv : Value.okWide Tryz.prog w .any 0 73 v) (h : DataW.Trod enc Tryz.prog w 0 (fun _ => true) true 73 v d p) : ∃ cs : Array Value, v = .agg cs ∧ CmdR w cs.toList := by
  obtain ⟨cs, rfl, _⟩ := okWide_struct Tryz.underlying73 hv
  obtain ⟨fuel, hf⟩ := h
  exact ⟨cs, rfl, tr_cmd1 (fun fuel _ cs x h => tr_cmds fuel fuel (Nat.le_refl _) cs x h) (Nat.le_succ fuel) (by simpa [Value.cells] using hf)⟩
--@
end Go.Proofs.YtlmjjflalmegfaaGreat
