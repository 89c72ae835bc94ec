/- Lists of commands that are read as cells; the law of loops, plain. -/
import Derived.Test.YtciabhddppdioaaRunT
import Derived.Test.YtciabhddppdioaaMCmdW
set_option linter.unusedSimpArgs false
set_option linter.unusedVariables false
namespace Go.Proofs.Ytciabhddppdioaa
open Go Go.RowKit Go.Proofs
section
variable {w : World} {lo hi : Nat}
theorem Rw.x' {size n : Nat} {A : Option Addr} {xs : List Value} (h : Rw w lo hi size A n xs) : RwX w (fun x => lo ≤ x ∧ x < hi) size A n xs := Rw.x h fun b h1 h2 => ⟨h1, h2⟩
theorem CmsAt.x : ∀ {L : Cms} {b o : Nat}, CmsAt w lo hi L b o → CmsX w (fun x => lo ≤ x ∧ x < hi) L b o
  | .nil, _, _, _ => trivial
  | .cons k a b t i body els r, bl, o, h => by
    obtain ⟨h0, ⟨A6, c6, h6, g6⟩, ⟨A7, c7, h7, g7⟩, ⟨A8, c8, h8, g8⟩, ⟨A9, c9, h9, g9⟩, hr⟩ := h
    refine ⟨h0, ⟨A6, c6, h6, g6.x'⟩, ⟨A7, c7, h7, g7.x'⟩, ⟨A8, c8, h8, fun hl => ?_⟩, ⟨A9, c9, h9, fun hl => ?_⟩, CmsAt.x hr⟩
    · obtain ⟨b', o', e, p1, p2, p3⟩ := g8 hl; exact ⟨b', o', e, ⟨p1, p2⟩, CmsAt.x p3⟩
    · obtain ⟨b', o', e, p1, p2, p3⟩ := g9 hl; exact ⟨b', o', e, ⟨p1, p2⟩, CmsAt.x p3⟩
theorem CmsAt.cells : ∀ {L : Cms} {b o : Nat}, CmsAt w lo hi L b o → ∃ cs : List Value, (∀ j u, cs[j]? = some u → w.cell? ⟨b, o + j, none⟩ = some u) ∧ CmsT w (fun x => lo ≤ x ∧ x < hi) L cs ∧ ∀ u ∈ cs, u.oneCell' = true
  | .nil, _, _, _ => ⟨[], fun j u h => by simp at h, rfl, fun u h => by cases h⟩
  | .cons k a b t i body els r, bl, o, h => by
    obtain ⟨⟨p0, p1, p2, p3, p4, p5⟩, ⟨A6, c6, h6, g6⟩, ⟨A7, c7, h7, g7⟩, ⟨A8, c8, h8, g8⟩, ⟨A9, c9, h9, g9⟩, hr⟩ := h
    obtain ⟨rest, e1, e2, e3⟩ := CmsAt.cells hr
    refine ⟨tenL k a b t (.slice A6 i.facts.length c6) (.slice A7 i.atoms.length c7) (.slice A8 body.len c8) (.slice A9 els.len c9) ++ rest, fun j u hu => ?_, ⟨A6, c6, A7, c7, A8, c8, A9, c9, rest, rfl, g6.x', g7.x', fun hl => ?_, fun hl => ?_, e2⟩, fun u hu => ?_⟩
    · by_cases hj : j < 10
      · have : (tenL k a b t (.slice A6 i.facts.length c6) (.slice A7 i.atoms.length c7) (.slice A8 body.len c8) (.slice A9 els.len c9))[j]? = some u := by
          rwa [List.getElem?_append_left (by simp [tenL]; omega)] at hu
        unfold tenL at this
        match j, hj, this with
        | 0, _, e => simp at e; subst e; exact p0
        | 1, _, e => simp at e; subst e; exact p1
        | 2, _, e => simp at e; subst e; exact p2
        | 3, _, e => simp at e; subst e; exact p3
        | 4, _, e => simp at e; subst e; exact p4
        | 5, _, e => simp at e; subst e; exact p5
        | 6, _, e => simp at e; subst e; exact h6
        | 7, _, e => simp at e; subst e; exact h7
        | 8, _, e => simp at e; subst e; exact h8
        | 9, _, e => simp at e; subst e; exact h9
        | j + 10, h, _ => omega
      · have hu2 : rest[j - 10]? = some u := by
          rw [List.getElem?_append_right (by simp [tenL]; omega)] at hu
          simpa [tenL] using hu
        have := e1 _ _ hu2
        rwa [show o + 10 + (j - 10) = o + j by omega] at this
    · obtain ⟨b', o', e, q1, q2, q3⟩ := g8 hl; exact ⟨b', o', e, ⟨q1, q2⟩, q3.x⟩
    · obtain ⟨b', o', e, q1, q2, q3⟩ := g9 hl; exact ⟨b', o', e, ⟨q1, q2⟩, q3.x⟩
    · rcases List.mem_append.1 hu with hu | hu
      · exact tenOne _ _ _ _ _ _ _ _ _ _ _ _ _ _ _ _ u hu
      · exact e3 u hu
theorem CmsV.part {A : Option Addr} {L : Cms} (h : CmsV w lo hi A L) : PartX w (fun x => lo ≤ x ∧ x < hi) A L := fun hl => by
  obtain ⟨b, o, e, h1, h2, h3⟩ := h hl
  exact ⟨b, o, e, ⟨h1, h2⟩, h3.x⟩
end
/-- the last command -/
theorem Cms.last_ {L : Cms} {n : Nat} (h : L.len = n + 1) : ∃ k a b t i body els, L.drop n = .cons k a b t i body els .nil ∧ L = (L.take n).app (.cons k a b t i body els .nil) := by
  have hp : 0 < (L.drop n).len := by rw [Cms.drop_len]; omega
  obtain ⟨k, a, b, t, i, body, els, r, e⟩ := Cms.cons_of_len hp
  have hr : r = .nil := by
    have := Cms.drop_succ n L e
    rw [← this]
    exact Cms.drop_nil h.symm
  subst hr
  refine ⟨k, a, b, t, i, body, els, e, ?_⟩
  have := Cms.take_drop n L
  rw [e] at this
  exact this.symm
theorem grown_below {w w' : World} {B x0 : Nat} (hg : w.grownBy w' (some x0)) (h1 : B ≤ x0) (h2 : B ≤ w.heap.size) : Below B w w' :=
  ⟨hg.os, hg.tape, hg.output, hg.size, fun k hk => hg.block k (by omega) (fun e => by injection e with e; omega)⟩
theorem own_below8 {w w' : World} {B : Nat} {r : Option Nat} (hg : w.grownBy w' r) (h1 : ∀ y, y < B → r ≠ some y) (h2 : B ≤ w.heap.size) : Below B w w' :=
  ⟨hg.os, hg.tape, hg.output, hg.size, fun k hk => hg.block k (by omega) (fun e => h1 k hk e.symm)⟩
--@ []impl.Cmd
section
variable {ops : Array Oper} {o : Oper} {a : Act} {Q : Exit → Act → World → Prop} {w : World} {base hi : Nat}
/-- a whole list of commands that is read, appended to an empty row of our own -/
theorem stepC0 {K : Act → World → Prop} {E : Prop} (hgd : o.guard = none) (s x : Operand) (ho : o.op = .call { callee := .builtin .append, args := #[s, x], argTypes := #[23, 23] })
    {g0 c : Nat} {A : Option Addr} {L : Cms} (hs : a.eval s = .slice (some ⟨g0, 0, none⟩) 0 0) (hk : Blk w g0 tC #[]) (hx : a.eval x = .slice A L.len c) (hV : CmsV w base hi A L) (hhi : hi ≤ g0) (hbg : base ≤ g0) (hl : L.len ≤ 1049600)
    (h : ∀ v' w', CmsN w' base v' L → (v'.ownBlock = some g0 ∨ v'.ownBlock = some w.heap.size) → w.grownBy w' (some g0) → Below base w w' → K (a.put o.dst v') w') : if Region.wanted o (yielded ops a.tmps) = true then Oper.wp Try.prog o a w K Q else E := by
  rw [if_pos (show Region.wanted o (yielded ops a.tmps) = true by simp [Region.wanted, hgd])]
  have hlt := hk.lt
  have hown : w.ownsRow base tC 10 (.slice (some ⟨g0, 0, none⟩) 0 0) 0 [] := own_of_blk hk hbg rfl (Pre.zero _ _) (Nat.le_refl _) (by decide) rfl
  obtain ⟨cs, hR, hT, h1⟩ : ∃ cs : List Value, Rw w base hi 10 A L.len cs ∧ CmsT w (fun x => base ≤ x ∧ x < hi) L cs ∧ ∀ u ∈ cs, u.oneCell' = true := by
    by_cases h0 : 0 < L.len
    · obtain ⟨b, off, e, e1, e2, hA⟩ := hV h0
      obtain ⟨cs, q1, q2, q3⟩ := hA.cells
      exact ⟨cs, ⟨q2.len, fun _ => ⟨b, off, e, e1, e2, q1⟩⟩, q2, q3⟩
    · cases L with
      | nil => exact ⟨[], ⟨rfl, fun h => by simp [Cms.len] at h⟩, rfl, fun u h => by cases h⟩
      | cons => simp [Cms.len] at h0
  refine wp_appLX (n := 0) s x 23 ho Try.underlying23 infoC rfl (by decide) (by decide) hs hown hx hR h1 (by omega) (by omega) ?_
  intro v' w' q1 q2 q3 q4
  rw [Nat.zero_add, List.nil_append] at q1
  have q2' : w.grownBy w' (some g0) := q2
  have q4' : v'.ownBlock = some g0 ∨ v'.ownBlock = some w.heap.size := q4
  refine h v' w' ⟨cs, q1, ?_, hl⟩ q4' q2' q3
  refine (hT.keep (w' := w') fun y hy hlt2 => q2'.block y hlt2 (fun e => by injection e with e; omega)).mono fun y hy _ => ⟨hy.1, fun e => ?_⟩
  rcases q4' with q | q
  · rw [q] at e; injection e with e; omega
  · rw [q] at e; injection e with e; omega
/-- one more command -/
theorem stepC1 {K : Act → World → Prop} {E : Prop} (hgd : o.guard = none) (s x : Operand) (ho : o.op = .call { callee := .builtin .append, args := #[s, x], argTypes := #[23, 23] })
    {x5 c : Nat} {v : Value} {L : Cms} {k ka kb : Int} {t : Fct} {i : Asn} {body els : Cms} {AF AA AB AE : Option Addr} {cF cA cB cE : Nat} (hs : a.eval s = v) (hN : CmsN w base v L) (hx : a.eval x = .slice (some ⟨x5, 0, none⟩) 1 c)
    (hk : Blk w x5 tC (tenL k ka kb t (.slice AF i.facts.length cF) (.slice AA i.atoms.length cA) (.slice AB body.len cB) (.slice AE els.len cE)).toArray) (hn : L.len + 1 ≤ 1049600) (hb : base ≤ w.heap.size)
    (p1 : RwX w (fun b => base ≤ b ∧ v.ownBlock ≠ some b) 3 AF i.facts.length (encF i.facts)) (p2 : RwX w (fun b => base ≤ b ∧ v.ownBlock ≠ some b) 3 AA i.atoms.length (encA i.atoms))
    (p3 : PartX w (fun b => base ≤ b ∧ v.ownBlock ≠ some b) AB body) (p4 : PartX w (fun b => base ≤ b ∧ v.ownBlock ≠ some b) AE els)
    (h : ∀ v' w', CmsN w' base v' (L.app (.cons k ka kb t i body els .nil)) → w.grownBy w' v.ownBlock → Below base w w' → K (a.put o.dst v') w') : if Region.wanted o (yielded ops a.tmps) = true then Oper.wp Try.prog o a w K Q else E := by
  obtain ⟨cs, ho1, hT, -⟩ := hN
  refine stepCX (base := base) (g0 := x5) hgd s x ho hs ho1 (tenL k ka kb t (.slice AF i.facts.length cF) (.slice AA i.atoms.length cA) (.slice AB body.len cB) (.slice AE els.len cE)) hx hk rfl rfl (tenOne _ _ _ _ _ _ _ _ _ _ _ _ _ _ _ _) hn hb ?_
  intro A' c' w' q1 q2 q3 q4
  exact h _ w' (CmsN.grow hT hn p1 p2 p3 p4 q1 q2 q4) q2 q3
end
--@
end Go.Proofs.Ytciabhddppdioaa
