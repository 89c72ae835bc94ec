/- Matching filled atoms is covering: each atom of the goal by a chain of its own; coverings compose. Plain; no program. -/
import Derived.Test.YtlmjjflalmegfaaGreatMMatch
import Derived.Test.YtlmjjflalmegfaaGreatMAsnSS
import Derived.Test.YtlmjjflalmegfaaGreatMParts
set_option linter.unusedSimpArgs false
set_option linter.unusedVariables false
namespace Go.Proofs.YtlmjjflalmegfaaGreat
open Go

def clsM (M : Int → Int) (x : Atm) : Atm := ⟨x.kind, M x.a, M x.b⟩
/-- q is nil, or an atom of F begins there -/
def Clo (M : Int → Int) (F : List Atm) (q : Int) : Prop := q = M 0 ∨ ∃ y ∈ F, M y.a = q
/-- a chain of atoms from p to q -/
def SegM (M : Int → Int) (F : List Atm) (q : Int) : Int → List Atm → Prop
  | _, [] => False
  | p, y :: ys => M y.a = p ∧ ((ys = [] ∧ M y.b = q) ∨ (ys ≠ [] ∧ M y.b ≠ q ∧ (y.kind = 2 → Clo M F q) ∧ SegM M F q (M y.b) ys))
def CovM (M : Int → Int) (F : List Atm) (x : Atm) (cs : List Atm) : Prop := if x.kind = 1 then ∃ y, cs = [y] ∧ clsM M y = clsM M x else SegM M F (M x.b) (M x.a) cs
def Cover (M : Int → Int) (F G : List Atm) : Prop := ∃ g : Atm → List Atm, (∀ x ∈ G, CovM M F x (g x)) ∧ F.Perm (G.flatMap g)

/-- the atoms that are not used -/
def lft : List Atm → List Bool → List Atm
  | y :: F, u :: us => if u then lft F us else y :: lft F us
  | _, _ => []
section
variable {M : Int → Int} {F G H : List Atm}
def Covs (M : Int → Int) (F : List Atm) : List Atm → List (List Atm) → Prop
  | [], [] => True
  | x :: xs, cs :: css => CovM M F x cs ∧ Covs M F xs css
  | _, _ => False
theorem cls_inj {y x : Atm} (h : clsM M y = clsM M x) : y.kind = x.kind ∧ M y.a = M x.a ∧ M y.b = M x.b := by
  simpa [clsM] using h
theorem seg_head {q p : Int} {cs : List Atm} (h : SegM M F q p cs) : ∃ y ys, cs = y :: ys ∧ M y.a = p := by
  cases cs with
  | nil => exact absurd h id
  | cons y ys => exact ⟨y, ys, rfl, h.1⟩
theorem cov_head {x : Atm} {cs : List Atm} (h : CovM M F x cs) : ∃ y ys, cs = y :: ys ∧ M y.a = M x.a := by
  unfold CovM at h
  split at h
  · obtain ⟨y, rfl, e⟩ := h
    exact ⟨y, [], rfl, (cls_inj e).2.1⟩
  · exact seg_head h
theorem covs_starts : ∀ (G : List Atm) (css : List (List Atm)), Covs M F G css → (G.map fun x => M x.a).Sublist (css.flatten.map fun x => M x.a)
  | [], [], _ => by simp
  | [], _ :: _, h => absurd h id
  | _ :: _, [], h => absurd h id
  | x :: G, cs :: css, h => by
    have ih := covs_starts G css h.2
    obtain ⟨y, ys, rfl, e⟩ := cov_head h.1
    simp only [List.map_cons, List.flatten_cons, List.cons_append, List.map_append]
    rw [e]
    exact List.Sublist.cons_cons _ (ih.trans (List.sublist_append_right _ _))
theorem covs_fun : ∀ (G : List Atm) (css : List (List Atm)), Covs M F G css → (G.map fun x => M x.a).Nodup → ∃ g : Atm → List Atm, css.flatten = G.flatMap g ∧ ∀ x ∈ G, CovM M F x (g x)
  | [], [], _, _ => ⟨fun _ => [], by simp, by simp⟩
  | [], _ :: _, h, _ => absurd h id
  | _ :: _, [], h, _ => absurd h id
  | x :: G, cs :: css, h, hn => by
    rw [List.map_cons, List.nodup_cons] at hn
    obtain ⟨g, h1, h2⟩ := covs_fun G css h.2 hn.2
    have hx : ∀ y ∈ G, y ≠ x := fun y hy e => hn.1 (List.mem_map.2 ⟨y, hy, by rw [e]⟩)
    refine ⟨fun y => if y = x then cs else g y, ?_, fun y hy => ?_⟩
    · rw [List.flatten_cons, List.flatMap_cons, if_pos rfl, h1]
      congr 1
      unfold List.flatMap
      congr 1
      exact List.map_congr_left fun y hy => (if_neg (hx y hy)).symm
    · show CovM M F y (if y = x then cs else g y)
      rcases List.mem_cons.1 hy with rfl | hy
      · rw [if_pos rfl]; exact h.1
      · rw [if_neg (hx y hy)]; exact h2 y hy
theorem covs_of_fun {g : Atm → List Atm} : ∀ (G : List Atm), (∀ x ∈ G, CovM M F x (g x)) → Covs M F G (G.map g)
  | [], _ => trivial
  | x :: G, h => ⟨h x List.mem_cons_self, covs_of_fun G fun y hy => h y (List.mem_cons_of_mem _ hy)⟩
theorem Cover.starts (h : Cover M F G) (hn : (F.map fun y => M y.a).Nodup) : (G.map fun y => M y.a).Nodup := by
  obtain ⟨g, h1, h2⟩ := h
  have := covs_starts G _ (covs_of_fun G h1)
  rw [← List.flatMap_def] at this
  exact ((h2.map fun y => M y.a).nodup_iff.1 hn).sublist this
/-! coverings compose -/
theorem cov_seg {x : Atm} {cs : List Atm} (h : CovM M F x cs) : SegM M F (M x.b) (M x.a) cs := by
  unfold CovM at h
  split at h
  · obtain ⟨y, rfl, e⟩ := h
    exact ⟨(cls_inj e).2.1, .inl ⟨rfl, (cls_inj e).2.2⟩⟩
  · exact h
theorem seg_append {q r : Int} : ∀ (cs rest : List Atm) (p : Int), SegM M F r p cs → (∀ y ∈ cs, M y.b ≠ q) → (∀ y ∈ cs, y.kind = 2 → Clo M F q) → SegM M F q r rest → SegM M F q p (cs ++ rest)
  | [], _, _, h, _, _, _ => absurd h id
  | y :: cs, rest, p, h, h1, h2, h3 => by
    refine ⟨h.1, .inr ⟨?_, h1 y List.mem_cons_self, h2 y List.mem_cons_self, ?_⟩⟩
    · cases cs
      · intro e
        have e : rest = [] := e
        rw [e] at h3; exact h3
      · simp
    · rcases h.2 with ⟨rfl, e⟩ | ⟨-, -, -, hs⟩
      · rw [e]; exact h3
      · exact seg_append cs rest _ hs (fun z hz => h1 z (List.mem_cons_of_mem _ hz)) (fun z hz => h2 z (List.mem_cons_of_mem _ hz)) h3
/-- an end inside a chain is the chain's end or the beginning of a later atom -/
theorem seg_ends {r : Int} : ∀ (cs : List Atm) (p : Int), SegM M F r p cs → ∀ y ∈ cs, M y.b = r ∨ ∃ z ∈ cs.tail, M z.a = M y.b
  | [], _, h, _, _ => absurd h id
  | y :: cs, p, h, z, hz => by
    rcases List.mem_cons.1 hz with rfl | hz
    · rcases h.2 with ⟨rfl, e⟩ | ⟨-, -, -, hs⟩
      · exact .inl e
      · obtain ⟨w, ws, rfl, e⟩ := seg_head hs
        exact .inr ⟨w, by simp, e⟩
    · rcases h.2 with ⟨rfl, e⟩ | ⟨-, -, -, hs⟩
      · cases hz
      · rcases seg_ends cs _ hs z hz with h1 | ⟨w, hw, e⟩
        · exact .inl h1
        · exact .inr ⟨w, List.mem_of_mem_tail hw, e⟩
theorem flat_sublist {α β : Type} (g : α → List β) : ∀ (L : List α) (z : α), z ∈ L → (g z).Sublist (L.flatMap g)
  | [], _, h => by cases h
  | y :: L, z, h => by
    rw [List.flatMap_cons]
    rcases List.mem_cons.1 h with rfl | h
    · exact List.sublist_append_left _ _
    · exact (flat_sublist g L z h).trans (List.sublist_append_right _ _)
theorem flat_apart {α β γ : Type} (g : α → List β) (f : β → γ) : ∀ (L : List α), ((L.flatMap g).map f).Nodup → ∀ z ∈ L, ∀ w ∈ L, z ≠ w → ∀ x ∈ g z, ∀ y ∈ g w, f x ≠ f y
  | [], _, _, h, _, _, _, _, _, _, _ => by cases h
  | v :: L, hn, z, hz, w, hw, hne, x, hx, y, hy => by
    rw [List.flatMap_cons, List.map_append, List.nodup_append] at hn
    have hin : ∀ (u : α) (t : β), u ∈ L → t ∈ g u → f t ∈ (L.flatMap g).map f := fun u t hu ht => List.mem_map.2 ⟨t, List.mem_flatMap.2 ⟨u, hu, ht⟩, rfl⟩
    rcases List.mem_cons.1 hz with rfl | hz1
    · rcases List.mem_cons.1 hw with rfl | hw1
      · exact absurd rfl hne
      · exact hn.2.2 _ (List.mem_map.2 ⟨x, hx, rfl⟩) _ (hin w y hw1 hy)
    · rcases List.mem_cons.1 hw with rfl | hw1
      · exact fun e => hn.2.2 _ (List.mem_map.2 ⟨y, hy, rfl⟩) _ (hin z x hz1 hx) e.symm
      · exact flat_apart g f L hn.2.1 z hz1 w hw1 hne x hx y hy
theorem Cover.trans (h1 : Cover M F G) (h2 : Cover M G H) (hn : (F.map fun y => M y.a).Nodup) (h0 : ∀ y ∈ F, M y.a ≠ M 0) (hG : ∀ z ∈ G, z.kind = 1 ∨ z.kind = 2) : Cover M F H := by
  obtain ⟨g, g1, g2⟩ := h1
  obtain ⟨d, d1, d2⟩ := h2
  have hgn : ((G.flatMap g).map fun y => M y.a).Nodup := (g2.map fun y => M y.a).nodup_iff.1 hn
  have hmem : ∀ z ∈ G, ∀ y ∈ g z, y ∈ F := fun z hz y hy => g2.mem_iff.2 (List.mem_flatMap.2 ⟨z, hz, hy⟩)
  have hclo : ∀ q, Clo M G q → Clo M F q := fun q h => by
    rcases h with h | ⟨w, hw, e⟩
    · exact .inl h
    · obtain ⟨y, ys, e1, e2⟩ := cov_head (g1 w hw)
      exact .inr ⟨y, hmem w hw y (by rw [e1]; simp), e2.trans e⟩
  have hin : ∀ x ∈ H, ∀ z ∈ d x, z ∈ G := fun x hx z hz => d2.mem_iff.2 (List.mem_flatMap.2 ⟨x, hx, hz⟩)
  have hnot : ∀ z ∈ G, ∀ y ∈ (g z).tail, ¬ Clo M G (M y.a) := fun z hz y hy h => by
    have hyz := List.mem_of_mem_tail hy
    rcases h with h | ⟨w, hw, e⟩
    · exact h0 y (hmem z hz y hyz) h
    · obtain ⟨y', ys, e1, e2⟩ := cov_head (g1 w hw)
      by_cases hzw : z = w
      · subst hzw
        have := hgn.sublist ((flat_sublist g G z hz).map fun y => M y.a)
        rw [e1] at this hy
        rw [List.map_cons, List.nodup_cons] at this
        exact this.1 (List.mem_map.2 ⟨y, hy, by rw [e2, e]⟩)
      · exact flat_apart g (fun y => M y.a) G hgn z hz w hw hzw y hyz y' (by rw [e1]; simp) (by rw [e2, e])
  have comp : ∀ (q : Int) (ds : List Atm) (p : Int), SegM M G q p ds → (∀ z ∈ ds, z ∈ G) → SegM M F q p (ds.flatMap g) := by
    intro q ds
    induction ds with
    | nil => intro p h; exact absurd h id
    | cons z ds ih =>
      intro p h hD
      have hz := hD z List.mem_cons_self
      have hs := cov_seg (g1 z hz)
      rw [List.flatMap_cons]
      obtain ⟨rfl, h⟩ := h
      rcases h with ⟨rfl, e⟩ | ⟨-, hb, hc, hr⟩
      · rw [List.flatMap_nil, List.append_nil, ← e]; exact hs
      · have hkind : ∀ y ∈ g z, (g z).tail ≠ [] ∨ y.kind = 2 → Clo M G q := fun y hy hor => by
          have hcov := g1 z hz
          unfold CovM at hcov
          by_cases hk : z.kind = 1
          · rw [if_pos hk] at hcov
            obtain ⟨y', e1, e2⟩ := hcov
            rw [e1] at hor hy
            rcases hor with h | h
            · exact absurd rfl h
            · rw [List.mem_singleton.1 hy] at h
              rw [(cls_inj e2).1, hk] at h
              exact absurd h (by decide)
          · exact hc ((hG z hz).resolve_left hk)
        refine seg_append (g z) _ _ hs (fun y hy e => ?_) (fun y hy hk => hclo _ (hkind y hy (.inr hk))) (ih _ hr fun w hw => hD w (List.mem_cons_of_mem _ hw))
        rcases seg_ends _ _ hs y hy with e2 | ⟨y', hy', e2⟩
        · exact hb (e2.symm.trans e)
        · have := hkind y hy (.inl fun h => by rw [h] at hy'; cases hy')
          rw [← e, ← e2] at this
          exact hnot z hz y' hy' this
  refine ⟨fun x => (d x).flatMap g, fun x hx => ?_, ?_⟩
  · have hd := d1 x hx
    unfold CovM at hd ⊢
    by_cases hk : x.kind = 1
    · rw [if_pos hk] at hd ⊢
      obtain ⟨z, e1, e2⟩ := hd
      have hz := hin x hx z (by rw [e1]; simp)
      have hg := g1 z hz
      unfold CovM at hg
      rw [if_pos ((cls_inj e2).1.trans hk)] at hg
      obtain ⟨y, e3, e4⟩ := hg
      exact ⟨y, by show List.flatMap g (d x) = _; rw [e1]; simp [e3], e4.trans e2⟩
    · rw [if_neg hk] at hd ⊢
      exact comp _ _ _ hd (hin x hx)
  · refine g2.trans ?_
    have := d2.flatMap_right g
    rw [List.flatMap_assoc] at this
    exact this
end
end Go.Proofs.YtlmjjflalmegfaaGreat

/- A state in which a part holds satisfies the assertion; its case. Plain; no program. -/
namespace Go.Proofs.YtlmjjflalmegfaaGreat
open Go Go.RowKit

/-- the case of a state -/
def caseOfF (s : Ste) (a : Asn) : List Int := canon (tval s.values) (caseS a 0)
def caseOfL (s : Ste) (a : Asn) : List Int := if s.valid && a.valid then caseOfF s a else []
end Go.Proofs.YtlmjjflalmegfaaGreat

/- Entailment in a valuation: what it means, that it composes, and that it preserves truth. Plain; no program. -/
namespace Go.Proofs.YtlmjjflalmegfaaGreat
open Go Go.RowKit

/-- a entails b in the valuation M -/
def EntM (M : Int → Int) (a b : Asn) : Prop := (∀ f ∈ b.facts, decide (M f.a = M f.b) = f.eq) ∧ Cover M (a.atoms.filter (fillM M)) (b.atoms.filter (fillM M))
section
variable {M N : Int → Int} {T : Int → Prop} {F G : List Atm}
theorem Clo.same (h0 : T 0) (he : ∀ s t, T s → T t → (M s = M t ↔ N s = N t)) {q : Int} (hF : ∀ y ∈ F, T y.a ∧ T y.b) (hq : T q) (h : Clo M F (M q)) : Clo N F (N q) := by
  rcases h with h | ⟨y, hy, e⟩
  · exact .inl ((he _ _ hq h0).1 h)
  · exact .inr ⟨y, hy, (he _ _ (hF y hy).1 hq).1 e⟩
theorem SegM.same (h0 : T 0) (he : ∀ s t, T s → T t → (M s = M t ↔ N s = N t)) (hF : ∀ y ∈ F, T y.a ∧ T y.b) {q : Int} (hq : T q) : ∀ (cs : List Atm) (p : Int), T p → (∀ y ∈ cs, y ∈ F) → SegM M F (M q) (M p) cs → SegM N F (N q) (N p) cs
  | [], _, _, _, h => absurd h id
  | y :: cs, p, hp, hm, h => by
    have hy := hF y (hm y List.mem_cons_self)
    refine ⟨(he _ _ hy.1 hp).1 h.1, ?_⟩
    rcases h.2 with ⟨e, hb⟩ | ⟨hne, hb, hc, hs⟩
    · exact .inl ⟨e, (he _ _ hy.2 hq).1 hb⟩
    · exact .inr ⟨hne, fun e => hb ((he _ _ hy.2 hq).2 e), fun hk => (hc hk).same h0 he hF hq, SegM.same h0 he hF hq cs y.b hy.2 (fun z hz => hm z (List.mem_cons_of_mem _ hz)) hs⟩
theorem Cover.same (h0 : T 0) (he : ∀ s t, T s → T t → (M s = M t ↔ N s = N t)) (hF : ∀ y ∈ F, T y.a ∧ T y.b) (hG : ∀ y ∈ G, T y.a ∧ T y.b) (h : Cover M F G) : Cover N F G := by
  obtain ⟨g, h1, h2⟩ := h
  refine ⟨g, fun x hx => ?_, h2⟩
  have hm : ∀ y ∈ g x, y ∈ F := fun y hy => h2.mem_iff.2 (List.mem_flatMap.2 ⟨x, hx, hy⟩)
  have hc := h1 x hx
  unfold CovM at hc ⊢
  split
  · rename_i hk
    rw [if_pos hk] at hc
    obtain ⟨y, e, e2⟩ := hc
    have hy := hF y (hm y (by rw [e]; simp))
    obtain ⟨e3, e4, e5⟩ := cls_inj e2
    refine ⟨y, e, ?_⟩
    unfold clsM
    rw [e3, (he _ _ hy.1 (hG x hx).1).1 e4, (he _ _ hy.2 (hG x hx).2).1 e5]
  · rename_i hk
    rw [if_neg hk] at hc
    exact SegM.same h0 he hF (hG x hx).2 _ _ (hG x hx).1 hm hc
theorem fill_same (he : ∀ s t, T s → T t → (M s = M t ↔ N s = N t)) {xs : List Atm} (hx : ∀ y ∈ xs, T y.a ∧ T y.b) : xs.filter (fillM M) = xs.filter (fillM N) := by
  refine List.filter_congr fun y hy => ?_
  unfold fillM
  rw [decide_eq_decide.2 (he _ _ (hx y hy).1 (hx y hy).2)]
theorem EntM.same {a b : Asn} (h0 : T 0) (he : ∀ s t, T s → T t → (M s = M t ↔ N s = N t)) (ha : ∀ y ∈ a.atoms, T y.a ∧ T y.b) (hb : ∀ y ∈ b.atoms, T y.a ∧ T y.b) (hf : ∀ f ∈ b.facts, T f.a ∧ T f.b) (h : EntM M a b) : EntM N a b := by
  refine ⟨fun f hm => ?_, ?_⟩
  · rw [← h.1 f hm, decide_eq_decide]
    exact (he _ _ (hf f hm).1 (hf f hm).2).symm
  · rw [← fill_same he ha, ← fill_same he hb]
    exact h.2.same h0 he (fun y hy => ha y (List.mem_filter.1 hy).1) (fun y hy => hb y (List.mem_filter.1 hy).1)
end
theorem valid_kind {a : Asn} (h : a.valid = true) {x : Atm} (hx : x ∈ a.atoms) : x.kind = 1 ∨ x.kind = 2 := by
  simp only [Asn.valid, Bool.and_eq_true] at h
  have := List.all_eq_true.1 h.2.2 x hx
  simp [Atm.valid] at this
  exact this.1.1
section
variable {M : Int → Int} {a b c : Asn}
theorem EntM.sat (h : EntM M a b) (ha : Sat M a) : Sat M b := by
  refine ⟨h.1, fun x hx hf => ?_, h.2.starts ha.apart⟩
  obtain ⟨g, h1, h2⟩ := h.2
  have hx' : x ∈ b.atoms.filter (fillM M) := List.mem_filter.2 ⟨hx, hf⟩
  obtain ⟨y, ys, e1, e2⟩ := cov_head (h1 x hx')
  have hy : y ∈ a.atoms.filter (fillM M) := h2.mem_iff.2 (List.mem_flatMap.2 ⟨x, hx', by rw [e1]; simp⟩)
  rw [List.mem_filter] at hy
  rw [← e2]
  exact ha.nil y hy.1 hy.2
theorem EntM.trans (h1 : EntM M a b) (h2 : EntM M b c) (ha : Sat M a) (hb : b.valid = true) : EntM M a c :=
  ⟨h2.1, h1.2.trans h2.2 ha.apart (fun y hy => ha.nil y (List.mem_filter.1 hy).1 (List.mem_filter.1 hy).2) fun z hz => valid_kind hb (List.mem_filter.1 hz).1⟩
/-- atoms in another order, with other names of the same terms; fewer facts -/
theorem Cover.perm {F G : List Atm} (h : F.Perm G) : Cover M F G := by
  refine ⟨fun x => [x], fun x hx => ?_, by simpa using h⟩
  unfold CovM
  split
  · exact ⟨x, rfl, rfl⟩
  · exact ⟨rfl, .inl ⟨rfl, rfl⟩⟩
theorem EntM.refl (ha : Sat M a) : EntM M a a := ⟨ha.facts, Cover.perm (List.Perm.refl _)⟩
end

/-! truth in states -/
def cellsOf (s : Ste) (x : Atm) : List Int := (atomCells s x).getD []
end Go.Proofs.YtlmjjflalmegfaaGreat
