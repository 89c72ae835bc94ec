/- Matching filled atoms is covering: each atom of the goal by a chain of its own; coverings compose. Plain; no program. -/
import Derived.Test.YtlmjjflalmegfaaGreatMSlHas
import Derived.Test.YtlmjjflalmegfaaGreatMAsnSS
import Derived.Test.YtlmjjflalmegfaaGreatMStSame
set_option linter.unusedSimpArgs false
set_option linter.unusedVariables false
namespace Go.Proofs.YtlmjjflalmegfaaGreat
open Go

def clsM (M : Int → Int) (x : Atm) : Atm := ⟨x.kind, M x.a, M x.b⟩
/-- q is nil, or an atom of F begins there -/
def Clo (M : Int → Int) (F : List Atm) (q : Int) : Prop := q = M 0 ∨ ∃ y ∈ F, M y.a = q
/-- a chain of atoms from p to q -/
def SegM (M : Int → Int) (F : List Atm) (q : Int) : Int → List Atm → Prop
  | _, [] => False
  | p, y :: ys => M y.a = p ∧ ((ys = [] ∧ M y.b = q) ∨ (ys ≠ [] ∧ M y.b ≠ q ∧ (y.kind = 2 → Clo M F q) ∧ SegM M F q (M y.b) ys))
def CovM (M : Int → Int) (F : List Atm) (x : Atm) (cs : List Atm) : Prop := if x.kind = 1 then ∃ y, cs = [y] ∧ clsM M y = clsM M x else SegM M F (M x.b) (M x.a) cs
def Cover (M : Int → Int) (F G : List Atm) : Prop := ∃ g : Atm → List Atm, (∀ x ∈ G, CovM M F x (g x)) ∧ F.Perm (G.flatMap g)

/-- the atoms that are not used -/
def lft : List Atm → List Bool → List Atm
  | y :: F, u :: us => if u then lft F us else y :: lft F us
  | _, _ => []
theorem lft_take : ∀ (F : List Atm) (used : List Bool) (k : Nat) (y : Atm), F[k]? = some y → used[k]? = some false → (lft F used).Perm (y :: lft F (used.set k true))
  | [], _, _, _, h, _ => by simp at h
  | _ :: _, [], _, _, _, h => by simp at h
  | z :: F, u :: us, 0, y, h1, h2 => by
    simp only [List.getElem?_cons_zero, Option.some.injEq] at h1 h2
    subst h1 h2
    simp [lft]
  | z :: F, u :: us, k + 1, y, h1, h2 => by
    simp only [List.getElem?_cons_succ] at h1 h2
    have ih := lft_take F us k y h1 h2
    rw [List.set_cons_succ]
    cases u
    · simp only [lft, Bool.false_eq_true, if_false]
      exact (ih.cons z).trans (List.Perm.swap ..)
    · simp only [lft, if_true]
      exact ih
theorem lft_rep : ∀ (F : List Atm), lft F (List.replicate F.length false) = F
  | [] => rfl
  | y :: F => by simp [lft, List.replicate_succ, lft_rep F]
theorem lft_nil : ∀ (F : List Atm) (u : List Bool), u.length = F.length → (lft F u = [] ↔ u.all id = true)
  | [], [], _ => by simp [lft]
  | [], _ :: _, h => by simp at h
  | _ :: _, [], h => by simp at h
  | y :: F, u :: us, h => by
    have := lft_nil F us (by simpa using h)
    cases u
    · simp [lft]
    · simpa [lft] using this
theorem lft_mem : ∀ (F : List Atm) (u : List Bool) (y : Atm), y ∈ lft F u → ∃ k : Nat, F[k]? = some y ∧ u[k]? = some false
  | [], [], y, h => by simp [lft] at h
  | [], _ :: _, y, h => by simp [lft] at h
  | _ :: _, [], y, h => by simp [lft] at h
  | z :: F, u :: us, y, h => by
    have ih := lft_mem F us y
    cases u
    · simp only [lft, Bool.false_eq_true, if_false, List.mem_cons] at h
      rcases h with rfl | h
      · exact ⟨0, by simp, by simp⟩
      · obtain ⟨k, h1, h2⟩ := ih h
        exact ⟨k + 1, by simpa using h1, by simpa using h2⟩
    · simp only [lft, if_true] at h
      obtain ⟨k, h1, h2⟩ := ih h
      exact ⟨k + 1, by simpa using h1, by simpa using h2⟩
section
variable {M : Int → Int} {F G H : List Atm}
theorem clo_iff (h0 : M 0 = 0) (b : Int) : closedB (F.map (clsM M)) b = true ↔ Clo M F b := by
  unfold closedB Clo
  rw [Bool.or_eq_true, decide_eq_true_eq, List.any_eq_true, h0]
  constructor
  · rintro (h | ⟨x, hx, h⟩)
    · exact .inl h
    · obtain ⟨y, hy, rfl⟩ := List.mem_map.1 hx
      exact .inr ⟨y, hy, of_decide_eq_true h⟩
  · rintro (h | ⟨y, hy, h⟩)
    · exact .inl h
    · exact .inr ⟨_, List.mem_map.2 ⟨y, hy, rfl⟩, decide_eq_true h⟩
theorem find_at {used : List Bool} {c : Int} {k : Nat} (h : findU (F.map (clsM M)) used c = some k) : ∃ y, F[k]? = some y ∧ used[k]? = some false ∧ M y.a = c ∧ ((F.map (clsM M))[k]?).getD default = clsM M y := by
  obtain ⟨h1, h2⟩ := findU_some h
  have h3 := (freeAt_used h2).2
  rw [List.length_map] at h1
  refine ⟨F[k], List.getElem?_eq_getElem h1, h3, ?_, by simp [List.getElem?_map, List.getElem?_eq_getElem h1]⟩
  unfold freeAt at h2
  rw [Bool.and_eq_true, decide_eq_true_eq] at h2
  have := h2.1
  simpa [List.getElem?_map, List.getElem?_eq_getElem h1, clsM] using this
theorem chain_fwd (h0 : M 0 = 0) {b : Int} : ∀ (n : Nat) (used : List Bool) (c : Int) (u : List Bool), chainF (F.map (clsM M)) b n used c = some u → ∃ cs, SegM M F b c cs ∧ (lft F used).Perm (cs ++ lft F u) := by
  intro n
  induction n with
  | zero => intro used c u h; cases h
  | succ n ih =>
    intro used c u h
    unfold chainF at h
    rw [Option.bind_eq_some_iff] at h
    obtain ⟨k, hk, h⟩ := h
    obtain ⟨y, hy, hu, ha, e⟩ := find_at hk
    have hp := lft_take F used k y hy hu
    rw [e] at h
    split at h
    · rename_i hb
      obtain rfl := Option.some.inj h
      exact ⟨[y], ⟨ha, .inl ⟨rfl, hb⟩⟩, hp⟩
    · rename_i hb
      split at h
      · cases h
      · rename_i hc
        obtain ⟨cs, h1, h2⟩ := ih _ _ _ h
        refine ⟨y :: cs, ⟨ha, .inr ⟨fun e => by rw [e] at h1; exact h1, hb, fun hk2 => ?_, h1⟩⟩, hp.trans (h2.cons y)⟩
        rw [← clo_iff h0]
        cases hcb : closedB (F.map (clsM M)) b
        · exact absurd ⟨hk2, hcb⟩ hc
        · rfl
theorem nodup_at {α : Type} {l : List α} (h : l.Nodup) {i j : Nat} {x : α} (hi : l[i]? = some x) (hj : l[j]? = some x) : i = j := by
  obtain ⟨a1, a2⟩ := List.getElem?_eq_some_iff.1 hi
  obtain ⟨b1, b2⟩ := List.getElem?_eq_some_iff.1 hj
  have hp := List.pairwise_iff_getElem.1 h
  rcases Nat.lt_trichotomy i j with h1 | h1 | h1
  · exact absurd (a2.trans b2.symm) (hp i j a1 b1 h1)
  · exact h1
  · exact absurd (b2.trans a2.symm) (hp j i b1 a1 h1)
theorem find_free (hn : (F.map fun y => M y.a).Nodup) {used : List Bool} {y : Atm} (hy : y ∈ lft F used) : ∃ k, findU (F.map (clsM M)) used (M y.a) = some k ∧ F[k]? = some y ∧ used[k]? = some false ∧ ((F.map (clsM M))[k]?).getD default = clsM M y := by
  obtain ⟨k, h1, h2⟩ := lft_mem F used y hy
  have hl := (List.getElem?_eq_some_iff.1 h1).1
  refine ⟨k, ?_, h1, h2, by simp [List.getElem?_map, h1]⟩
  unfold findU
  refine range_find_some (by simpa using hl) ?_ fun j hj => ?_
  · unfold freeAt
    simp [List.getElem?_map, h1, h2, clsM]
  · have hjl : j < F.length := by omega
    unfold freeAt
    simp only [List.getElem?_map, List.getElem?_eq_getElem hjl, Option.map_some, Option.getD_some, clsM]
    rw [Bool.and_eq_false_iff]
    left
    rw [decide_eq_false_iff_not]
    intro e
    have := nodup_at hn (i := j) (j := k) (x := M y.a) (by simp [List.getElem?_map, List.getElem?_eq_getElem hjl, e]) (by simp [List.getElem?_map, h1])
    omega
theorem chain_bwd (h0 : M 0 = 0) (hn : (F.map fun y => M y.a).Nodup) {b : Int} : ∀ (cs : List Atm) (n : Nat) (used : List Bool) (c : Int) (rest : List Atm), cs.length ≤ n → SegM M F b c cs → (lft F used).Perm (cs ++ rest) → ∃ u, chainF (F.map (clsM M)) b n used c = some u ∧ (lft F u).Perm rest := by
  intro cs
  induction cs with
  | nil => intro n used c rest _ h; exact absurd h id
  | cons y cs ih =>
    intro n used c rest hl h hp
    obtain ⟨n, rfl⟩ : ∃ m, n = m + 1 := ⟨n - 1, by simp at hl; omega⟩
    obtain ⟨rfl, h⟩ := h
    obtain ⟨k, h1, h2, h3, h4⟩ := find_free (M := M) hn (hp.mem_iff.2 (by simp : y ∈ y :: cs ++ rest))
    have hp2 : (lft F (used.set k true)).Perm (cs ++ rest) := ((lft_take F used k y h2 h3).symm.trans hp).cons_inv
    unfold chainF
    rw [h1, Option.bind_some, h4]
    rcases h with ⟨rfl, hb⟩ | ⟨hne, hb, hc, hs⟩
    · rw [if_pos (show (clsM M y).b = b from hb)]
      exact ⟨_, rfl, hp2⟩
    · rw [if_neg (show ¬ (clsM M y).b = b from hb), if_neg]
      · exact ih n _ _ rest (by simp at hl; omega) hs hp2
      · rintro ⟨g1, g2⟩
        have := (clo_iff h0 b).2 (hc g1)
        rw [g2] at this; cases this
def Covs (M : Int → Int) (F : List Atm) : List Atm → List (List Atm) → Prop
  | [], [] => True
  | x :: xs, cs :: css => CovM M F x cs ∧ Covs M F xs css
  | _, _ => False
theorem cls_inj {y x : Atm} (h : clsM M y = clsM M x) : y.kind = x.kind ∧ M y.a = M x.a ∧ M y.b = M x.b := by
  simpa [clsM] using h
theorem match_fwd (h0 : M 0 = 0) : ∀ (G : List Atm) (used u : List Bool), matchF (F.map (clsM M)) used (G.map (clsM M)) = some u → ∃ css, Covs M F G css ∧ (lft F used).Perm (css.flatten ++ lft F u)
  | [], used, u, h => by
    obtain rfl := Option.some.inj h
    exact ⟨[], trivial, by simp⟩
  | x :: G, used, u, h => by
    simp only [List.map_cons, matchF, Option.bind_eq_some_iff] at h
    obtain ⟨u1, h1, h2⟩ := h
    obtain ⟨css, h3, h4⟩ := match_fwd h0 G u1 u h2
    have key : ∃ cs, CovM M F x cs ∧ (lft F used).Perm (cs ++ lft F u1) := by
      unfold useOne at h1
      unfold CovM
      by_cases hk : x.kind = 1
      · rw [if_pos (show (clsM M x).kind = 1 from hk)] at h1
        rw [Option.bind_eq_some_iff] at h1
        obtain ⟨k, hf, h1⟩ := h1
        obtain ⟨y, hy, hu, ha, e⟩ := find_at hf
        rw [e] at h1
        split at h1
        · rename_i he
          obtain rfl := Option.some.inj h1
          exact ⟨[y], by rw [if_pos hk]; exact ⟨y, rfl, he⟩, lft_take F used k y hy hu⟩
        · cases h1
      · rw [if_neg (show ¬ (clsM M x).kind = 1 from hk)] at h1
        obtain ⟨cs, g1, g2⟩ := chain_fwd h0 _ _ _ _ h1
        exact ⟨cs, by rw [if_neg hk]; exact g1, g2⟩
    obtain ⟨cs, g1, g2⟩ := key
    refine ⟨cs :: css, ⟨g1, h3⟩, ?_⟩
    rw [List.flatten_cons, List.append_assoc]
    exact g2.trans (h4.append_left cs)
theorem seg_head {q p : Int} {cs : List Atm} (h : SegM M F q p cs) : ∃ y ys, cs = y :: ys ∧ M y.a = p := by
  cases cs with
  | nil => exact absurd h id
  | cons y ys => exact ⟨y, ys, rfl, h.1⟩
theorem cov_head {x : Atm} {cs : List Atm} (h : CovM M F x cs) : ∃ y ys, cs = y :: ys ∧ M y.a = M x.a := by
  unfold CovM at h
  split at h
  · obtain ⟨y, rfl, e⟩ := h
    exact ⟨y, [], rfl, (cls_inj e).2.1⟩
  · exact seg_head h
theorem match_bwd (h0 : M 0 = 0) (hn : (F.map fun y => M y.a).Nodup) : ∀ (G : List Atm) (used : List Bool) (css : List (List Atm)) (rest : List Atm), Covs M F G css → (lft F used).Perm (css.flatten ++ rest) → css.flatten.length ≤ F.length → ∃ u, matchF (F.map (clsM M)) used (G.map (clsM M)) = some u ∧ (lft F u).Perm rest
  | [], used, [], rest, _, hp, _ => ⟨used, rfl, by simpa using hp⟩
  | [], _, _ :: _, _, h, _, _ => absurd h id
  | _ :: _, _, [], _, h, _, _ => absurd h id
  | x :: G, used, cs :: css, rest, h, hp, hl => by
    obtain ⟨h1, h2⟩ := h
    rw [List.flatten_cons, List.append_assoc] at hp
    rw [List.flatten_cons, List.length_append] at hl
    have key : ∃ u1, useOne (F.map (clsM M)) used (clsM M x) = some u1 ∧ (lft F u1).Perm (css.flatten ++ rest) := by
      unfold useOne
      unfold CovM at h1
      by_cases hk : x.kind = 1
      · rw [if_pos hk] at h1
        rw [if_pos (show (clsM M x).kind = 1 from hk)]
        obtain ⟨y, rfl, e⟩ := h1
        obtain ⟨k, g1, g2, g3, g4⟩ := find_free (M := M) hn (hp.mem_iff.2 (by simp : y ∈ [y] ++ (css.flatten ++ rest)))
        rw [show (clsM M x).a = M y.a from (cls_inj e).2.1.symm, g1, Option.bind_some, g4, if_pos e]
        exact ⟨_, rfl, ((lft_take F used k y g2 g3).symm.trans hp).cons_inv⟩
      · rw [if_neg hk] at h1
        rw [if_neg (show ¬ (clsM M x).kind = 1 from hk)]
        exact chain_bwd h0 hn cs _ used _ _ (by rw [List.length_map]; omega) h1 hp
    obtain ⟨u1, g1, g2⟩ := key
    obtain ⟨u, g3, g4⟩ := match_bwd h0 hn G u1 css rest h2 g2 (by omega)
    refine ⟨u, ?_, g4⟩
    simp only [List.map_cons, matchF]
    rw [g1, Option.bind_some]
    exact g3
theorem matchF_len : ∀ (G : List Atm) (used u : List Bool), matchF F used G = some u → u.length = used.length
  | [], used, u, h => by rw [← Option.some.inj h]
  | x :: G, used, u, h => by
    simp only [matchF, Option.bind_eq_some_iff] at h
    obtain ⟨u1, h1, h2⟩ := h
    rw [matchF_len G u1 u h2, useOne_len h1]
theorem covs_starts : ∀ (G : List Atm) (css : List (List Atm)), Covs M F G css → (G.map fun x => M x.a).Sublist (css.flatten.map fun x => M x.a)
  | [], [], _ => by simp
  | [], _ :: _, h => absurd h id
  | _ :: _, [], h => absurd h id
  | x :: G, cs :: css, h => by
    have ih := covs_starts G css h.2
    obtain ⟨y, ys, rfl, e⟩ := cov_head h.1
    simp only [List.map_cons, List.flatten_cons, List.cons_append, List.map_append]
    rw [e]
    exact List.Sublist.cons_cons _ (ih.trans (List.sublist_append_right _ _))
theorem covs_fun : ∀ (G : List Atm) (css : List (List Atm)), Covs M F G css → (G.map fun x => M x.a).Nodup → ∃ g : Atm → List Atm, css.flatten = G.flatMap g ∧ ∀ x ∈ G, CovM M F x (g x)
  | [], [], _, _ => ⟨fun _ => [], by simp, by simp⟩
  | [], _ :: _, h, _ => absurd h id
  | _ :: _, [], h, _ => absurd h id
  | x :: G, cs :: css, h, hn => by
    rw [List.map_cons, List.nodup_cons] at hn
    obtain ⟨g, h1, h2⟩ := covs_fun G css h.2 hn.2
    have hx : ∀ y ∈ G, y ≠ x := fun y hy e => hn.1 (List.mem_map.2 ⟨y, hy, by rw [e]⟩)
    refine ⟨fun y => if y = x then cs else g y, ?_, fun y hy => ?_⟩
    · rw [List.flatten_cons, List.flatMap_cons, if_pos rfl, h1]
      congr 1
      unfold List.flatMap
      congr 1
      exact List.map_congr_left fun y hy => (if_neg (hx y hy)).symm
    · show CovM M F y (if y = x then cs else g y)
      rcases List.mem_cons.1 hy with rfl | hy
      · rw [if_pos rfl]; exact h.1
      · rw [if_neg (hx y hy)]; exact h2 y hy
theorem covs_of_fun {g : Atm → List Atm} : ∀ (G : List Atm), (∀ x ∈ G, CovM M F x (g x)) → Covs M F G (G.map g)
  | [], _ => trivial
  | x :: G, h => ⟨h x List.mem_cons_self, covs_of_fun G fun y hy => h y (List.mem_cons_of_mem _ hy)⟩
theorem Cover.starts (h : Cover M F G) (hn : (F.map fun y => M y.a).Nodup) : (G.map fun y => M y.a).Nodup := by
  obtain ⟨g, h1, h2⟩ := h
  have := covs_starts G _ (covs_of_fun G h1)
  rw [← List.flatMap_def] at this
  exact ((h2.map fun y => M y.a).nodup_iff.1 hn).sublist this
theorem match_iff (h0 : M 0 = 0) (hn : (F.map fun y => M y.a).Nodup) : matchB (F.map (clsM M)) (G.map (clsM M)) = true ↔ Cover M F G := by
  unfold matchB
  rw [List.length_map]
  constructor
  · intro h
    cases e : matchF (F.map (clsM M)) (List.replicate F.length false) (G.map (clsM M)) with
    | none => rw [e] at h; cases h
    | some u =>
      rw [e] at h
      obtain ⟨css, h1, h2⟩ := match_fwd h0 G _ u e
      rw [lft_rep, (lft_nil F u (by rw [matchF_len _ _ _ e]; simp)).2 h, List.append_nil] at h2
      have hs := covs_starts G css h1
      obtain ⟨g, g1, g2⟩ := covs_fun G css h1 (((h2.map fun y => M y.a).nodup_iff.1 hn).sublist hs)
      exact ⟨g, g2, by rw [← g1]; exact h2⟩
  · rintro ⟨g, h1, h2⟩
    obtain ⟨u, h3, h4⟩ := match_bwd h0 hn G (List.replicate F.length false) (G.map g) [] (covs_of_fun G h1) (by rw [lft_rep, List.append_nil, ← List.flatMap_def]; exact h2) (by rw [← List.flatMap_def, h2.length_eq]; exact Nat.le_refl _)
    rw [h3]
    exact (lft_nil F u (by rw [matchF_len _ _ _ h3]; simp)).1 (List.Perm.eq_nil h4)

/-! coverings compose -/
theorem cov_seg {x : Atm} {cs : List Atm} (h : CovM M F x cs) : SegM M F (M x.b) (M x.a) cs := by
  unfold CovM at h
  split at h
  · obtain ⟨y, rfl, e⟩ := h
    exact ⟨(cls_inj e).2.1, .inl ⟨rfl, (cls_inj e).2.2⟩⟩
  · exact h
theorem seg_append {q r : Int} : ∀ (cs rest : List Atm) (p : Int), SegM M F r p cs → (∀ y ∈ cs, M y.b ≠ q) → (∀ y ∈ cs, y.kind = 2 → Clo M F q) → SegM M F q r rest → SegM M F q p (cs ++ rest)
  | [], _, _, h, _, _, _ => absurd h id
  | y :: cs, rest, p, h, h1, h2, h3 => by
    refine ⟨h.1, .inr ⟨?_, h1 y List.mem_cons_self, h2 y List.mem_cons_self, ?_⟩⟩
    · cases cs
      · intro e
        have e : rest = [] := e
        rw [e] at h3; exact h3
      · simp
    · rcases h.2 with ⟨rfl, e⟩ | ⟨-, -, -, hs⟩
      · rw [e]; exact h3
      · exact seg_append cs rest _ hs (fun z hz => h1 z (List.mem_cons_of_mem _ hz)) (fun z hz => h2 z (List.mem_cons_of_mem _ hz)) h3
/-- an end inside a chain is the chain's end or the beginning of a later atom -/
theorem seg_ends {r : Int} : ∀ (cs : List Atm) (p : Int), SegM M F r p cs → ∀ y ∈ cs, M y.b = r ∨ ∃ z ∈ cs.tail, M z.a = M y.b
  | [], _, h, _, _ => absurd h id
  | y :: cs, p, h, z, hz => by
    rcases List.mem_cons.1 hz with rfl | hz
    · rcases h.2 with ⟨rfl, e⟩ | ⟨-, -, -, hs⟩
      · exact .inl e
      · obtain ⟨w, ws, rfl, e⟩ := seg_head hs
        exact .inr ⟨w, by simp, e⟩
    · rcases h.2 with ⟨rfl, e⟩ | ⟨-, -, -, hs⟩
      · cases hz
      · rcases seg_ends cs _ hs z hz with h1 | ⟨w, hw, e⟩
        · exact .inl h1
        · exact .inr ⟨w, List.mem_of_mem_tail hw, e⟩
theorem flat_sublist {α β : Type} (g : α → List β) : ∀ (L : List α) (z : α), z ∈ L → (g z).Sublist (L.flatMap g)
  | [], _, h => by cases h
  | y :: L, z, h => by
    rw [List.flatMap_cons]
    rcases List.mem_cons.1 h with rfl | h
    · exact List.sublist_append_left _ _
    · exact (flat_sublist g L z h).trans (List.sublist_append_right _ _)
theorem flat_apart {α β γ : Type} (g : α → List β) (f : β → γ) : ∀ (L : List α), ((L.flatMap g).map f).Nodup → ∀ z ∈ L, ∀ w ∈ L, z ≠ w → ∀ x ∈ g z, ∀ y ∈ g w, f x ≠ f y
  | [], _, _, h, _, _, _, _, _, _, _ => by cases h
  | v :: L, hn, z, hz, w, hw, hne, x, hx, y, hy => by
    rw [List.flatMap_cons, List.map_append, List.nodup_append] at hn
    have hin : ∀ (u : α) (t : β), u ∈ L → t ∈ g u → f t ∈ (L.flatMap g).map f := fun u t hu ht => List.mem_map.2 ⟨t, List.mem_flatMap.2 ⟨u, hu, ht⟩, rfl⟩
    rcases List.mem_cons.1 hz with rfl | hz1
    · rcases List.mem_cons.1 hw with rfl | hw1
      · exact absurd rfl hne
      · exact hn.2.2 _ (List.mem_map.2 ⟨x, hx, rfl⟩) _ (hin w y hw1 hy)
    · rcases List.mem_cons.1 hw with rfl | hw1
      · exact fun e => hn.2.2 _ (List.mem_map.2 ⟨y, hy, rfl⟩) _ (hin z x hz1 hx) e.symm
      · exact flat_apart g f L hn.2.1 z hz1 w hw1 hne x hx y hy
theorem Cover.trans (h1 : Cover M F G) (h2 : Cover M G H) (hn : (F.map fun y => M y.a).Nodup) (h0 : ∀ y ∈ F, M y.a ≠ M 0) (hG : ∀ z ∈ G, z.kind = 1 ∨ z.kind = 2) : Cover M F H := by
  obtain ⟨g, g1, g2⟩ := h1
  obtain ⟨d, d1, d2⟩ := h2
  have hgn : ((G.flatMap g).map fun y => M y.a).Nodup := (g2.map fun y => M y.a).nodup_iff.1 hn
  have hmem : ∀ z ∈ G, ∀ y ∈ g z, y ∈ F := fun z hz y hy => g2.mem_iff.2 (List.mem_flatMap.2 ⟨z, hz, hy⟩)
  have hclo : ∀ q, Clo M G q → Clo M F q := fun q h => by
    rcases h with h | ⟨w, hw, e⟩
    · exact .inl h
    · obtain ⟨y, ys, e1, e2⟩ := cov_head (g1 w hw)
      exact .inr ⟨y, hmem w hw y (by rw [e1]; simp), e2.trans e⟩
  have hin : ∀ x ∈ H, ∀ z ∈ d x, z ∈ G := fun x hx z hz => d2.mem_iff.2 (List.mem_flatMap.2 ⟨x, hx, hz⟩)
  have hnot : ∀ z ∈ G, ∀ y ∈ (g z).tail, ¬ Clo M G (M y.a) := fun z hz y hy h => by
    have hyz := List.mem_of_mem_tail hy
    rcases h with h | ⟨w, hw, e⟩
    · exact h0 y (hmem z hz y hyz) h
    · obtain ⟨y', ys, e1, e2⟩ := cov_head (g1 w hw)
      by_cases hzw : z = w
      · subst hzw
        have := hgn.sublist ((flat_sublist g G z hz).map fun y => M y.a)
        rw [e1] at this hy
        rw [List.map_cons, List.nodup_cons] at this
        exact this.1 (List.mem_map.2 ⟨y, hy, by rw [e2, e]⟩)
      · exact flat_apart g (fun y => M y.a) G hgn z hz w hw hzw y hyz y' (by rw [e1]; simp) (by rw [e2, e])
  have comp : ∀ (q : Int) (ds : List Atm) (p : Int), SegM M G q p ds → (∀ z ∈ ds, z ∈ G) → SegM M F q p (ds.flatMap g) := by
    intro q ds
    induction ds with
    | nil => intro p h; exact absurd h id
    | cons z ds ih =>
      intro p h hD
      have hz := hD z List.mem_cons_self
      have hs := cov_seg (g1 z hz)
      rw [List.flatMap_cons]
      obtain ⟨rfl, h⟩ := h
      rcases h with ⟨rfl, e⟩ | ⟨-, hb, hc, hr⟩
      · rw [List.flatMap_nil, List.append_nil, ← e]; exact hs
      · have hkind : ∀ y ∈ g z, (g z).tail ≠ [] ∨ y.kind = 2 → Clo M G q := fun y hy hor => by
          have hcov := g1 z hz
          unfold CovM at hcov
          by_cases hk : z.kind = 1
          · rw [if_pos hk] at hcov
            obtain ⟨y', e1, e2⟩ := hcov
            rw [e1] at hor hy
            rcases hor with h | h
            · exact absurd rfl h
            · rw [List.mem_singleton.1 hy] at h
              rw [(cls_inj e2).1, hk] at h
              exact absurd h (by decide)
          · exact hc ((hG z hz).resolve_left hk)
        refine seg_append (g z) _ _ hs (fun y hy e => ?_) (fun y hy hk => hclo _ (hkind y hy (.inr hk))) (ih _ hr fun w hw => hD w (List.mem_cons_of_mem _ hw))
        rcases seg_ends _ _ hs y hy with e2 | ⟨y', hy', e2⟩
        · exact hb (e2.symm.trans e)
        · have := hkind y hy (.inl fun h => by rw [h] at hy'; cases hy')
          rw [← e, ← e2] at this
          exact hnot z hz y' hy' this
  refine ⟨fun x => (d x).flatMap g, fun x hx => ?_, ?_⟩
  · have hd := d1 x hx
    unfold CovM at hd ⊢
    by_cases hk : x.kind = 1
    · rw [if_pos hk] at hd ⊢
      obtain ⟨z, e1, e2⟩ := hd
      have hz := hin x hx z (by rw [e1]; simp)
      have hg := g1 z hz
      unfold CovM at hg
      rw [if_pos ((cls_inj e2).1.trans hk)] at hg
      obtain ⟨y, e3, e4⟩ := hg
      exact ⟨y, by show List.flatMap g (d x) = _; rw [e1]; simp [e3], e4.trans e2⟩
    · rw [if_neg hk] at hd ⊢
      exact comp _ _ _ hd (hin x hx)
  · refine g2.trans ?_
    have := d2.flatMap_right g
    rw [List.flatMap_assoc] at this
    exact this
end
end Go.Proofs.YtlmjjflalmegfaaGreat

/- A state in which a part holds satisfies the assertion; its case. Plain; no program. -/
namespace Go.Proofs.YtlmjjflalmegfaaGreat
open Go Go.RowKit

theorem walk_head (h : List Int) (n : Nat) {x to : Int} {cs : List Int} (hw : walkF h (n + 1) x to = some cs) (hne : x ≠ to) : x ∈ cs := by
  rw [walkF, if_neg hne] at hw
  split at hw
  · obtain ⟨ds, -, rfl⟩ := Option.map_eq_some_iff.1 hw
    exact List.mem_cons_self
  · cases hw
theorem head_cells {s : Ste} (hs : s.valid = true) {x : Atm} {cs : List Int} (hk : x.kind = 1 ∨ x.kind = 2) (h : atomCells s x = some cs) (hf : fillM (tval s.values) x = true) : tval s.values x.a ∈ cs := by
  unfold atomCells at h
  unfold fillM at hf
  split at h
  · rename_i h2
    have hne : tval s.values x.a ≠ tval s.values x.b := by
      intro e
      rw [decide_eq_false (by omega : ¬ x.kind = 1), decide_eq_true e] at hf
      cases hf
    exact walk_head _ 7 h hne
  · split at h
    · obtain rfl := Option.some.inj h
      exact List.mem_cons_self
    · cases h
theorem part_heads {s : Ste} (hs : s.valid = true) : ∀ (xs : List Atm) (seen out : List Int), (∀ x ∈ xs, x.kind = 1 ∨ x.kind = 2) → partAtoms s seen xs = some out → seen.Nodup →
    (∀ x ∈ xs, fillM (tval s.values) x = true → addrB (tval s.values x.a) = true ∧ tval s.values x.a ∉ seen) ∧ ((xs.filter (fillM (tval s.values))).map fun x => tval s.values x.a).Nodup := by
  intro xs
  induction xs with
  | nil => intro seen out _ _ _; exact ⟨fun x hx => (by cases hx), List.nodup_nil⟩
  | cons x xs ih =>
    intro seen out hk h hn
    simp only [partAtoms, Option.bind_eq_some_iff] at h
    obtain ⟨cs, h1, seen', h2, h3⟩ := h
    have hn' := addAll_spec _ _ _ h2 hn
    have e := addAll_mem _ _ _ h2
    obtain ⟨g1, g2⟩ := ih _ _ (fun y hy => hk y (List.mem_cons_of_mem _ hy)) h3 hn'
    have hx := fun hf => head_cells hs (hk x List.mem_cons_self) h1 hf
    have hfirst : fillM (tval s.values) x = true → addrB (tval s.values x.a) = true ∧ tval s.values x.a ∉ seen := fun hf => by
      refine ⟨((atomCells_addr hs h1).2 _ (hx hf)).1, fun hm => ?_⟩
      rw [e, List.nodup_append] at hn'
      exact hn'.2.2 _ hm _ (hx hf) rfl
    refine ⟨fun y hy hf => ?_, ?_⟩
    · rcases List.mem_cons.1 hy with rfl | hy
      · exact hfirst hf
      · have := g1 y hy hf
        exact ⟨this.1, fun hm => this.2 (by rw [e]; exact List.mem_append_left _ hm)⟩
    · cases hf : fillM (tval s.values) x
      · rw [List.filter_cons_of_neg (by simp [hf])]
        exact g2
      · rw [List.filter_cons_of_pos hf, List.map_cons, List.nodup_cons]
        refine ⟨fun hm => ?_, g2⟩
        obtain ⟨y, hy, ey⟩ := List.mem_map.1 hm
        rw [List.mem_filter] at hy
        have := (g1 y hy.1 hy.2).2
        rw [ey, e] at this
        exact this (List.mem_append_right _ (hx hf))
theorem part_sat {s : Ste} {a : Asn} {out : List Int} (h : partOf s a = some out) : Sat (tval s.values) a := by
  obtain ⟨h1, h2, h3, h4⟩ := partOf_some.1 h
  have hk : ∀ x ∈ a.atoms, x.kind = 1 ∨ x.kind = 2 := fun x hx => by
    have hv := h2
    simp only [Asn.valid, Bool.and_eq_true] at hv
    have := List.all_eq_true.1 hv.2.2 x hx
    simp [Atm.valid] at this
    exact this.1.1
  obtain ⟨g1, g2⟩ := part_heads h1 _ _ _ hk h4 List.nodup_nil
  refine ⟨fun f hf => ?_, fun x hx hfi e => ?_, g2⟩
  · simp only [factsHold, Bool.and_eq_true] at h3
    have := List.all_eq_true.1 h3.2 f hf
    unfold Fct.holds at this
    exact eq_of_beq this
  · have := (g1 x hx hfi).1
    have e0 : tval s.values 0 = 0 := rfl
    rw [e, e0] at this
    simp [addrB] at this
/-- the case of a state -/
def caseOfF (s : Ste) (a : Asn) : List Int := canon (tval s.values) (caseS a 0)
def caseOfL (s : Ste) (a : Asn) : List Int := if s.valid && a.valid then caseOfF s a else []
theorem case_of_law {s : Ste} {a : Asn} (h : holdsF s a = true) : s.valid = true ∧ a.valid = true ∧ caseOfF s a ∈ cases a (caseS a 0) ∧ consB a = true := by
  obtain ⟨out, h1, -⟩ := holds_iff.1 h
  have hv := partOf_some.1 h1
  have hs := part_sat h1
  exact ⟨hv.1, hv.2.1, sat_case hv.2.1 (caseS_zero a 0) (caseS_terms hv.2.1 0) hs, consB_iff.2 ⟨hv.2.1, _, hs⟩⟩
end Go.Proofs.YtlmjjflalmegfaaGreat

/- Entailment in a valuation: what it means, that it composes, and that it preserves truth. Plain; no program. -/
namespace Go.Proofs.YtlmjjflalmegfaaGreat
open Go Go.RowKit

/-- a entails b in the valuation M -/
def EntM (M : Int → Int) (a b : Asn) : Prop := (∀ f ∈ b.facts, decide (M f.a = M f.b) = f.eq) ∧ Cover M (a.atoms.filter (fillM M)) (b.atoms.filter (fillM M))
theorem entB_iff {a b : Asn} {c : List Int} (h0 : cl c 0 = 0) (hs : Sat (cl c) a) : entB a b c = true ↔ EntM (cl c) a b := by
  unfold entB EntM
  have e : ∀ xs : List Atm, filledL xs c = (xs.filter (fillM (cl c))).map (clsM (cl c)) := fun _ => rfl
  rw [Bool.and_eq_true, List.all_eq_true, e, e, match_iff h0 hs.apart]
  exact and_congr_left fun _ => forall_congr' fun f => forall_congr' fun _ => by unfold Fct.fits; exact beq_iff_eq
section
variable {M N : Int → Int} {T : Int → Prop} {F G : List Atm}
theorem Clo.same (h0 : T 0) (he : ∀ s t, T s → T t → (M s = M t ↔ N s = N t)) {q : Int} (hF : ∀ y ∈ F, T y.a ∧ T y.b) (hq : T q) (h : Clo M F (M q)) : Clo N F (N q) := by
  rcases h with h | ⟨y, hy, e⟩
  · exact .inl ((he _ _ hq h0).1 h)
  · exact .inr ⟨y, hy, (he _ _ (hF y hy).1 hq).1 e⟩
theorem SegM.same (h0 : T 0) (he : ∀ s t, T s → T t → (M s = M t ↔ N s = N t)) (hF : ∀ y ∈ F, T y.a ∧ T y.b) {q : Int} (hq : T q) : ∀ (cs : List Atm) (p : Int), T p → (∀ y ∈ cs, y ∈ F) → SegM M F (M q) (M p) cs → SegM N F (N q) (N p) cs
  | [], _, _, _, h => absurd h id
  | y :: cs, p, hp, hm, h => by
    have hy := hF y (hm y List.mem_cons_self)
    refine ⟨(he _ _ hy.1 hp).1 h.1, ?_⟩
    rcases h.2 with ⟨e, hb⟩ | ⟨hne, hb, hc, hs⟩
    · exact .inl ⟨e, (he _ _ hy.2 hq).1 hb⟩
    · exact .inr ⟨hne, fun e => hb ((he _ _ hy.2 hq).2 e), fun hk => (hc hk).same h0 he hF hq, SegM.same h0 he hF hq cs y.b hy.2 (fun z hz => hm z (List.mem_cons_of_mem _ hz)) hs⟩
theorem Cover.same (h0 : T 0) (he : ∀ s t, T s → T t → (M s = M t ↔ N s = N t)) (hF : ∀ y ∈ F, T y.a ∧ T y.b) (hG : ∀ y ∈ G, T y.a ∧ T y.b) (h : Cover M F G) : Cover N F G := by
  obtain ⟨g, h1, h2⟩ := h
  refine ⟨g, fun x hx => ?_, h2⟩
  have hm : ∀ y ∈ g x, y ∈ F := fun y hy => h2.mem_iff.2 (List.mem_flatMap.2 ⟨x, hx, hy⟩)
  have hc := h1 x hx
  unfold CovM at hc ⊢
  split
  · rename_i hk
    rw [if_pos hk] at hc
    obtain ⟨y, e, e2⟩ := hc
    have hy := hF y (hm y (by rw [e]; simp))
    obtain ⟨e3, e4, e5⟩ := cls_inj e2
    refine ⟨y, e, ?_⟩
    unfold clsM
    rw [e3, (he _ _ hy.1 (hG x hx).1).1 e4, (he _ _ hy.2 (hG x hx).2).1 e5]
  · rename_i hk
    rw [if_neg hk] at hc
    exact SegM.same h0 he hF (hG x hx).2 _ _ (hG x hx).1 hm hc
theorem fill_same (he : ∀ s t, T s → T t → (M s = M t ↔ N s = N t)) {xs : List Atm} (hx : ∀ y ∈ xs, T y.a ∧ T y.b) : xs.filter (fillM M) = xs.filter (fillM N) := by
  refine List.filter_congr fun y hy => ?_
  unfold fillM
  rw [decide_eq_decide.2 (he _ _ (hx y hy).1 (hx y hy).2)]
theorem EntM.same {a b : Asn} (h0 : T 0) (he : ∀ s t, T s → T t → (M s = M t ↔ N s = N t)) (ha : ∀ y ∈ a.atoms, T y.a ∧ T y.b) (hb : ∀ y ∈ b.atoms, T y.a ∧ T y.b) (hf : ∀ f ∈ b.facts, T f.a ∧ T f.b) (h : EntM M a b) : EntM N a b := by
  refine ⟨fun f hm => ?_, ?_⟩
  · rw [← h.1 f hm, decide_eq_decide]
    exact (he _ _ (hf f hm).1 (hf f hm).2).symm
  · rw [← fill_same he ha, ← fill_same he hb]
    exact h.2.same h0 he (fun y hy => ha y (List.mem_filter.1 hy).1) (fun y hy => hb y (List.mem_filter.1 hy).1)
end
theorem termsL_atm {a : Asn} {x : Atm} (hx : x ∈ a.atoms) : x.a ∈ termsL a ∧ x.b ∈ termsL a := by
  simp only [termsL, List.mem_append, List.mem_flatMap]
  exact ⟨.inr ⟨x, hx, by simp [atomT]⟩, .inr ⟨x, hx, by simp [atomT]⟩⟩
/-- a entails b in all cases exactly if it does in all valuations -/
theorem ent_all {a b : Asn} (ha : a.valid = true) (hb : b.valid = true) : (∀ c ∈ cases a (caseS a (tset (termsL b))), entB a b c = true) ↔ ∀ M, Sat M a → EntM M a b := by
  have h0 := caseS_zero a (tset (termsL b))
  constructor
  · intro h M hM
    have hc := sat_case ha h0 (caseS_terms ha _) hM
    have h1 := (entB_iff (case_zero h0 hc) (case_sat ha h0 hc)).1 (h _ hc)
    have hTa : ∀ t ∈ termsL a, (0 ≤ t ∧ t ≤ 8) ∧ (caseS a (tset (termsL b))).testBit t.toNat = true := fun t ht => ⟨isTermB_iff.1 (termsL_ok ha t ht), caseS_terms ha _ t ht⟩
    have hTb : ∀ t ∈ termsL b, (0 ≤ t ∧ t ≤ 8) ∧ (caseS a (tset (termsL b))).testBit t.toNat = true := fun t ht => by
      have h8 := isTermB_iff.1 (termsL_ok hb t ht)
      refine ⟨h8, ?_⟩
      have : (tset (termsL b)).testBit t.toNat = true := by
        rw [tset_bit, Int.toNat_of_nonneg h8.1]
        simp only [decide_eq_true_eq]
        exact ⟨termsL_ok hb t ht, ht⟩
      rw [caseS_bit, this]; simp
    exact h1.same (T := fun t => (0 ≤ t ∧ t ≤ 8) ∧ (caseS a (tset (termsL b))).testBit t.toNat = true) ⟨⟨by omega, by omega⟩, h0⟩ (fun s t hs ht => cl_canon_eq hs ht)
      (fun y hy => ⟨hTa _ (termsL_atm hy).1, hTa _ (termsL_atm hy).2⟩) (fun y hy => ⟨hTb _ (termsL_atm hy).1, hTb _ (termsL_atm hy).2⟩) (fun f hf => ⟨hTb _ (termsL_facts hf).1, hTb _ (termsL_facts hf).2⟩)
  · intro h c hc
    have hs := case_sat ha h0 hc
    exact (entB_iff (case_zero h0 hc) hs).2 (h _ hs)
theorem valid_kind {a : Asn} (h : a.valid = true) {x : Atm} (hx : x ∈ a.atoms) : x.kind = 1 ∨ x.kind = 2 := by
  simp only [Asn.valid, Bool.and_eq_true] at h
  have := List.all_eq_true.1 h.2.2 x hx
  simp [Atm.valid] at this
  exact this.1.1
section
variable {M : Int → Int} {a b c : Asn}
theorem EntM.sat (h : EntM M a b) (ha : Sat M a) : Sat M b := by
  refine ⟨h.1, fun x hx hf => ?_, h.2.starts ha.apart⟩
  obtain ⟨g, h1, h2⟩ := h.2
  have hx' : x ∈ b.atoms.filter (fillM M) := List.mem_filter.2 ⟨hx, hf⟩
  obtain ⟨y, ys, e1, e2⟩ := cov_head (h1 x hx')
  have hy : y ∈ a.atoms.filter (fillM M) := h2.mem_iff.2 (List.mem_flatMap.2 ⟨x, hx', by rw [e1]; simp⟩)
  rw [List.mem_filter] at hy
  rw [← e2]
  exact ha.nil y hy.1 hy.2
theorem EntM.trans (h1 : EntM M a b) (h2 : EntM M b c) (ha : Sat M a) (hb : b.valid = true) : EntM M a c :=
  ⟨h2.1, h1.2.trans h2.2 ha.apart (fun y hy => ha.nil y (List.mem_filter.1 hy).1 (List.mem_filter.1 hy).2) fun z hz => valid_kind hb (List.mem_filter.1 hz).1⟩
/-- atoms in another order, with other names of the same terms; fewer facts -/
theorem Cover.perm {F G : List Atm} (h : F.Perm G) : Cover M F G := by
  refine ⟨fun x => [x], fun x hx => ?_, by simpa using h⟩
  unfold CovM
  split
  · exact ⟨x, rfl, rfl⟩
  · exact ⟨rfl, .inl ⟨rfl, rfl⟩⟩
theorem EntM.refl (ha : Sat M a) : EntM M a a := ⟨ha.facts, Cover.perm (List.Perm.refl _)⟩
end

/-! truth in states -/
def cellsOf (s : Ste) (x : Atm) : List Int := (atomCells s x).getD []
theorem parts_iff {s : Ste} : ∀ (xs : List Atm) (seen out : List Int), seen.Nodup → (partAtoms s seen xs = some out ↔ (∀ x ∈ xs, atomCells s x = some (cellsOf s x)) ∧ out = seen ++ xs.flatMap (cellsOf s) ∧ out.Nodup)
  | [], seen, out, hn => by
    simp only [partAtoms, Option.some.injEq, List.not_mem_nil, false_implies, implies_true, List.flatMap_nil, List.append_nil, true_and]
    exact ⟨fun h => ⟨h.symm, h ▸ hn⟩, fun h => h.1.symm⟩
  | x :: xs, seen, out, hn => by
    simp only [partAtoms, Option.bind_eq_some_iff, List.forall_mem_cons, List.flatMap_cons]
    constructor
    · rintro ⟨cs, h1, seen', h2, h3⟩
      have e := addAll_mem _ _ _ h2
      have hn' := addAll_spec _ _ _ h2 hn
      obtain ⟨g1, g2, g3⟩ := (parts_iff xs seen' out hn').1 h3
      have hc : cellsOf s x = cs := by unfold cellsOf; rw [h1]; rfl
      exact ⟨⟨by rw [hc]; exact h1, g1⟩, by rw [g2, e, hc, List.append_assoc], g3⟩
    · rintro ⟨⟨h1, g1⟩, g2, g3⟩
      rw [g2, ← List.append_assoc] at g3
      have hn' : (seen ++ cellsOf s x).Nodup := (List.nodup_append.1 g3).1
      exact ⟨_, h1, _, addAll_some _ _ hn', (parts_iff xs _ out hn').2 ⟨g1, by rw [g2, List.append_assoc], by rw [g2, ← List.append_assoc]; exact g3⟩⟩
theorem walk_fuel {h : List Int} : ∀ (n : Nat) (x to : Int) (cs : List Int), walkF h n x to = some cs → cs.length ≤ n ∧ ∀ m, cs.length ≤ m → walkF h m x to = some cs
  | 0, x, to, cs, hw => by
    rw [walkF] at hw
    split at hw
    · rename_i e
      obtain rfl := Option.some.inj hw
      subst e
      exact ⟨Nat.le_refl _, fun m _ => walkF_here h m x⟩
    · cases hw
  | n + 1, x, to, cs, hw => by
    rw [walkF] at hw
    split at hw
    · rename_i e
      obtain rfl := Option.some.inj hw
      subst e
      exact ⟨by simp, fun m _ => walkF_here h m x⟩
    · rename_i hne
      split at hw
      · rename_i ha
        obtain ⟨ds, hd, rfl⟩ := Option.map_eq_some_iff.1 hw
        obtain ⟨g1, g2⟩ := walk_fuel n _ _ _ hd
        refine ⟨by simpa using g1, fun m hm => ?_⟩
        obtain ⟨m, rfl⟩ : ∃ k, m = k + 1 := ⟨m - 1, by simp at hm; omega⟩
        rw [walkF, if_neg hne, if_pos ha, g2 m (by simpa using hm)]; rfl
      · cases hw
theorem walk_append {h : List Int} {r q : Int} {ds : List Int} {m : Nat} (h2 : walkF h m r q = some ds) : ∀ (n : Nat) (p : Int) (cs : List Int), walkF h n p r = some cs → q ∉ cs → walkF h (n + m) p q = some (cs ++ ds)
  | 0, p, cs, h1, hq => by
    rw [walkF] at h1
    split at h1
    · rename_i e
      obtain rfl := Option.some.inj h1
      rw [e, Nat.zero_add]; exact h2
    · cases h1
  | n + 1, p, cs, h1, hq => by
    rw [walkF] at h1
    split at h1
    · rename_i e
      obtain rfl := Option.some.inj h1
      rw [e]
      have := walk_fuel _ _ _ _ h2
      exact this.2 _ (by omega)
    · split at h1
      · rename_i ha
        obtain ⟨es, he, rfl⟩ := Option.map_eq_some_iff.1 h1
        rw [show n + 1 + m = (n + m) + 1 by omega, walkF, if_neg (fun e => hq (by rw [← e]; exact List.mem_cons_self)), if_pos ha, walk_append h2 n _ es he fun hm => hq (List.mem_cons_of_mem _ hm)]
        rfl
      · cases h1
theorem unfilled {s : Ste} {x : Atm} (hk : x.kind = 1 ∨ x.kind = 2) (hf : fillM (tval s.values) x = false) : atomCells s x = some [] := by
  unfold fillM at hf
  rw [Bool.or_eq_false_iff] at hf
  have h1 : x.kind = 2 := hk.resolve_left (of_decide_eq_false hf.1)
  have h2 : tval s.values x.a = tval s.values x.b := by simpa using hf.2
  unfold atomCells
  rw [if_pos h1, h2, walkF_here]
theorem flat_fill {s : Ste} : ∀ (xs : List Atm), (∀ x ∈ xs, x.kind = 1 ∨ x.kind = 2) → xs.flatMap (cellsOf s) = (xs.filter (fillM (tval s.values))).flatMap (cellsOf s)
  | [], _ => rfl
  | x :: xs, h => by
    have ih := flat_fill (s := s) xs fun y hy => h y (List.mem_cons_of_mem _ hy)
    rw [List.flatMap_cons, ih]
    cases hf : fillM (tval s.values) x
    · rw [List.filter_cons_of_neg (by simp [hf])]
      have : cellsOf s x = [] := by unfold cellsOf; rw [unfilled (h x List.mem_cons_self) hf]; rfl
      rw [this]; rfl
    · rw [List.filter_cons_of_pos hf, List.flatMap_cons]
theorem addr_len {out : List Int} (hn : out.Nodup) (h : ∀ c ∈ out, addrB c = true) : out.length ≤ 8 := by
  have := nodup_le (m := [1, 2, 3, 4, 5, 6, 7, 8]) hn fun x hx => by
    have := h x hx
    simp only [addrB, decide_eq_true_eq] at this
    obtain h | h | h | h | h | h | h | h : x = 1 ∨ x = 2 ∨ x = 3 ∨ x = 4 ∨ x = 5 ∨ x = 6 ∨ x = 7 ∨ x = 8 := by omega
    all_goals simp [h]
  simpa using this
/-- a chain of atoms is one walk -/
theorem seg_walk {s : Ste} (hs : s.valid = true) {F : List Atm} (hc : ∀ y ∈ F, atomCells s y = some (cellsOf s y)) (hn : (F.flatMap (cellsOf s)).Nodup) (hk : ∀ y ∈ F, y.kind = 1 ∨ y.kind = 2) (hfl : ∀ y ∈ F, fillM (tval s.values) y = true) {q : Int} :
    ∀ (cs : List Atm) (p : Int), SegM (tval s.values) F q p cs → p ≠ q → (∀ y ∈ cs, y ∈ F) → ∃ n, walkF s.heap n p q = some (cs.flatMap (cellsOf s))
  | [], _, h, _, _ => absurd h id
  | y :: cs, p, h, hne, hm => by
    have hy := hm y List.mem_cons_self
    have hcy := hc y hy
    obtain ⟨rfl, h⟩ := h
    have hone : ∃ n, walkF s.heap n (tval s.values y.a) (tval s.values y.b) = some (cellsOf s y) ∨ (y.kind = 1 ∧ cellsOf s y = [tval s.values y.a] ∧ cont s.heap (tval s.values y.a) = tval s.values y.b) := by
      unfold atomCells at hcy
      split at hcy
      · exact ⟨8, .inl hcy⟩
      · rename_i h2
        split at hcy
        · rename_i h3
          exact ⟨0, .inr ⟨(hk y hy).resolve_right h2, (Option.some.inj hcy).symm, h3⟩⟩
        · cases hcy
    have hal : ∀ c ∈ cellsOf s y, addrB c = true ∧ allocB s.heap c = true := (atomCells_addr hs hcy).2
    have hstep : ∀ (e : tval s.values y.b ≠ q ∨ tval s.values y.b = q) (ds : List Int) (m : Nat), walkF s.heap m (tval s.values y.b) q = some ds → (q ∉ cellsOf s y) → ∃ n, walkF s.heap n (tval s.values y.a) q = some (cellsOf s y ++ ds) := fun _ ds m hw hq => by
      obtain ⟨n, h1 | ⟨hk1, e1, e2⟩⟩ := hone
      · exact ⟨_, walk_append hw n _ _ h1 hq⟩
      · refine ⟨m + 1, ?_⟩
        have ha : allocB s.heap (tval s.values y.a) = true := (hal _ (by rw [e1]; simp)).2
        rw [walkF, if_neg hne, if_pos ha, e2, hw, e1]; rfl
    rcases h with ⟨rfl, e⟩ | ⟨-, hb, hclo, hr⟩
    · rw [List.flatMap_cons, List.flatMap_nil]
      obtain ⟨n, h1 | ⟨hk1, e1, e2⟩⟩ := hone
      · exact ⟨n, by rw [List.append_nil, ← e]; exact h1⟩
      · refine ⟨1, ?_⟩
        have ha : allocB s.heap (tval s.values y.a) = true := (hal _ (by rw [e1]; simp)).2
        rw [walkF, if_neg hne, if_pos ha, e2, e, walkF_here, e1]; rfl
    · obtain ⟨m, hw⟩ := seg_walk hs hc hn hk hfl cs _ hr hb fun z hz => hm z (List.mem_cons_of_mem _ hz)
      rw [List.flatMap_cons]
      refine hstep (.inl hb) _ m hw fun hq => ?_
      rcases hk y hy with hk1 | hk2
      · obtain ⟨n, h1 | ⟨-, e1, -⟩⟩ := hone
        · have : cellsOf s y = [tval s.values y.a] := by
            unfold atomCells at hcy
            rw [if_neg (by omega)] at hcy
            split at hcy
            · exact (Option.some.inj hcy).symm
            · cases hcy
          rw [this, List.mem_singleton] at hq
          exact hne hq.symm
        · rw [e1, List.mem_singleton] at hq
          exact hne hq.symm
      · rcases hclo hk2 with h | ⟨w, hw, e⟩
        · have := (hal q hq).1
          have e0 : tval s.values 0 = 0 := rfl
          rw [h, e0] at this
          simp [addrB] at this
        · by_cases hyw : y = w
          · exact hne (by rw [hyw]; exact e)
          · have hqw : q ∈ cellsOf s w := by rw [← e]; exact head_cells hs (hk w hw) (hc w hw) (hfl w hw)
            have hn' : ((F.flatMap (cellsOf s)).map fun x => x).Nodup := by simpa using hn
            exact flat_apart (cellsOf s) (fun x => x) F hn' y hy w hw hyw q hq q hqw rfl
theorem snd_part {s : Ste} {a b : Asn} {out : List Int} (h : partOf s a = some out) (he : EntM (tval s.values) a b) (hb : b.valid = true) : ∃ out', partOf s b = some out' ∧ out'.Perm out := by
  obtain ⟨h1, h2, h3, h4⟩ := partOf_some.1 h
  obtain ⟨g1, g2, g3⟩ := (parts_iff _ _ _ List.nodup_nil).1 h4
  rw [List.nil_append] at g2
  have hka : ∀ x ∈ a.atoms, x.kind = 1 ∨ x.kind = 2 := fun x hx => valid_kind h2 hx
  have hkb : ∀ x ∈ b.atoms, x.kind = 1 ∨ x.kind = 2 := fun x hx => valid_kind hb hx
  rw [flat_fill _ hka] at g2
  obtain ⟨hf, g, hg, hp⟩ := he
  have hFc : ∀ y ∈ a.atoms.filter (fillM (tval s.values)), atomCells s y = some (cellsOf s y) := fun y hy => g1 y (List.mem_filter.1 hy).1
  have hFk : ∀ y ∈ a.atoms.filter (fillM (tval s.values)), y.kind = 1 ∨ y.kind = 2 := fun y hy => hka y (List.mem_filter.1 hy).1
  have hFn : ((a.atoms.filter (fillM (tval s.values))).flatMap (cellsOf s)).Nodup := by rw [← g2]; exact g3
  have hadd : ∀ c ∈ out, addrB c = true := fun c hc => ((partOf_spec h).2 c hc).1
  have hfilled : ∀ x ∈ b.atoms.filter (fillM (tval s.values)), atomCells s x = some ((g x).flatMap (cellsOf s)) := fun x hx => by
    have hx' := List.mem_filter.1 hx
    have hsub : ∀ y ∈ g x, y ∈ a.atoms.filter (fillM (tval s.values)) := fun y hy => hp.mem_iff.2 (List.mem_flatMap.2 ⟨x, hx, hy⟩)
    have hc := hg x hx
    unfold CovM at hc
    split at hc
    · rename_i hk
      obtain ⟨y, e1, e2⟩ := hc
      obtain ⟨e3, e4, e5⟩ := cls_inj e2
      rw [e1]
      simp only [List.flatMap_cons, List.flatMap_nil, List.append_nil]
      rw [← hFc y (hsub y (by rw [e1]; simp))]
      unfold atomCells
      rw [e3, e4, e5]
    · rename_i hk
      have hk2 : x.kind = 2 := (hkb x hx'.1).resolve_left hk
      have hne : tval s.values x.a ≠ tval s.values x.b := fun e => by
        have := hx'.2
        unfold fillM at this
        rw [decide_eq_false hk, decide_eq_true e] at this
        cases this
      obtain ⟨n, hw⟩ := seg_walk h1 hFc hFn hFk (fun y hy => (List.mem_filter.1 hy).2) _ _ hc hne hsub
      unfold atomCells
      rw [if_pos hk2]
      refine (walk_fuel _ _ _ _ hw).2 8 ?_
      have hsl := flat_sublist (fun x => (g x).flatMap (cellsOf s)) _ x hx
      rw [← List.flatMap_assoc] at hsl
      have hpp := (hp.flatMap_right (cellsOf s))
      refine addr_len ((hpp.nodup_iff.1 hFn).sublist hsl) fun c hcm => hadd c ?_
      rw [g2]
      exact hpp.mem_iff.2 (hsl.subset hcm)
  have hall : ∀ x ∈ b.atoms, atomCells s x = some (cellsOf s x) := fun x hx => by
    unfold cellsOf
    cases hfx : fillM (tval s.values) x
    · rw [unfilled (hkb x hx) hfx]; rfl
    · rw [hfilled x (List.mem_filter.2 ⟨hx, hfx⟩)]; rfl
  have e : b.atoms.flatMap (cellsOf s) = ((b.atoms.filter (fillM (tval s.values))).flatMap g).flatMap (cellsOf s) := by
    rw [flat_fill _ hkb, List.flatMap_assoc]
    unfold List.flatMap
    congr 1
    refine List.map_congr_left fun x hx => ?_
    show cellsOf s x = (g x).flatMap (cellsOf s)
    unfold cellsOf
    rw [hfilled x hx]; rfl
  have hpp := (hp.flatMap_right (cellsOf s)).symm
  rw [← e, ← g2] at hpp
  refine ⟨b.atoms.flatMap (cellsOf s), partOf_some.2 ⟨h1, hb, ?_, (parts_iff _ _ _ List.nodup_nil).2 ⟨hall, by simp, hpp.nodup_iff.2 g3⟩⟩, hpp⟩
  simp only [factsHold, Bool.and_eq_true] at h3 ⊢
  refine ⟨⟨Asn.valid_facts hb, h3.1.2⟩, List.all_eq_true.2 fun f hm => ?_⟩
  unfold Fct.holds
  rw [beq_iff_eq]
  exact hf f hm
/-- what entails holds -/
theorem snd_holds {s : Ste} {a b : Asn} (h : holdsF s a = true) (he : EntM (tval s.values) a b) (hb : b.valid = true) : holdsF s b = true := by
  obtain ⟨out, h1, h2⟩ := holds_iff.1 h
  obtain ⟨out', h3, h4⟩ := snd_part h1 he hb
  exact holds_iff.2 ⟨out', h3, fun c hc => h4.mem_iff.2 (h2 c hc)⟩
end Go.Proofs.YtlmjjflalmegfaaGreat

/- The model of a case: values and heap; it holds and has that case. Plain; no program. -/
namespace Go.Proofs.YtlmjjflalmegfaaGreat
open Go Go.RowKit

theorem cont_set8 {h : List Int} (hl : h.length = 8) {m n : Int} (hm : addrB m = true) (hn : addrB n = true) (v : Int) : cont (h.set (m - 1).toNat v) n = if n = m then v else cont h n := by
  unfold cont
  rw [if_pos hn, if_pos hn]
  simp only [addrB, decide_eq_true_eq] at hm hn
  by_cases e : n = m
  · subst e
    rw [if_pos rfl, List.getElem?_set_self (by omega)]; rfl
  · rw [if_neg e, List.getElem?_set_ne (by omega)]
def heapS (vs : List Int) (h : List Int) (xs : List Atm) : List Int := xs.foldl (fun h x => h.set (tval vs x.a - 1).toNat (tval vs x.b)) h
def blank8 : List Int := List.replicate 8 (-1)
theorem heapS_spec {vs : List Int} : ∀ (xs : List Atm) (h : List Int), h.length = 8 → (xs.map fun x => tval vs x.a).Nodup → (∀ x ∈ xs, addrB (tval vs x.a) = true) →
    (heapS vs h xs).length = 8 ∧ (∀ x ∈ xs, cont (heapS vs h xs) (tval vs x.a) = tval vs x.b) ∧ (∀ n, addrB n = true → (∀ x ∈ xs, tval vs x.a ≠ n) → cont (heapS vs h xs) n = cont h n) := by
  intro xs
  induction xs with
  | nil => intro h hl _ _; exact ⟨hl, fun x hx => (by cases hx), fun _ _ _ => rfl⟩
  | cons x xs ih =>
    intro h hl hn ha
    rw [List.map_cons, List.nodup_cons] at hn
    have hax := ha x List.mem_cons_self
    obtain ⟨g1, g2, g3⟩ := ih (h.set (tval vs x.a - 1).toNat (tval vs x.b)) (by simpa using hl) hn.2 fun y hy => ha y (List.mem_cons_of_mem _ hy)
    refine ⟨g1, fun y hy => ?_, fun n hn2 hne => ?_⟩
    · rcases List.mem_cons.1 hy with rfl | hy
      · show cont (heapS vs (h.set _ _) xs) _ = _
        rw [g3 _ hax fun z hz e => hn.1 (List.mem_map.2 ⟨z, hz, e⟩), cont_set8 hl hax hax, if_pos rfl]
      · exact g2 y hy
    · show cont (heapS vs (h.set _ _) xs) _ = _
      rw [g3 n hn2 fun z hz => hne z (List.mem_cons_of_mem _ hz), cont_set8 hl hax hn2, if_neg (fun e => hne x List.mem_cons_self e.symm)]
theorem heapS_cells {vs : List Int} (hv : vs.all valB = true) : ∀ (xs : List Atm) (h : List Int), h.all cellB = true → (heapS vs h xs).all cellB = true := by
  intro xs
  induction xs with
  | nil => intro h hh; exact hh
  | cons x xs ih =>
    intro h hh
    refine ih _ (List.all_eq_true.2 fun y hy => ?_)
    rcases List.mem_or_eq_of_mem_set hy with hy | rfl
    · exact List.all_eq_true.1 hh y hy
    · have := tval_le hv x.b
      simp [cellB, valB]; omega
theorem cont_blank {n : Int} : cont blank8 n = -1 := by
  unfold cont
  split
  · rename_i h
    simp only [addrB, decide_eq_true_eq] at h
    unfold blank8
    rw [List.getElem?_replicate, if_pos (by omega)]; rfl
  · rfl
/-- the state of a valuation in which each filled atom has one cell -/
theorem one_cell {vs : List Int} (hl : vs.length = 8) (hv : vs.all valB = true) {a : Asn} (ha : a.valid = true) (hs : Sat (tval vs) a) :
    holdsF ⟨vs, heapS vs blank8 (a.atoms.filter (fillM (tval vs)))⟩ a = true := by
  have hk : ∀ x ∈ a.atoms, x.kind = 1 ∨ x.kind = 2 := fun x hx => by
    have hv := ha
    simp only [Asn.valid, Bool.and_eq_true] at hv
    have := List.all_eq_true.1 hv.2.2 x hx
    simp [Atm.valid] at this
    exact this.1.1
  have hadd : ∀ x ∈ a.atoms.filter (fillM (tval vs)), addrB (tval vs x.a) = true := fun x hx => by
    rw [List.mem_filter] at hx
    have h1 := hs.nil x hx.1 hx.2
    have h2 := tval_le hv x.a
    have e0 : tval vs 0 = 0 := rfl
    rw [e0] at h1
    simp only [addrB, decide_eq_true_eq]
    omega
  obtain ⟨g1, g2, g3⟩ := heapS_spec _ blank8 rfl hs.apart hadd
  generalize hh : heapS vs blank8 (a.atoms.filter (fillM (tval vs))) = h at g1 g2 g3
  have hcell : h.all cellB = true := by rw [← hh]; exact heapS_cells hv _ _ (by decide)
  have hstep : ∀ x ∈ a.atoms, atomCells ⟨vs, h⟩ x = some (if fillM (tval vs) x then [tval vs x.a] else []) := fun x hx => by
    cases hf : fillM (tval vs) x
    · rw [if_neg (by decide)]
      unfold fillM at hf
      rw [Bool.or_eq_false_iff] at hf
      have h1 : x.kind = 2 := by rcases hk x hx with h | h; · rw [decide_eq_true h] at hf; cases hf.1
                                 · exact h
      have h2 : tval vs x.a = tval vs x.b := by simpa using hf.2
      unfold atomCells
      rw [if_pos h1]
      show walkF h 8 (tval vs x.a) (tval vs x.b) = some []
      rw [h2, walkF_here]
    · rw [if_pos rfl]
      have hm := List.mem_filter.2 ⟨hx, hf⟩
      have hc := g2 x hm
      unfold atomCells
      split
      · rename_i h1
        show walkF h 8 (tval vs x.a) (tval vs x.b) = _
        have hne : tval vs x.a ≠ tval vs x.b := fun e => by
          unfold fillM at hf
          rw [decide_eq_false (by omega : ¬ x.kind = 1), decide_eq_true e] at hf
          cases hf
        rw [walkF_on h 7 hne (by unfold allocB; rw [hc]; exact decide_eq_true (tval_le hv x.b).1), hc, walkF_here]; rfl
      · first | exact if_pos hc | rfl
  have hpart : ∀ (xs : List Atm) (seen : List Int), (∀ x ∈ xs, x ∈ a.atoms) → (seen ++ (xs.filter (fillM (tval vs))).map fun x => tval vs x.a).Nodup → partAtoms ⟨vs, h⟩ seen xs = some (seen ++ (xs.filter (fillM (tval vs))).map fun x => tval vs x.a) := by
    intro xs
    induction xs with
    | nil => intro seen _ _; simp [partAtoms]
    | cons x xs ih =>
      intro seen hm hn
      unfold partAtoms
      rw [hstep x (hm x List.mem_cons_self)]
      cases hf : fillM (tval vs) x
      · rw [List.filter_cons_of_neg (by simp [hf])] at hn ⊢
        simp only [Bool.false_eq_true, if_false, Option.bind_some, addAll]
        exact ih seen (fun y hy => hm y (List.mem_cons_of_mem _ hy)) hn
      · rw [List.filter_cons_of_pos hf, List.map_cons] at hn ⊢
        have e : seen ++ tval vs x.a :: ((xs.filter (fillM (tval vs))).map fun x => tval vs x.a) = (seen ++ [tval vs x.a]) ++ ((xs.filter (fillM (tval vs))).map fun x => tval vs x.a) := by simp
        rw [e] at hn ⊢
        simp only [if_true, Option.bind_some]
        rw [addAll_some _ _ (List.nodup_append.1 hn).1, Option.bind_some]
        exact ih _ (fun y hy => hm y (List.mem_cons_of_mem _ hy)) hn
  have hpo : partOf ⟨vs, h⟩ a = some ((a.atoms.filter (fillM (tval vs))).map fun x => tval vs x.a) := by
    rw [partOf_some]
    refine ⟨?_, ha, ?_, ?_⟩
    · simp only [Ste.valid, Bool.and_eq_true, decide_eq_true_eq]
      exact ⟨⟨hl, g1⟩, hv, hcell⟩
    · simp only [factsHold, Bool.and_eq_true, decide_eq_true_eq]
      refine ⟨⟨Asn.valid_facts ha, hl⟩, List.all_eq_true.2 fun f hf => ?_⟩
      unfold Fct.holds
      rw [hs.facts f hf]
      cases f.eq <;> rfl
    · have := hpart a.atoms [] (fun _ h => h) (by simpa using hs.apart)
      simpa using this
  rw [holds_iff]
  refine ⟨_, hpo, fun n hn => ?_⟩
  have hca := cont_alloc hn
  rw [List.mem_map]
  refine Classical.byContradiction fun hno => ?_
  have := g3 n hca.1 fun x hx e => hno ⟨x, hx, e⟩
  rw [cont_blank] at this
  have h2 : 0 ≤ cont h n := hca.2
  omega

/-- equal valuations on the terms satisfy the same -/
theorem Sat.same {M N : Int → Int} {a : Asn} (h : Sat N a) (he : ∀ s t, (s = 0 ∨ s ∈ termsL a) → (t = 0 ∨ t ∈ termsL a) → (M s = M t ↔ N s = N t)) : Sat M a := by
  have hX : ∀ x ∈ a.atoms, x.a ∈ termsL a ∧ x.b ∈ termsL a := fun x hx => by
    simp only [termsL, List.mem_append, List.mem_flatMap]
    exact ⟨Or.inr ⟨x, hx, by simp [atomT]⟩, Or.inr ⟨x, hx, by simp [atomT]⟩⟩
  have hF : ∀ x ∈ a.facts, x.a ∈ termsL a ∧ x.b ∈ termsL a := fun x hx => by
    simp only [termsL, List.mem_append, List.mem_flatMap]
    exact ⟨Or.inl ⟨x, hx, by simp [factT]⟩, Or.inl ⟨x, hx, by simp [factT]⟩⟩
  have hfill : ∀ x ∈ a.atoms, fillM M x = fillM N x := fun x hx => by
    unfold fillM
    congr 2
    rw [decide_eq_decide]
    exact he _ _ (Or.inr (hX x hx).1) (Or.inr (hX x hx).2)
  refine ⟨fun f hf => ?_, fun x hx hf e => ?_, ?_⟩
  · rw [← h.facts f hf, decide_eq_decide]
    exact he _ _ (Or.inr (hF f hf).1) (Or.inr (hF f hf).2)
  · rw [hfill x hx] at hf
    exact h.nil x hx hf ((he _ _ (Or.inr (hX x hx).1) (Or.inl rfl)).1 e)
  · rw [List.filter_congr hfill]
    have h1 := h.apart
    unfold List.Nodup at h1 ⊢
    rw [List.pairwise_map] at h1 ⊢
    exact h1.imp_of_mem fun {x y} hx hy hne e => hne ((he _ _ (Or.inr (hX x (List.mem_filter.1 hx).1).1) (Or.inr (hX y (List.mem_filter.1 hy).1).1)).1 e)

theorem nodupN_le : ∀ {l m : List Nat}, l.Nodup → (∀ x ∈ l, x ∈ m) → l.length ≤ m.length := by
  intro l
  induction l with
  | nil => intro m _ _; simp
  | cons a l ih =>
    intro m hn hs
    rw [List.nodup_cons] at hn
    have hm := hs a List.mem_cons_self
    have := ih (m := m.erase a) hn.2 fun x hx => (List.mem_erase_of_ne (by rintro rfl; exact hn.1 hx)).2 (hs x (List.mem_cons_of_mem _ hx))
    rw [List.length_erase_of_mem hm] at this
    have hp := List.length_pos_of_mem hm
    rw [List.length_cons]; omega
/-- the number of the class k among the classes other than nil's -/
def rk (c : List Int) (k : Int) : Nat := ((List.range' 1 8).filter fun j : Nat => decide ((j : Int) ≤ k) && decide (cl c (j : Int) = j)).length
def mval (c : List Int) (t : Int) : Int := if 0 < cl c t then (rk c (cl c t) : Int) else 0
def modV (c : List Int) : List Int := (List.range' 1 8).map fun t : Nat => mval c (t : Int)
theorem rk_le (c : List Int) (k : Int) : rk c k ≤ 8 := by
  unfold rk
  exact Nat.le_trans (List.length_filter_le _ _) (by simp)
theorem mval_le (c : List Int) (t : Int) : 0 ≤ mval c t ∧ mval c t ≤ 8 := by
  unfold mval
  have := rk_le c (cl c t)
  split <;> omega
theorem rk_pos {c : List Int} {k : Int} (h1 : 1 ≤ k) (h8 : k ≤ 8) (hk : cl c k = k) : 1 ≤ rk c k := by
  obtain ⟨n, rfl⟩ := Int.eq_ofNat_of_zero_le (by omega : 0 ≤ k)
  unfold rk
  refine List.length_pos_of_mem (a := n) (List.mem_filter.2 ⟨List.mem_range'_1.2 (by omega), ?_⟩)
  simp [hk]
theorem rk_lt {c : List Int} {k k' : Int} (h1 : 0 ≤ k) (hlt : k < k') (h8 : k' ≤ 8) (hk : cl c k' = k') : rk c k < rk c k' := by
  obtain ⟨n, rfl⟩ := Int.eq_ofNat_of_zero_le h1
  obtain ⟨m, rfl⟩ := Int.eq_ofNat_of_zero_le (by omega : 0 ≤ k')
  unfold rk
  have hnd : (List.range' 1 8).Nodup := List.nodup_range'
  have hsub : ∀ j ∈ m :: (List.range' 1 8).filter (fun j : Nat => decide ((j : Int) ≤ n) && decide (cl c (j : Int) = j)), j ∈ (List.range' 1 8).filter (fun j : Nat => decide ((j : Int) ≤ m) && decide (cl c (j : Int) = j)) := fun j hj => by
    rcases List.mem_cons.1 hj with rfl | hj
    · exact List.mem_filter.2 ⟨List.mem_range'_1.2 (by omega), by simp [hk]⟩
    · rw [List.mem_filter] at hj ⊢
      refine ⟨hj.1, ?_⟩
      simp only [Bool.and_eq_true, decide_eq_true_eq] at hj ⊢
      exact ⟨by omega, hj.2.2⟩
  have hnd2 : (m :: (List.range' 1 8).filter (fun j : Nat => decide ((j : Int) ≤ n) && decide (cl c (j : Int) = j))).Nodup := by
    rw [List.nodup_cons]
    refine ⟨fun hm => ?_, hnd.filter _⟩
    rw [List.mem_filter] at hm
    simp only [Bool.and_eq_true, decide_eq_true_eq] at hm
    omega
  have := nodupN_le hnd2 hsub
  simpa [Nat.lt_iff_add_one_le] using this
theorem tval_mod {c : List Int} (h0 : cl c 0 = 0) {t : Int} (ht : 0 ≤ t) (h8 : t ≤ 8) : tval (modV c) t = mval c t := by
  unfold tval
  split
  · rename_i e; subst e; unfold mval; rw [h0]; rfl
  · rename_i e
    obtain ⟨n, rfl⟩ := Int.eq_ofNat_of_zero_le ht
    unfold modV
    rw [List.getElem?_map, List.getElem?_range' (by omega)]
    simp only [Option.map_some, Option.getD_some]
    congr 1
    omega
theorem modV_ok (c : List Int) : (modV c).length = 8 ∧ (modV c).all valB = true := by
  refine ⟨by simp [modV], List.all_eq_true.2 fun x hx => ?_⟩
  obtain ⟨t, -, rfl⟩ := List.mem_map.1 hx
  have := mval_le c t
  simp [valB]; omega
/-- classes as the loop's rounds have them -/
def Cls (S : Nat) (c : List Int) : Prop := ∀ j : Nat, j < 9 → (S.testBit j = true → (0 ≤ cl c j ∧ cl c j ≤ j) ∧ cl c (cl c j) = cl c j) ∧ (S.testBit j = false → cl c j = -1)
theorem Cls.zero {S : Nat} {c : List Int} (h : Cls S c) (h0 : S.testBit 0 = true) : cl c 0 = 0 := by
  have h1 := ((h 0 (by omega)).1 h0).1
  have e : ((0 : Nat) : Int) = 0 := rfl
  rw [e] at h1
  omega
theorem mval_eq {S : Nat} {c : List Int} (h : Cls S c) {i j : Nat} (hi : i < 9) (hj : j < 9) (bi : S.testBit i = true) (bj : S.testBit j = true) : mval c i = mval c j ↔ cl c i = cl c j := by
  have h1 := (h i hi).1 bi
  have h2 := (h j hj).1 bj
  constructor
  · intro e
    unfold mval at e
    by_cases p1 : 0 < cl c i
    · have q1 := rk_pos (c := c) (by omega) (by omega) h1.2
      rw [if_pos p1] at e
      by_cases p2 : 0 < cl c j
      · rw [if_pos p2] at e
        rcases Int.lt_trichotomy (cl c i) (cl c j) with h | h | h
        · have := rk_lt (c := c) h1.1.1 h (by omega) h2.2; omega
        · exact h
        · have := rk_lt (c := c) h2.1.1 h (by omega) h1.2; omega
      · rw [if_neg p2] at e; omega
    · rw [if_neg p1] at e
      by_cases p2 : 0 < cl c j
      · have q2 := rk_pos (c := c) (by omega) (by omega) h2.2
        rw [if_pos p2] at e; omega
      · omega
  · intro e; unfold mval; rw [e]
/-- the model of a case -/
def modS (a : Asn) (c : List Int) : Ste := ⟨modV c, heapS (modV c) blank8 (filledL a.atoms c)⟩
theorem heapS_map (vs : List Int) (f : Atm → Atm) : ∀ (xs : List Atm) (h : List Int), (∀ x ∈ xs, tval vs (f x).a = tval vs x.a ∧ tval vs (f x).b = tval vs x.b) → heapS vs h (xs.map f) = heapS vs h xs := by
  intro xs
  induction xs with
  | nil => intro h _; rfl
  | cons x xs ih =>
    intro h hx
    have h1 := hx x List.mem_cons_self
    show heapS vs (h.set (tval vs (f x).a - 1).toNat (tval vs (f x).b)) (xs.map f) = heapS vs (h.set (tval vs x.a - 1).toNat (tval vs x.b)) xs
    rw [h1.1, h1.2]
    exact ih _ fun y hy => hx y (List.mem_cons_of_mem _ hy)
theorem model_law {a : Asn} (hv : a.valid = true) {S : Nat} (h0 : S.testBit 0 = true) (hS : ∀ t ∈ termsL a, S.testBit t.toNat = true) {c : List Int} (hc : c ∈ cases a S) : Sat (tval (modV c)) a ∧ holdsF (modS a c) a = true ∧ canon (tval (modV c)) S = c := by
  obtain ⟨h9, hC, -⟩ := case_iff.1 hc
  have hC : Cls S c := hC
  have hz := hC.zero h0
  have hok := termsL_ok hv
  have hval : ∀ t : Int, (t = 0 ∨ t ∈ termsL a) → ∃ j : Nat, j < 9 ∧ S.testBit j = true ∧ t = j := fun t ht => by
    rcases ht with rfl | ht
    · exact ⟨0, by omega, h0, rfl⟩
    · have h1 := isTermB_iff.1 (hok t ht)
      exact ⟨t.toNat, by omega, hS t ht, (Int.toNat_of_nonneg h1.1).symm⟩
  have hM : ∀ i j : Nat, i < 9 → j < 9 → S.testBit i = true → S.testBit j = true → (tval (modV c) i = tval (modV c) j ↔ cl c i = cl c j) := fun i j hi hj bi bj => by
    rw [tval_mod hz (by omega) (by omega), tval_mod hz (by omega) (by omega)]
    exact mval_eq hC hi hj bi bj
  have hsat : Sat (tval (modV c)) a := (case_sat hv h0 hc).same fun s t hs ht => by
    obtain ⟨i, hi, bi, rfl⟩ := hval s hs
    obtain ⟨j, hj, bj, rfl⟩ := hval t ht
    exact hM i j hi hj bi bj
  have hcls : ∀ t ∈ termsL a, tval (modV c) (cl c t) = tval (modV c) t := fun t ht => by
    obtain ⟨j, hj, bj, rfl⟩ := hval t (Or.inr ht)
    have h1 := (hC j hj).1 bj
    rw [tval_mod hz (by omega) (by omega), tval_mod hz (by omega) (by omega)]
    unfold mval
    rw [h1.2]
  refine ⟨hsat, ?_, ?_⟩
  · have e : heapS (modV c) blank8 (filledL a.atoms c) = heapS (modV c) blank8 (a.atoms.filter (fillM (tval (modV c)))) := by
      unfold filledL
      have hfill : ∀ x ∈ a.atoms, Atm.fill c x = fillM (tval (modV c)) x := fun x hx => by
        have hX : x.a ∈ termsL a ∧ x.b ∈ termsL a := by
          simp only [termsL, List.mem_append, List.mem_flatMap]
          exact ⟨Or.inr ⟨x, hx, by simp [atomT]⟩, Or.inr ⟨x, hx, by simp [atomT]⟩⟩
        obtain ⟨i, hi, bi, ei⟩ := hval _ (Or.inr hX.1)
        obtain ⟨j, hj, bj, ej⟩ := hval _ (Or.inr hX.2)
        unfold Atm.fill fillM
        congr 2
        rw [decide_eq_decide, ei, ej]
        exact (hM i j hi hj bi bj).symm
      rw [List.filter_congr hfill]
      refine heapS_map _ _ _ _ fun x hx => ?_
      have hx := (List.mem_filter.1 hx).1
      have hX : x.a ∈ termsL a ∧ x.b ∈ termsL a := by
        simp only [termsL, List.mem_append, List.mem_flatMap]
        exact ⟨Or.inr ⟨x, hx, by simp [atomT]⟩, Or.inr ⟨x, hx, by simp [atomT]⟩⟩
      exact ⟨hcls _ hX.1, hcls _ hX.2⟩
    unfold modS
    rw [e]
    exact one_cell (modV_ok c).1 (modV_ok c).2 hv hsat
  · refine (canon_ext h9 fun j hj => ?_).symm
    unfold caseAt
    cases hb : S.testBit j
    · exact (hC j hj).2 hb
    · rw [if_pos rfl]
      have h1 := (hC j hj).1 hb
      obtain ⟨k, hk⟩ := Int.eq_ofNat_of_zero_le h1.1.1
      have hkb : S.testBit k = true := by
        cases e : S.testBit k
        · have h2 := (hC k (by omega)).2 e
          have h3 := h1.2
          rw [hk, h2] at h3
          omega
        · rfl
      rw [least_is (k := k) hkb hb ((hM k j (by omega) hj hkb hb).2 (by rw [← hk]; exact h1.2)) (fun i hi hib e => by
        have h2 := ((hC i (by omega)).1 hib).1.2
        have h3 := (hM i j (by omega) hj hib hb).1 e
        omega), hk]
/-- ModelOf: the model of the first case -/
def modelL (a : Asn) : Ste := modS a ((cases a (caseS a 0)).head?.getD zeros)
theorem modelL_law {a : Asn} (h : consB a = true) : a.valid = true ∧ holdsF (modelL a) a = true ∧ ∃ c cs, cases a (caseS a 0) = c :: cs ∧ caseOfF (modelL a) a = c := by
  have hv : a.valid = true := (consB_iff.1 h).1
  unfold consB at h
  unfold modelL
  cases hc : cases a (caseS a 0) with
  | nil => rw [hc, hv] at h; cases h
  | cons c cs =>
    obtain ⟨-, h1, h2⟩ := model_law hv (caseS_zero a 0) (caseS_terms hv 0) (c := c) (by rw [hc]; exact List.mem_cons_self)
    exact ⟨hv, h1, c, cs, rfl, h2⟩
end Go.Proofs.YtlmjjflalmegfaaGreat

/- The model of a case, step by step. Plain; no program. -/
namespace Go.Proofs.YtlmjjflalmegfaaGreat
open Go Go.RowKit

/-- values in the rounds below t -/
def modT (c : List Int) (t : Nat) : List Int := (List.range' 1 8).map fun j : Nat => if j < t then mval c (j : Int) else 0
theorem modT_len (c : List Int) (t : Nat) : (modT c t).length = 8 := by simp [modT]
theorem modT_start (c : List Int) : modT c 1 = List.replicate 8 0 := by
  unfold modT
  rw [List.map_congr_left (g := fun _ => 0) (fun j hj => by rw [List.mem_range'_1] at hj; rw [if_neg (by omega)])]
  rfl
theorem modT_end (c : List Int) : modT c 9 = modV c := by
  unfold modT modV
  exact List.map_congr_left fun j hj => by rw [List.mem_range'_1] at hj; rw [if_pos (by omega)]
theorem modT_get (c : List Int) {t k : Nat} (hk : k < 8) : (modT c t)[k]? = some (if k + 1 < t then mval c ((k + 1 : Nat) : Int) else 0) := by
  unfold modT
  rw [List.getElem?_map, List.getElem?_range' (by omega)]
  simp only [Option.map_some, Nat.one_mul]
  rw [Nat.add_comm 1 k]
theorem modT_cl (c : List Int) {t k : Nat} (hk : k < 8) : cl (modT c t) k = if k + 1 < t then mval c ((k + 1 : Nat) : Int) else 0 := by
  unfold cl; rw [Int.toNat_natCast, modT_get c hk]; rfl
theorem modT_set (c : List Int) {t : Nat} (h1 : 1 ≤ t) (h8 : t ≤ 8) : (modT c t).set (t - 1) (mval c (t : Int)) = modT c (t + 1) := by
  apply List.ext_getElem?
  intro j
  by_cases hj : j < 8
  · rw [modT_get c hj]
    by_cases e : j = t - 1
    · subst e
      rw [List.getElem?_set_self (by rw [modT_len]; omega), if_pos (by omega), show t - 1 + 1 = t from by omega]
    · rw [List.getElem?_set_ne (by omega), modT_get c hj]
      by_cases h : j + 1 < t
      · rw [if_pos h, if_pos (by omega)]
      · rw [if_neg h, if_neg (by omega)]
  · rw [List.getElem?_eq_none (by rw [List.length_set, modT_len]; omega), List.getElem?_eq_none (by rw [modT_len]; omega)]
theorem modT_keep (c : List Int) {t : Nat} (h1 : 1 ≤ t) (h8 : t ≤ 8) (hz : mval c (t : Int) = 0) : modT c (t + 1) = modT c t := by
  apply List.ext_getElem?
  intro j
  by_cases hj : j < 8
  · rw [modT_get c hj, modT_get c hj]
    by_cases e : j + 1 = t
    · rw [if_pos (by omega), if_neg (by omega), e, hz]
    · by_cases h : j + 1 < t
      · rw [if_pos h, if_pos (by omega)]
      · rw [if_neg h, if_neg (by omega)]
  · rw [List.getElem?_eq_none (by rw [modT_len]; omega), List.getElem?_eq_none (by rw [modT_len]; omega)]
theorem rk_zero (c : List Int) : rk c 0 = 0 := by
  unfold rk
  rw [List.length_eq_zero_iff, List.filter_eq_nil_iff]
  intro j hj
  rw [List.mem_range'_1] at hj
  rw [decide_eq_false (by omega : ¬ (j : Int) ≤ 0), Bool.false_and]
  decide
theorem rk_step (c : List Int) {t : Nat} (h1 : 1 ≤ t) (h8 : t ≤ 8) : rk c (t : Int) = rk c ((t : Int) - 1) + (if cl c (t : Int) = t then 1 else 0) := by
  unfold rk
  rw [← List.countP_eq_length_filter, ← List.countP_eq_length_filter]
  have e : (List.range' 1 8) = List.range' 1 (t - 1) ++ t :: List.range' (t + 1) (8 - t) := by
    have h2 : List.range' 1 8 = List.range' 1 (t - 1) ++ List.range' t (8 - t + 1) := by
      have := List.range'_append_1 (s := 1) (m := t - 1) (n := 8 - t + 1)
      rw [show 1 + (t - 1) = t from by omega, show t - 1 + (8 - t + 1) = 8 from by omega] at this
      exact this.symm
    rw [h2, List.range'_succ]
  rw [e, List.countP_append, List.countP_append, List.countP_cons, List.countP_cons]
  have f1 : ∀ (p q : Nat → Bool), (∀ j ∈ List.range' 1 (t - 1), p j = q j) → (List.range' 1 (t - 1)).countP p = (List.range' 1 (t - 1)).countP q := fun p q h => List.countP_congr fun j hj => by rw [h j hj]
  have f2 : ∀ (p : Nat → Bool), (∀ j ∈ List.range' (t + 1) (8 - t), p j = false) → (List.range' (t + 1) (8 - t)).countP p = 0 := fun p h => List.countP_eq_zero.2 fun j hj => by rw [h j hj]; decide
  rw [f1 (fun j : Nat => decide ((j : Int) ≤ (t : Int)) && decide (cl c (j : Int) = j)) (fun j : Nat => decide ((j : Int) ≤ (t : Int) - 1) && decide (cl c (j : Int) = j)) (fun j hj => by
    rw [List.mem_range'_1] at hj
    rw [decide_eq_true (by omega : (j : Int) ≤ (t : Int)), decide_eq_true (by omega : (j : Int) ≤ (t : Int) - 1)])]
  rw [f2 _ (fun j hj => by rw [List.mem_range'_1] at hj; rw [decide_eq_false (by omega : ¬ (j : Int) ≤ (t : Int))]; rfl)]
  rw [f2 _ (fun j hj => by rw [List.mem_range'_1] at hj; rw [decide_eq_false (by omega : ¬ (j : Int) ≤ (t : Int) - 1)]; rfl)]
  rw [decide_eq_true (by omega : (t : Int) ≤ (t : Int)), decide_eq_false (by omega : ¬ (t : Int) ≤ (t : Int) - 1)]
  by_cases h : cl c (t : Int) = t
  · rw [decide_eq_true h, if_pos h]; simp
  · rw [decide_eq_false h, if_neg h]; simp
/-- a round of the values: a new class, a term of an earlier class, a term without a class -/
theorem mval_root {c : List Int} {t : Nat} (h1 : 1 ≤ t) (h8 : t ≤ 8) (h : cl c (t : Int) = t) : mval c (t : Int) = (rk c ((t : Int) - 1) + 1 : Nat) ∧ rk c (t : Int) = rk c ((t : Int) - 1) + 1 := by
  have e := rk_step c h1 h8
  rw [if_pos h] at e
  unfold mval
  rw [h, if_pos (by omega), e]
  exact ⟨rfl, rfl⟩
theorem rk_same {c : List Int} {t : Nat} (h1 : 1 ≤ t) (h8 : t ≤ 8) (h : cl c (t : Int) ≠ t) : rk c (t : Int) = rk c ((t : Int) - 1) := by
  rw [rk_step c h1 h8, if_neg h]; rfl
theorem mval_old {c : List Int} {t r : Nat} (hr : cl c (t : Int) = r) (hi : cl c (r : Int) = r) : mval c (r : Int) = mval c (t : Int) := by
  unfold mval; rw [hr, hi]
theorem mval_none {c : List Int} {t : Nat} (h : cl c (t : Int) ≤ 0) : mval c (t : Int) = 0 := by unfold mval; rw [if_neg (by omega)]
/-- what the classes of a case are like -/
structure Csd (c : List Int) : Prop where
  len : c.length = 9
  zero : cl c 0 = 0
  le : ∀ j : Nat, j < 9 → -1 ≤ cl c j ∧ cl c j ≤ j
  idem : ∀ j : Nat, j < 9 → 0 ≤ cl c j → cl c (cl c j) = cl c j
theorem csd_of {a : Asn} {S : Nat} (h0 : S.testBit 0 = true) {c : List Int} (hc : c ∈ cases a S) : Csd c := by
  obtain ⟨h9, hC, -⟩ := case_iff.1 hc
  have hz := (show Cls S c from hC).zero h0
  refine ⟨h9, hz, fun j hj => ?_, fun j hj h => ?_⟩
  · cases hb : S.testBit j
    · have := (hC j hj).2 hb; omega
    · have := ((hC j hj).1 hb).1; omega
  · cases hb : S.testBit j
    · have := (hC j hj).2 hb; omega
    · exact ((hC j hj).1 hb).2
/-- the filled atoms of a case -/
theorem filled_ok {a : Asn} (hv : a.valid = true) {S : Nat} (h0 : S.testBit 0 = true) (hS : ∀ t ∈ termsL a, S.testBit t.toNat = true) {c : List Int} (hc : c ∈ cases a S) :
    ∀ x ∈ filledL a.atoms c, (0 ≤ x.a ∧ x.a ≤ 8) ∧ (0 ≤ x.b ∧ x.b ≤ 8) ∧ (1 ≤ tval (modV c) x.a ∧ tval (modV c) x.a ≤ 8) ∧ 0 ≤ tval (modV c) x.b ∧ tval (modV c) x.b ≤ 8 := by
  intro x hx
  obtain ⟨h9, hC, hfull⟩ := case_iff.1 hc
  have hC : Cls S c := hC
  have hz := hC.zero h0
  have hM := model_law hv h0 hS hc
  unfold filledL at hx
  obtain ⟨y, hy, rfl⟩ := List.mem_map.1 hx
  rw [List.mem_filter] at hy
  have hX : y.a ∈ termsL a ∧ y.b ∈ termsL a := by
    simp only [termsL, List.mem_append, List.mem_flatMap]
    exact ⟨Or.inr ⟨y, hy.1, by simp [atomT]⟩, Or.inr ⟨y, hy.1, by simp [atomT]⟩⟩
  have hcl : ∀ t ∈ termsL a, (0 ≤ cl c t ∧ cl c t ≤ 8) ∧ cl c (cl c t) = cl c t := fun t ht => by
    have h1 := isTermB_iff.1 (termsL_ok hv t ht)
    have h2 := (hC t.toNat (by omega)).1 (hS t ht)
    rw [Int.toNat_of_nonneg h1.1] at h2
    exact ⟨by omega, h2.2⟩
  have ha := hcl _ hX.1
  have hb := hcl _ hX.2
  have hva := tval_le (modV_ok c).2 (cl c y.a)
  have hvb := tval_le (modV_ok c).2 (cl c y.b)
  refine ⟨ha.1, hb.1, ⟨?_, hva.2⟩, hvb⟩
  show 1 ≤ tval (modV c) (cl c y.a)
  rw [tval_mod hz ha.1.1 ha.1.2]
  have hne : cl c y.a ≠ 0 := fun e => by
    have hs := case_sat hv h0 hc
    refine hs.nil y hy.1 ?_ (by rw [e, hz])
    exact hy.2
  unfold mval
  rw [ha.2, if_pos (by omega)]
  have := rk_pos (c := c) (k := cl c y.a) (by omega) ha.1.2 ha.2
  omega
theorem heapS_take (vs h : List Int) (xs : List Atm) {k : Nat} (hk : k < xs.length) : heapS vs h (xs.take (k + 1)) = (heapS vs h (xs.take k)).set (tval vs xs[k].a - 1).toNat (tval vs xs[k].b) := by
  unfold heapS
  rw [List.take_succ_eq_append_getElem hk, List.foldl_append]
  rfl
theorem heapS_len (vs : List Int) : ∀ (xs : List Atm) (h : List Int), (heapS vs h xs).length = h.length := by
  intro xs
  induction xs with
  | nil => intro h; rfl
  | cons x xs ih => intro h; show (heapS vs (h.set _ _) xs).length = _; rw [ih, List.length_set]
def blankTo (k : Nat) : List Int := List.replicate k (-1) ++ List.replicate (8 - k) 0
theorem blankTo_len {k : Nat} (h : k ≤ 8) : (blankTo k).length = 8 := by simp [blankTo]; omega
theorem blankTo_set {k : Nat} (h : k < 8) : (blankTo k).set k (-1) = blankTo (k + 1) := by
  unfold blankTo
  rw [List.set_append_right _ _ (by simp), List.length_replicate, Nat.sub_self, show 8 - k = (8 - (k + 1)) + 1 from by omega, List.replicate_succ, List.set_cons_zero, List.replicate_succ', List.append_assoc]
  rfl
end Go.Proofs.YtlmjjflalmegfaaGreat
