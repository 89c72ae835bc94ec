/- Exposing cells: impl.expose, impl.ExposeCell. -/
import Derived.Test.YtlmjjflalmegfaaGreatExpD
import Derived.Test.YtlmjjflalmegfaaGreatMDefS
import Derived.Test.YtlmjjflalmegfaaGreatSubst
set_option linter.unusedSimpArgs false
set_option linter.unusedVariables false
namespace Go.Proofs.YtlmjjflalmegfaaGreat
open Go Go.RowKit Go.Proofs
attribute [local go_sem ↓] Go.wp_at_zero Go.wp_at_succ

/-- what ExposeCell gives -/
def exposeR (a : Asn) (t : Int) (ks : List Int) : Option (List Asn) := if a.valid && isTermB t then exposeF 7 a t (tset ks) else none
theorem c_impl_expose : ∀ (n : Nat), n ≤ 7 → ∀ (a : Asn) (t : Int) (K : Nat), K < 512 → a.atoms.length < n → ExpC n a t K
  | 0, _, a, _, _, _, h => absurd h (Nat.not_lt_zero _)
  | n + 1, hn, a, t, K, hK, h => fun lo hi v w h1 h2 hv =>
    c_expose_step n a t K (fun i x _ _ hx hk himp => by
      have hi := (List.getElem?_eq_some_iff.1 hx).1
      have hwl := withoutL_len hi
      refine c_exposeListAt n a x i t K hv hx hK (by omega) (c_impl_expose n (by omega) _ t K hK (by simp only [emptyX]; omega)) fun m => ?_
      obtain ⟨n', rfl⟩ : ∃ n', n = n' + 1 := ⟨n - 1, by omega⟩
      intro lo hi v w g1 g2 gv
      exact c_expose_step n' _ t K (fun i' x' hf _ _ _ _ => by rw [full_find hx hk gv himp] at hf; cases hf) lo hi v w g1 g2 gv) lo hi v w h1 h2 hv
--@ impl.ExposeCell
end Go.Proofs.YtlmjjflalmegfaaGreat

/- Exposing cells: spec.l6Without, functional. -/
namespace Go.Proofs.YtlmjjflalmegfaaGreat
open Go Go.RowKit Go.Proofs
attribute [local go_sem ↓] Go.wp_at_zero Go.wp_at_succ

/-- the first atoms of a list without those with two indices -/
def wo (xs : List Atm) (i k : Int) : Nat → List Atm
  | 0 => []
  | j + 1 => if (j : Int) = i ∨ (j : Int) = k then wo xs i k j else wo xs i k j ++ (xs[j]?).toList
theorem wo_skip {xs : List Atm} {i k : Int} {j : Nat} (h : (j : Int) = i ∨ (j : Int) = k) : wo xs i k (j + 1) = wo xs i k j := by rw [wo, if_pos h]
theorem wo_take {xs : List Atm} {i k : Int} {j : Nat} (hj : j < xs.length) (h1 : ¬ (j : Int) = i) (h2 : ¬ (j : Int) = k) : wo xs i k (j + 1) = wo xs i k j ++ [xs[j]] := by
  rw [wo, if_neg (by omega), List.getElem?_eq_getElem hj]; rfl
theorem wo_one {xs : List Atm} {i : Nat} (hi : i < xs.length) : wo xs i i xs.length = withoutL xs i := by
  have key : ∀ j, j ≤ xs.length → wo xs i i j = if j ≤ i then xs.take j else xs.take i ++ (xs.drop (i + 1)).take (j - (i + 1)) := by
    intro j
    induction j with
    | zero => intro _; simp [wo]
    | succ j ih =>
      intro hj
      have h := ih (by omega)
      by_cases e : j = i
      · subst e
        rw [wo_skip (Or.inl rfl), h, if_pos (Nat.le_refl _), if_neg (by omega)]
        simp
      · rw [wo_take (by omega) (by omega) (by omega), h]
        by_cases hlt : j ≤ i
        · rw [if_pos hlt, if_pos (by omega), List.take_succ_eq_append_getElem (by omega)]
        · rw [if_neg hlt, if_neg (by omega), List.append_assoc, show j + 1 - (i + 1) = (j - (i + 1)) + 1 by omega]
          rw [List.take_succ_eq_append_getElem (by rw [List.length_drop]; omega)]
          simp only [List.getElem_drop, show i + 1 + (j - (i + 1)) = j by omega]
  rw [key _ (Nat.le_refl _), if_neg (by omega)]
  unfold withoutL
  congr 1
  exact List.take_of_length_le (by rw [List.length_drop]; omega)
--@ spec.l6Without
theorem wp_appFL2 {o : Oper} {a : Act} {K : Act → World → Prop} {Q : Exit → Act → World → Prop} {w : World} {base lo hi c : Nat} {v : Value} {A : Option Addr} (s x : Operand) (ho : o.op = .call { callee := .builtin .append, args := #[s, x], argTypes := #[23, 23] })
    {xs ys : List Fct} (hs : a.eval s = v) (hown : FactsO w base v xs) (hx : a.eval x = .slice A ys.length c) (hR : FactsV w lo hi A ys) (hn : xs.length + ys.length ≤ 1049600) (hb : base ≤ w.heap.size)
    (h : ∀ A' c' w', FactsO w' base (.slice A' (xs ++ ys).length c') (xs ++ ys) → w.grownBy w' v.ownBlock → Below base w w' → K (a.put o.dst (.slice A' (xs ++ ys).length c')) w') : Oper.wp Tryz.prog o a w K Q := by
  refine wp_appL s x 23 ho Tryz.underlying23 infoF rfl (by decide) (by decide) hs hown.1 hx hR.raw (encF_one _) hn hb ?_
  intro v' w' h1 h2 h3
  have hO : FactsO w' base v' (xs ++ ys) := ⟨by rw [List.length_append, show encF (xs ++ ys) = encF xs ++ encF ys from List.flatMap_append]; exact h1, by simp [Lim]; omega⟩
  obtain ⟨A', c', rfl, -⟩ := hO.reads
  exact h A' c' w' hO h2 h3
theorem AtomsO.oneN2 (w : World) (x : Atm) {base : Nat} (hb : base ≤ w.heap.size) : AtomsO (w.alloc (.cells #[.int .i64 x.kind, .int .i64 x.a, .int .i64 x.b] tA)) base (.slice (some ⟨w.heap.size, 0, none⟩) 1 1) [x] :=
  ⟨own_of_blk (Blk.new w _ _) hb rfl (by intro j hj; match j, hj with | 0, _ => rfl | 1, _ => rfl | 2, _ => rfl) (Nat.le_refl _) (by decide) rfl, by simp [Lim]⟩
set_option maxRecDepth 100000 in
set_option maxHeartbeats 3200000 in
theorem c_l6WithoutF {lo hi : Nat} (v : Value) (a : Asn) (i k : Int) (x : Atm) (w : World) (h : AsnV w lo hi v a) (hl1 : a.facts.length ≤ 1000) (hl2 : a.atoms.length ≤ 1000) :
    Calls Tryz.prog 179 #[v, .int .i64 i, .int .i64 k, .agg #[.int .i64 x.kind, .int .i64 x.a, .int .i64 x.b]] w fun e w' => ∃ r, e = .returned r ∧ AsnO w' w.heap.size r ⟨a.facts, [x] ++ wo a.atoms i k a.atoms.length⟩ ∧ Below w.heap.size w w' := by
  obtain ⟨A1, c1, A2, c2, rfl, h1, h2⟩ := h
  have H1 := Lib.hid h1
  have H2 := Lib.hid h2
  clear h1 h2
  go_enter Tryz.func179, Tryz.ntmps179
  have k0 : Blk (((w.alloc (.cells #[.slice A1 a.facts.length c1, .slice A2 a.atoms.length c2] tAs)).alloc (.cells #[.int .i64 x.kind, .int .i64 x.a, .int .i64 x.b] tA)).alloc (.cells #[.slice none 0 0, .slice none 0 0] tAs)) w.heap.size tAs #[.slice A1 a.facts.length c1, .slice A2 a.atoms.length c2] := blks
  have k1 : Blk (((w.alloc (.cells #[.slice A1 a.facts.length c1, .slice A2 a.atoms.length c2] tAs)).alloc (.cells #[.int .i64 x.kind, .int .i64 x.a, .int .i64 x.b] tA)).alloc (.cells #[.slice none 0 0, .slice none 0 0] tAs)) (w.heap.size + 1) tA #[.int .i64 x.kind, .int .i64 x.a, .int .i64 x.b] := blks
  have kr : Blk (((w.alloc (.cells #[.slice A1 a.facts.length c1, .slice A2 a.atoms.length c2] tAs)).alloc (.cells #[.int .i64 x.kind, .int .i64 x.a, .int .i64 x.b] tA)).alloc (.cells #[.slice none 0 0, .slice none 0 0] tAs)) (w.heap.size + 2) tAs #[.slice none 0 0, .slice none 0 0] := blks
  have hB : Below w.heap.size w (((w.alloc (.cells #[.slice A1 a.facts.length c1, .slice A2 a.atoms.length c2] tAs)).alloc (.cells #[.int .i64 x.kind, .int .i64 x.a, .int .i64 x.b] tA)).alloc (.cells #[.slice none 0 0, .slice none 0 0] tAs)) := bel
  go_wp2_with fail
  generalize (((w.alloc (.cells #[.slice A1 a.facts.length c1, .slice A2 a.atoms.length c2] tAs)).alloc (.cells #[.int .i64 x.kind, .int .i64 x.a, .int .i64 x.b] tA)).alloc (.cells #[.slice none 0 0, .slice none 0 0] tAs)) = W at k0 k1 kr hB ⊢
  refine wp_region_noPanic ?_
  refine wp_region_held_drew (S := (fun w' => (∀ i, w'.cell? ⟨w.heap.size, i, none⟩ = #[.slice A1 a.facts.length c1, .slice A2 a.atoms.length c2][i]?) ∧ (∀ i, w'.cell? ⟨w.heap.size + 1, i, none⟩ = #[.int .i64 x.kind, .int .i64 x.a, .int .i64 x.b][i]?))) (by kernel_rfl) (⟨k0.drew.cell, k1.drew.cell⟩) (fun hHeld => ?_)
  refine wpAnyH_take (i := 1) (v := ?_) rfl (by kernel_rfl) (by kernel_rfl) (by kernel_rfl) (fun _ _ _ h => h) (Or.inl ⟨by rfl, fun w hSw => ?_⟩) hHeld ?_
  rotate_left
  · ((try dsimp only at hSw); go_split_ands; go_simp; (try with_reducible rfl))
  try simp only [Act.put, List.getElem_toArray, List.getElem_cons_zero, List.getElem_cons_succ, List.setIfInBounds_toArray, List.set_cons_zero, List.set_cons_succ]
  refine wpAnyH_take (i := 2) (v := ?_) rfl (by kernel_rfl) (by kernel_rfl) (by kernel_rfl) (fun _ _ _ h => h) (Or.inl ⟨by rfl, fun w hSw => ?_⟩) hHeld ?_
  rotate_left
  · ((try dsimp only at hSw); go_split_ands; go_simp; (try with_reducible rfl))
  try simp only [Act.put, List.getElem_toArray, List.getElem_cons_zero, List.getElem_cons_succ, List.setIfInBounds_toArray, List.set_cons_zero, List.set_cons_succ]
  refine wpAnyH_take (i := 4) (v := ?_) rfl (by kernel_rfl) (by kernel_rfl) (by kernel_rfl) (fun _ _ _ h => h) (Or.inl ⟨by rfl, fun w hSw => ?_⟩) hHeld ?_
  rotate_left
  · ((try dsimp only at hSw); go_split_ands; go_simp; (try with_reducible rfl))
  try simp only [Act.put, List.getElem_toArray, List.getElem_cons_zero, List.getElem_cons_succ, List.setIfInBounds_toArray, List.set_cons_zero, List.set_cons_succ]
  refine wpAnyH_par [0, 3, 5, 6, 7] #[true, true, true, true, true, true, true, true, false] 5 (by kernel_rfl) hHeld
    (fun a0 D a1 w' => Hid (Below w.heap.size w w' ∧ Blk w' w.heap.size tAs #[.slice A1 a.facts.length c1, .slice A2 a.atoms.length c2] ∧ Blk w' (w.heap.size + 1) tA #[.int .i64 x.kind, .int .i64 x.a, .int .i64 x.b] ∧ Blk w' (w.heap.size + 2) tAs #[.slice none 0 0, .slice none 0 0]) ∧
      Hid ((dn D 3 = true → dn D 0 = true) ∧ (dn D 6 = true → dn D 3 = true ∧ dn D 5 = true)) ∧
      ∃ v11 v14 v16 v17 v9, a1 = ((((a0.put (some 11) v11).put (some 14) v14).put (some 16) v16).put (some 17) v17).put (some 9) v9 ∧
        Hid (dn D 0 = true → dn D 3 = false → (∃ g, v11 = .slice (some ⟨g, 0, none⟩) 0 0) ∧ FactsO w' w.heap.size v11 []) ∧
        Hid (dn D 3 = true → (∃ A c, v14 = .slice A a.facts.length c) ∧ FactsO w' w.heap.size v14 a.facts) ∧
        Hid (dn D 5 = true → (∃ g, v16 = .slice (some ⟨g, 0, none⟩) 1 1) ∧ AtomsO w' w.heap.size v16 [x]) ∧
        Hid (dn D 6 = true → v17 = .agg #[v14, v16]) ∧
        Hid (dn D 7 = true → ∃ g, v9 = .pointer (some ⟨g, 0, none⟩) ∧ w.heap.size + 2 < g ∧ Blk w' g tAs #[.slice none 0 0, .slice none 0 0])) ?start ?steps ?fin
  case start =>
    refine ⟨⟨hB.drew, k0.drew, k1.drew, kr.drew⟩, ⟨fun h => absurd h (by decide), fun h => absurd h (by decide)⟩, undef, undef, undef, undef, undef, rfl, fun h => absurd h (by decide), fun h => absurd h (by decide), fun h => absurd h (by decide), fun h => absurd h (by decide), fun h => absurd h (by decide)⟩
  case steps =>
    refine ParSteps.cons rfl (fun D a1 w' hu hd hI hS K' hK G hG => ?_) (ParSteps.cons rfl (fun D a1 w' hu hd hI hS K' hK G hG => ?_) (ParSteps.cons rfl (fun D a1 w' hu hd hI hS K' hK G hG => ?_) (ParSteps.cons rfl (fun D a1 w' hu hd hI hS K' hK G hG => ?_) (ParSteps.cons rfl (fun D a1 w' hu hd hI hS K' hK G hG => ?_) ParSteps.nil))))
    · -- the empty list for the facts
      obtain ⟨HW, HC, v11, v14, v16, v17, v9, ha, h0, h3, h5, h6, h7⟩ := hI
      rw [ha] at hG
      clear ha a1
      have u0 := dn_un hu
      have u3 : dn D 3 = false := by cases e : dn D 3; rfl; have := HC.out.1 e; rw [u0] at this; cases this
      have HU := Lib.hid u3
      have U6 : Hid (dn D 6 = false) := by show _ = _; cases e : dn D 6; rfl; have := (HC.out.2 e).1; rw [u3] at this; cases this
      clear u0 u3
      refine hG ?_
      clear hG hd
      try simp only [Act.put, List.setIfInBounds_toArray, List.set_cons_zero, List.set_cons_succ]
      go_simp
      have hB2 : Below w.heap.size w (w'.alloc (.cells #[] tF)) := HW.out.1.alloc HW.out.1.size _
      have hBw : Below w'.heap.size w' (w'.alloc (.cells #[] tF)) := bbox (Below.refl _ _) _
      refine hK.out _ _ ⟨(HW.out.2.1.alloc _).cell, (HW.out.2.2.1.alloc _).cell⟩ ⟨⟨hB2, HW.out.2.1.alloc _, HW.out.2.2.1.alloc _, HW.out.2.2.2.alloc _⟩, ⟨fun h => ?_, fun h => ?_⟩, .slice (some ⟨w'.heap.size, 0, none⟩) 0 0, v14, v16, v17, v9, rfl, ?_, ?_, ?_, ?_, ?_⟩
      · exact dn_self hu
      · rw [dn_ne (by decide)] at h; rw [U6.out] at h; cases h
      · exact fun _ _ => ⟨⟨_, rfl⟩, (FactsO.empty w').lower HW.out.1.size⟩
      · intro h; rw [dn_ne (by decide)] at h; rw [HU.out] at h; cases h
      · intro h; rw [dn_ne (by decide)] at h; exact ⟨(h5.out h).1, (h5.out h).2.below hBw⟩
      · intro h; rw [dn_ne (by decide)] at h; rw [U6.out] at h; cases h
      · intro h; rw [dn_ne (by decide)] at h; obtain ⟨g, e, hg, hk⟩ := h7.out h; exact ⟨g, e, hg, hk.alloc _⟩
    · -- the facts appended
      obtain ⟨HW, HC, v11, v14, v16, v17, v9, ha, h0, h3, h5, h6, h7⟩ := hI
      rw [ha] at hG
      clear ha a1
      have u3 := dn_un hu
      have t0 : dn D 0 = true := hd ⟨0, .data⟩ (by simp) (by decide)
      obtain ⟨⟨y, rfl⟩, o⟩ := h0.out t0 u3
      have HO := Lib.hid o
      have HU := Lib.hid (And.intro u3 t0)
      have U6 : Hid (dn D 6 = false) := by show _ = _; cases e : dn D 6; rfl; have := (HC.out.2 e).1; rw [u3] at this; cases this
      clear u3 t0 o h0 hd
      refine hG ?_
      clear hG
      try simp only [Act.put, List.setIfInBounds_toArray, List.set_cons_zero, List.set_cons_succ]
      rw [if_pos (by simp [Region.wanted])]
      refine wp_appFL2 (base := w.heap.size) (xs := []) (ys := a.facts) _ _ rfl rfl HO.out rfl (H1.out.below HW.out.1) (by simp; omega) HW.out.1.size ?_
      intro A' c' w2 o2 hg2 hB2
      simp only [List.nil_append] at o2 ⊢
      refine hK.out _ _ ⟨(Blk.grownO (hg := hg2) HW.out.2.1 HO.out.1 (by decide)).cell, (Blk.grownO (hg := hg2) HW.out.2.2.1 HO.out.1 (by decide)).cell⟩ ⟨⟨HW.out.1.trans hB2, Blk.grownO (hg := hg2) HW.out.2.1 HO.out.1 (by decide), Blk.grownO (hg := hg2) HW.out.2.2.1 HO.out.1 (by decide), Blk.grownO (hg := hg2) HW.out.2.2.2 HO.out.1 (by decide)⟩, ⟨fun h => ?_, fun h => ?_⟩, .slice (some ⟨y, 0, none⟩) 0 0, .slice A' a.facts.length c', v16, v17, v9, rfl, ?_, ?_, ?_, ?_, ?_⟩
      · rw [dn_ne (by decide)]; exact HU.out.2
      · rw [dn_ne (by decide)] at h; rw [U6.out] at h; cases h
      · intro _ h; rw [dn_self hu] at h; cases h
      · exact fun _ => ⟨⟨A', c', rfl⟩, o2⟩
      · intro h; rw [dn_ne (by decide)] at h; exact ⟨(h5.out h).1, AtomsO.grownF (h5.out h).2 HO.out hg2⟩
      · intro h; rw [dn_ne (by decide)] at h; rw [U6.out] at h; cases h
      · intro h; rw [dn_ne (by decide)] at h; obtain ⟨g, e, hg, hk⟩ := h7.out h; exact ⟨g, e, hg, Blk.grownO (hg := hg2) hk HO.out.1 (by decide)⟩
    · -- the list of the one atom
      obtain ⟨HW, HC, v11, v14, v16, v17, v9, ha, h0, h3, h5, h6, h7⟩ := hI
      rw [ha] at hG
      clear ha a1
      have u5 := dn_un hu
      have U6 : Hid (dn D 6 = false) := by show _ = _; cases e : dn D 6; rfl; have := (HC.out.2 e).2; rw [u5] at this; cases this
      clear u5
      refine hG ?_
      clear hG hd
      try simp only [Act.put, List.setIfInBounds_toArray, List.set_cons_zero, List.set_cons_succ]
      go_simp
      have hB2 : Below w.heap.size w (w'.alloc (.cells #[.int .i64 x.kind, .int .i64 x.a, .int .i64 x.b] tA)) := HW.out.1.alloc HW.out.1.size _
      have hBw : Below w'.heap.size w' (w'.alloc (.cells #[.int .i64 x.kind, .int .i64 x.a, .int .i64 x.b] tA)) := bbox (Below.refl _ _) _
      refine hK.out _ _ ⟨(HW.out.2.1.alloc _).cell, (HW.out.2.2.1.alloc _).cell⟩ ⟨⟨hB2, HW.out.2.1.alloc _, HW.out.2.2.1.alloc _, HW.out.2.2.2.alloc _⟩, ⟨fun h => ?_, fun h => ?_⟩, v11, v14, .slice (some ⟨w'.heap.size, 0, none⟩) 1 1, v17, v9, rfl, ?_, ?_, ?_, ?_, ?_⟩
      · rw [dn_ne (by decide)] at h ⊢; exact HC.out.1 h
      · rw [dn_ne (by decide)] at h; rw [U6.out] at h; cases h
      · intro h h'; rw [dn_ne (by decide)] at h h'; exact ⟨(h0.out h h').1, (h0.out h h').2.below hBw⟩
      · intro h; rw [dn_ne (by decide)] at h; exact ⟨(h3.out h).1, (h3.out h).2.below hBw⟩
      · exact fun _ => ⟨⟨_, rfl⟩, AtomsO.oneN2 w' x HW.out.1.size⟩
      · intro h; rw [dn_ne (by decide)] at h; rw [U6.out] at h; cases h
      · intro h; rw [dn_ne (by decide)] at h; obtain ⟨g, e, hg, hk⟩ := h7.out h; exact ⟨g, e, hg, hk.alloc _⟩
    · -- the value
      obtain ⟨HW, HC, v11, v14, v16, v17, v9, ha, h0, h3, h5, h6, h7⟩ := hI
      rw [ha] at hG
      clear ha a1
      have t3 : dn D 3 = true := hd ⟨3, .data⟩ (by simp) (by decide)
      have t5 : dn D 5 = true := hd ⟨5, .data⟩ (by simp) (by decide)
      have HT2 := Lib.hid (And.intro t3 t5)
      obtain ⟨⟨A, c, rfl⟩, o3⟩ := h3.out t3
      obtain ⟨⟨y, rfl⟩, o5⟩ := h5.out t5
      have HO3 := Lib.hid o3
      have HO5 := Lib.hid o5
      clear t3 t5 hd o3 o5 h3 h5
      refine hG ?_
      clear hG
      try simp only [Act.put, List.setIfInBounds_toArray, List.set_cons_zero, List.set_cons_succ]
      go_simp
      refine hK.out _ _ hS ⟨HW.out, ⟨fun h => ?_, fun h => ?_⟩, v11, .slice A a.facts.length c, .slice (some ⟨y, 0, none⟩) 1 1, .agg #[.slice A a.facts.length c, .slice (some ⟨y, 0, none⟩) 1 1], v9, rfl, ?_, ?_, ?_, ?_, ?_⟩
      · rw [dn_ne (by decide)] at h ⊢; exact HC.out.1 h
      · rw [dn_ne (by decide), dn_ne (by decide)]; exact HT2.out
      · intro h h'; rw [dn_ne (by decide)] at h h'; exact h0.out h h'
      · exact fun _ => ⟨⟨_, _, rfl⟩, HO3.out⟩
      · exact fun _ => ⟨⟨_, rfl⟩, HO5.out⟩
      · exact fun _ => rfl
      · intro h; rw [dn_ne (by decide)] at h; exact h7.out h
    · -- the variable
      obtain ⟨HW, HC, v11, v14, v16, v17, v9, ha, h0, h3, h5, h6, h7⟩ := hI
      rw [ha] at hG
      clear ha a1
      refine hG ?_
      clear hG hd
      try simp only [Act.put, List.setIfInBounds_toArray, List.set_cons_zero, List.set_cons_succ]
      go_simp
      have hB2 : Below w.heap.size w (w'.alloc (.cells #[.slice none 0 0, .slice none 0 0] tAs)) := HW.out.1.alloc HW.out.1.size _
      have hBw : Below w'.heap.size w' (w'.alloc (.cells #[.slice none 0 0, .slice none 0 0] tAs)) := bbox (Below.refl _ _) _
      have hlt := HW.out.2.2.2.lt
      refine hK.out _ _ ⟨(HW.out.2.1.alloc _).cell, (HW.out.2.2.1.alloc _).cell⟩ ⟨⟨hB2, HW.out.2.1.alloc _, HW.out.2.2.1.alloc _, HW.out.2.2.2.alloc _⟩, ⟨fun h => ?_, fun h => ?_⟩, v11, v14, v16, v17, .pointer (some ⟨w'.heap.size, 0, none⟩), rfl, ?_, ?_, ?_, ?_, ?_⟩
      · rw [dn_ne (by decide)] at h ⊢; exact HC.out.1 h
      · rw [dn_ne (by decide)] at h; rw [dn_ne (by decide), dn_ne (by decide)]; exact HC.out.2 h
      · intro h h'; rw [dn_ne (by decide)] at h h'; exact ⟨(h0.out h h').1, (h0.out h h').2.below hBw⟩
      · intro h; rw [dn_ne (by decide)] at h; exact ⟨(h3.out h).1, (h3.out h).2.below hBw⟩
      · intro h; rw [dn_ne (by decide)] at h; exact ⟨(h5.out h).1, (h5.out h).2.below hBw⟩
      · intro h; rw [dn_ne (by decide)] at h; exact h6.out h
      · exact fun _ => ⟨_, rfl, hlt, Blk.new _ _ _⟩
  case fin =>
    rintro a1 w4 hHeld ⟨HW, -, v11, v14, v16, v17, v9, rfl, -, h3, h5, h6, h7⟩
    obtain rfl := h6.out (by decide)
    obtain ⟨⟨A, c, rfl⟩, o3⟩ := h3.out (by decide)
    obtain ⟨⟨B, rfl⟩, o5⟩ := h5.out (by decide)
    obtain ⟨g, rfl, hg, kg⟩ := h7.out (by decide)
    have HO3 := Lib.hid o3
    have HO5 := Lib.hid o5
    have hBf := HW.out.1
    have k4 := HW.out.2.1
    have k14 := HW.out.2.2.1
    have kr4 := HW.out.2.2.2
    clear h3 h5 h6 h7 o3 o5 k0 k1 kr hB HW
    try simp only [Act.put, List.setIfInBounds_toArray, List.set_cons_zero, List.set_cons_succ]
    (replace qk4 := k4.cell; replace rk4 := k4.frozen; replace lk4 := k4.lt; replace qkr4 := kr4.cell; replace rkr4 := kr4.frozen; replace lkr4 := kr4.lt; replace qkg := kg.cell; replace rkg := kg.frozen; replace lkg := kg.lt)
    refine wpAnyH_ready (rs := [8]) (by kernel_rfl) (by simp) ?_
    refine AllReadyH.cons rfl (fun K hK => ?_) AllReadyH.nil
    try simp only [List.getElem_toArray, List.getElem_cons_zero, List.getElem_cons_succ]
    go_simp
    refine hK.out _ _ (⟨((k4.far (p := ⟨g, 0, none⟩) (by simp only; omega) _).far (p := ⟨g, 1, none⟩) (by simp only; omega) _).cell, ((k14.far (p := ⟨g, 0, none⟩) (by simp only; omega) _).far (p := ⟨g, 1, none⟩) (by simp only; omega) _).cell⟩) (fun hHeldN => ?_)
    clear hHeld hK K
    have hHeld := hHeldN
    clear hHeldN
    try simp only [Act.put, List.getElem_toArray, List.getElem_cons_zero, List.getElem_cons_succ, List.setIfInBounds_toArray, List.set_cons_zero, List.set_cons_succ]
    refine wpAnyH_done (by kernel_rfl) ?_ _
    refine NoPanic.normal ?_
    have kg2 : Blk ((w4.setCell ⟨g, 0, none⟩ (.slice A a.facts.length c)).setCell ⟨g, 1, none⟩ (.slice (some ⟨B, 0, none⟩) 1 1)) g tAs #[.slice A a.facts.length c, .slice (some ⟨B, 0, none⟩) 1 1] := by simpa using (kg.set_ 0 (.slice A a.facts.length c)).set_ 1 (.slice (some ⟨B, 0, none⟩) 1 1)
    have hB5 : Below w.heap.size w ((w4.setCell ⟨g, 0, none⟩ (.slice A a.facts.length c)).setCell ⟨g, 1, none⟩ (.slice (some ⟨B, 0, none⟩) 1 1)) := (hBf.setCell (p := ⟨g, 0, none⟩) (by simp only; omega) _).setCell (p := ⟨g, 1, none⟩) (by simp only; omega) _
    have k5 := (k4.far (p := ⟨g, 0, none⟩) (by simp only; omega) (.slice A a.facts.length c)).far (p := ⟨g, 1, none⟩) (by simp only; omega) (.slice (some ⟨B, 0, none⟩) 1 1)
    have kr5 := (kr4.far (p := ⟨g, 0, none⟩) (by simp only; omega) (.slice A a.facts.length c)).far (p := ⟨g, 1, none⟩) (by simp only; omega) (.slice (some ⟨B, 0, none⟩) 1 1)
    have HF5 := Lib.hid ((HO3.out.setT kg (by decide) 0 (.slice A a.facts.length c)).setT (kg.set_ 0 _) (by decide) 1 (.slice (some ⟨B, 0, none⟩) 1 1))
    have HA5 := Lib.hid ((HO5.out.setT kg (by decide) 0 (.slice A a.facts.length c)).setT (kg.set_ 0 _) (by decide) 1 (.slice (some ⟨B, 0, none⟩) 1 1))
    clear HO3 HO5 hBf k4 k14 kr4 kg qk4 rk4 lk4 qkr4 rkr4 lkr4 qkg rkg lkg
    generalize ((w4.setCell ⟨g, 0, none⟩ (.slice A a.facts.length c)).setCell ⟨g, 1, none⟩ (.slice (some ⟨B, 0, none⟩) 1 1)) = w5 at kg2 hB5 k5 kr5 HF5 HA5 ⊢
    have HB5 := Lib.hid hB5
    clear hB5
    go_wp2_with fail
    go_loopw [10] (fun n wr => ∃ (j : Nat) (xs : List Atm) (A3 : Option Addr) (c3 : Nat), j ≤ a.atoms.length ∧ n = .int .i64 j ∧ xs.length ≤ j + 1 ∧ Hid (xs = [x] ++ wo a.atoms i k j) ∧ Hid (FactsO wr w.heap.size (.slice A a.facts.length c) a.facts) ∧ Hid (AtomsO wr w.heap.size (.slice A3 xs.length c3) xs) ∧
      Blk wr w.heap.size tAs #[.slice A1 a.facts.length c1, .slice A2 a.atoms.length c2] ∧ Blk wr (w.heap.size + 2) tAs #[.slice none 0 0, .slice none 0 0] ∧ Blk wr g tAs #[.slice A a.facts.length c, .slice A3 xs.length c3] ∧ Hid (Below w.heap.size w wr)) (fun n _ => a.atoms.length - (intOf n).toNat)
    case atStart => exact ⟨0, [x], some ⟨B, 0, none⟩, 1, Nat.zero_le _, rfl, Nat.le_refl _, (by show _ = _; rfl), HF5.out, HA5.out, k5, kr5, kg2, HB5.out⟩
    case round =>
      clear k5 kr5 kg2 HF5 HA5 HB5
      obtain ⟨j, xs, A3, c3, hj, rfl, hxl, HXS, HF, HA, k0, kr, kg, HB⟩ := hrel
      (replace qk0 := k0.cell; replace rk0 := k0.frozen; replace lk0 := k0.lt; replace qkr := kr.cell; replace rkr := kr.frozen; replace lkr := kr.lt; replace qkg := kg.cell; replace rkg := kg.frozen; replace lkg := kg.lt)
      have hsz := HB.out.size
      by_cases hlt : j < a.atoms.length
      · have HX := Lib.hid (H2.out.below HB.out)
        obtain ⟨b, off, rfl, hbl⟩ := HX.out.blt hlt
        have hji : (j : Int) < (a.atoms.length : Int) := by omega
        by_cases e1 : (j : Int) = i
        · have HXN : Hid (xs = [x] ++ wo a.atoms i k (j + 1)) := Lib.hid (by rw [HXS.out, wo_skip (Or.inl e1)])
          have e1' : ((j : Int) != i) = false := by simpa using e1
          clear e1
          go_wp2_with fail
          go_round
          case rel => exact ⟨j + 1, xs, A3, c3, by omega, by go_num, by omega, HXN, HF, HA, k0, kr, kg, HB⟩
          case measure => simp [intOf]; omega
        · have e1' : ((j : Int) != i) = true := by simpa using e1
          have HE1 := Lib.hid e1
          clear e1
          by_cases e2 : (j : Int) = k
          · have HXN : Hid (xs = [x] ++ wo a.atoms i k (j + 1)) := Lib.hid (by rw [HXS.out, wo_skip (Or.inr e2)])
            have e2' : ((j : Int) != k) = false := by simpa using e2
            clear e2
            go_wp2_with fail
            go_round
            case rel => exact ⟨j + 1, xs, A3, c3, by omega, by go_num, by omega, HXN, HF, HA, k0, kr, kg, HB⟩
            case measure => simp [intOf]; omega
          · have HXN : Hid (xs ++ [a.atoms[j]] = [x] ++ wo a.atoms i k (j + 1)) := Lib.hid (by rw [HXS.out, wo_take hlt HE1.out e2, List.append_assoc])
            have e2' : ((j : Int) != k) = true := by simpa using e2
            clear e2
            go_wp2_with fail
            refine wp_region_noPanic ?_
            refine wp_region_last' (S := (fun w' => (∀ i, w'.cell? ⟨g, i, none⟩ = #[.slice A a.facts.length c, .slice A3 xs.length c3][i]?) ∧ (∀ i, w'.cell? ⟨w.heap.size, i, none⟩ = #[.slice A1 a.facts.length c1, .slice (some ⟨b, off, none⟩) a.atoms.length c2][i]?) ∧ w'.cell? ⟨b, off + j * 3, none⟩ = some (.int .i64 a.atoms[j].kind) ∧ w'.cell? ⟨b, off + j * 3 + 1, none⟩ = some (.int .i64 a.atoms[j].a) ∧ w'.cell? ⟨b, off + j * 3 + 2, none⟩ = some (.int .i64 a.atoms[j].b))) (by simp) (by kernel_rfl) (by kernel_rfl) (⟨Blk.cell blks, Blk.cell blks, (AtomsV.below HX.out bel).cl hlt⟩) (fun hHeld => ?_)
            simp only [List.dropLast, List.getLast, nopOf, List.cons_append, List.nil_append, List.length_cons, List.length_nil, Nat.zero_add, Nat.reduceAdd]
            refine wpAnyH_take (i := 0) (v := ?_) rfl (by kernel_rfl) (by kernel_rfl) (by kernel_rfl) (fun _ _ _ h => h) (Or.inl ⟨by rfl, fun w hSw => ?_⟩) hHeld ?_
            rotate_left
            · ((try dsimp only at hSw); go_split_ands; go_simp; (try with_reducible rfl))
            try simp only [Act.put, List.getElem_toArray, List.getElem_cons_zero, List.getElem_cons_succ, List.setIfInBounds_toArray, List.set_cons_zero, List.set_cons_succ]
            refine wpAnyH_take (i := 1) (v := ?_) rfl (by kernel_rfl) (by kernel_rfl) (by kernel_rfl) (fun _ _ _ h => h) (Or.inl ⟨by rfl, fun w hSw => ?_⟩) hHeld ?_
            rotate_left
            · ((try dsimp only at hSw); go_split_ands; go_simp; (try with_reducible rfl))
            try simp only [Act.put, List.getElem_toArray, List.getElem_cons_zero, List.getElem_cons_succ, List.setIfInBounds_toArray, List.set_cons_zero, List.set_cons_succ]
            refine wpAnyH_take (i := 2) (v := ?_) rfl (by kernel_rfl) (by kernel_rfl) (by kernel_rfl) (fun _ _ _ h => h) (Or.inl ⟨by rfl, fun w hSw => ?_⟩) hHeld ?_
            rotate_left
            · ((try dsimp only at hSw); go_split_ands; go_simp; (try with_reducible rfl))
            try simp only [Act.put, List.getElem_toArray, List.getElem_cons_zero, List.getElem_cons_succ, List.setIfInBounds_toArray, List.set_cons_zero, List.set_cons_succ]
            refine wpAnyH_take (i := 3) (v := ?_) rfl (by kernel_rfl) (by kernel_rfl) (by kernel_rfl) (fun _ _ _ h => h) (Or.inl ⟨by rfl, fun w hSw => ?_⟩) hHeld ?_
            rotate_left
            · ((try dsimp only at hSw); go_split_ands; go_simp; (try with_reducible rfl))
            try simp only [Act.put, List.getElem_toArray, List.getElem_cons_zero, List.getElem_cons_succ, List.setIfInBounds_toArray, List.set_cons_zero, List.set_cons_succ]
            refine wpAnyH_take (i := 4) (v := ?_) rfl (by kernel_rfl) (by kernel_rfl) (by kernel_rfl) (fun _ _ _ h => h) (Or.inl ⟨by rfl, fun w hSw => ?_⟩) hHeld ?_
            rotate_left
            · ((try dsimp only at hSw); go_split_ands; go_simp; (try with_reducible rfl))
            try simp only [Act.put, List.getElem_toArray, List.getElem_cons_zero, List.getElem_cons_succ, List.setIfInBounds_toArray, List.set_cons_zero, List.set_cons_succ]
            refine wpAnyH_take (i := 5) (v := ?_) rfl (by kernel_rfl) (by kernel_rfl) (by kernel_rfl) (fun _ _ _ h => h) (Or.inl ⟨by rfl, fun w hSw => ?_⟩) hHeld ?_
            rotate_left
            · ((try dsimp only at hSw); go_split_ands; go_simp; (try with_reducible rfl))
            try simp only [Act.put, List.getElem_toArray, List.getElem_cons_zero, List.getElem_cons_succ, List.setIfInBounds_toArray, List.set_cons_zero, List.set_cons_succ]
            refine wpAnyH_take (i := 6) (v := ?_) rfl (by kernel_rfl) (by kernel_rfl) (by kernel_rfl) (fun _ _ _ h => h) (Or.inl ⟨by rfl, fun w hSw => ?_⟩) hHeld ?_
            rotate_left
            · ((try dsimp only at hSw); go_split_ands; go_simp; (try with_reducible rfl))
            try simp only [Act.put, List.getElem_toArray, List.getElem_cons_zero, List.getElem_cons_succ, List.setIfInBounds_toArray, List.set_cons_zero, List.set_cons_succ]
            refine wpAnyH_ready (rs := [7]) (by kernel_rfl) (by simp) ?_
            refine AllReadyH.cons rfl (fun K hK => ?_) AllReadyH.nil
            try simp only [List.getElem_toArray, List.getElem_cons_zero, List.getElem_cons_succ]
            go_simp
            refine hK.out _ _ (⟨Blk.cell blks, Blk.cell blks, (AtomsV.below HX.out bel).cl hlt⟩) (fun hHeldN => ?_)
            clear hHeld hK K
            have hHeld := hHeldN
            clear hHeldN
            try simp only [Act.put, List.getElem_toArray, List.getElem_cons_zero, List.getElem_cons_succ, List.setIfInBounds_toArray, List.set_cons_zero, List.set_cons_succ]
            have hBX : Below w.heap.size w (wr.alloc (.cells #[.int .i64 a.atoms[j].kind, .int .i64 a.atoms[j].a, .int .i64 a.atoms[j].b] tA)).drew := (Below.alloc HB.out hsz _).drew
            have HAX := Lib.hid (HA.out.below (((Below.refl wr.heap.size wr).alloc (Nat.le_refl _) (.cells #[.int .i64 a.atoms[j].kind, .int .i64 a.atoms[j].a, .int .i64 a.atoms[j].b] tA)).drew))
            have HFX := Lib.hid (HF.out.below (((Below.refl wr.heap.size wr).alloc (Nat.le_refl _) (.cells #[.int .i64 a.atoms[j].kind, .int .i64 a.atoms[j].a, .int .i64 a.atoms[j].b] tA)).drew))
            have kl := (Blk.new wr tA #[.int .i64 a.atoms[j].kind, .int .i64 a.atoms[j].a, .int .i64 a.atoms[j].b]).drew
            have kgX := (kg.alloc (.cells #[.int .i64 a.atoms[j].kind, .int .i64 a.atoms[j].a, .int .i64 a.atoms[j].b] tA)).drew
            have k0X := (k0.alloc (.cells #[.int .i64 a.atoms[j].kind, .int .i64 a.atoms[j].a, .int .i64 a.atoms[j].b] tA)).drew
            have krX := (kr.alloc (.cells #[.int .i64 a.atoms[j].kind, .int .i64 a.atoms[j].a, .int .i64 a.atoms[j].b] tA)).drew
            clear kg k0 kr HA HF HX qk0 rk0 lk0 qkg rkg lkg qkr rkr lkr
            generalize (wr.alloc (.cells #[.int .i64 a.atoms[j].kind, .int .i64 a.atoms[j].a, .int .i64 a.atoms[j].b] tA)).drew = V at hBX HAX HFX kl kgX k0X krX hHeld ⊢
            have hszV := hBX.size
            generalize wr.heap.size = L at kl ⊢
            clear hsz hbl HB
            refine wpAnyH_ready (rs := [8]) (by kernel_rfl) (by simp) ?_
            refine AllReadyH.cons rfl (fun K hK => ?_) AllReadyH.nil
            skip
            (refine stepAL (base := w.heap.size) (xs := xs) (ys := [a.atoms[j]]) rfl _ _ rfl rfl HAX.out rfl (AtomsV.one' kl) (by simp; omega) hszV ?_; intro A' d' w2 of2 hg2 hB3; have z2 := Blk.grownO (hg := hg2) kgX HAX.out.1 (by decide); have z0 := Blk.grownO (hg := hg2) k0X HAX.out.1 (by decide); have hBw2 : Below w.heap.size w w2 := hBX.trans hB3)
            refine hK.out _ _ (⟨z2.cell, z0.cell, (H2.out.below hBw2).cl hlt⟩) (fun hHeldN => ?_)
            clear hHeld hK K
            have hHeld := hHeldN
            clear hHeldN
            try simp only [Act.put, List.getElem_toArray, List.getElem_cons_zero, List.getElem_cons_succ, List.setIfInBounds_toArray, List.set_cons_zero, List.set_cons_succ]
            have rz2 := z2.frozen
            have lz2 := z2.lt
            refine wpAnyH_take (i := 9) (v := ?_) rfl (by kernel_rfl) (by kernel_rfl) (by kernel_rfl) (fun _ _ _ h => h) (Or.inl ⟨by rfl, fun w hSw => ?_⟩) hHeld ?_
            rotate_left
            · ((try dsimp only at hSw); go_split_ands; go_simp; (try with_reducible rfl))
            try simp only [Act.put, List.getElem_toArray, List.getElem_cons_zero, List.getElem_cons_succ, List.setIfInBounds_toArray, List.set_cons_zero, List.set_cons_succ]
            refine wpAnyH_ready (rs := [10]) (by kernel_rfl) (by simp) ?_
            refine AllReadyH.cons rfl (fun K hK => ?_) AllReadyH.nil
            go_simp
            refine hK.out _ _ (⟨z2.cell, z0.cell, (H2.out.below hBw2).cl hlt⟩) (fun hHeld => ?_)
            clear hK K
            refine wpAnyH_done (by kernel_rfl) ?_ _
            unfold lastQ
            go_simp
            refine NoPanic.normal ?_
            have zr := Blk.grownO (hg := hg2) krX HAX.out.1 (by decide)
            go_wp2_with fail
            have of3 := of2.setT z2 (by decide) 1 (.slice A' (xs.length + 1) d')
            go_round
            case rel => exact ⟨j + 1, xs ++ [a.atoms[j]], A', d', by omega, by go_num, by simp; omega, HXN, (FactsO.grownA HFX.out HAX.out hg2).setT z2 (by decide) _ _, of3, z0.far (by simp only []; omega) _, zr.far (by simp only []; omega) _, (by have := z2.set_ 1 (.slice A' (xs.length + 1) d'); simpa using this), hBw2.setCell (p := ⟨g, 1, none⟩) (by simp only; omega) _⟩
            case measure => simp [intOf]; omega
      · obtain rfl : j = a.atoms.length := by omega
        have hne : g ≠ w.heap.size + 2 := by omega
        go_wp2_with fail
        refine bodyPost_ret (v := .agg #[.slice A a.facts.length c, .slice A3 xs.length c3]) (by simp [results, Tryz.results179, go_sem, qkr]) rfl ⟨_, rfl, ⟨_, _, rfl, ?_, ?_⟩, ?_⟩
        · exact (HF.out.setT kr (by decide) 0 _).setT (kr.set_ 0 _) (by decide) 1 _
        · rw [HXS.out] at HA ⊢
          exact (HA.out.setT kr (by decide) 0 _).setT (kr.set_ 0 _) (by decide) 1 _
        · exact (HB.out.setCell (p := ⟨w.heap.size + 2, 0, none⟩) (by simp only; omega) _).setCell (p := ⟨w.heap.size + 2, 1, none⟩) (by simp only; omega) _
end Go.Proofs.YtlmjjflalmegfaaGreat
