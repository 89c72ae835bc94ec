/- Lists of lists of numbers: words, appends, comparison, marks. -/
import Derived.Test.YteogcababfenfaaMCmdG
import Derived.Test.YteogcababfenfaaAlloc
import Derived.Test.YteogcababfenfaaRange
import Derived.Test.YteogcababfenfaaCons
set_option linter.unusedSimpArgs false
set_option linter.unusedVariables false
namespace Go.Proofs.Yteogcababfenfaa
open Go Go.RowKit Go.Proofs

--@ [][]int
abbrev tIS : Nat := 42
theorem infoIS : (Try.prog.info? tIS).map (fun i => (i.zero, i.size, i.bytes)) = some (some (.slice none 0 0), 1, 24) := by kernel_rfl
def tot (xss : List (List Int)) : Nat := (xss.map List.length).sum
/-- a row of our own of slices of our own, no two of which share a block -/
structure SSO (w : World) (base : Nat) (v : Value) (vs : List Value) (xss : List (List Int)) : Prop where
  row : w.ownsRow base tIS 1 v vs.length vs
  lim : Lim vs.length
  len : vs.length = xss.length
  at_ : ∀ (k : Nat) (h : k < vs.length) (h' : k < xss.length), IntsO w base vs[k] xss[k]
  apart : ∀ (i j : Nat) (hi : i < vs.length) (hj : j < vs.length), i < j → ∀ g, vs[i].ownBlock = some g → vs[j].ownBlock ≠ some g
def IntSSO (w : World) (base : Nat) (v : Value) (xss : List (List Int)) : Prop := ∃ vs, SSO w base v vs xss
section
variable {w w' : World} {base base' : Nat} {v : Value} {vs : List Value} {xss : List (List Int)}
theorem SSO.below (h : SSO w base v vs xss) (hb : Below w.heap.size w w') : SSO w' base v vs xss := ⟨own_below h.row hb, h.lim, h.len, fun k h1 h2 => (h.at_ k h1 h2).below hb, h.apart⟩
theorem IntSSO.below (h : IntSSO w base v xss) (hb : Below w.heap.size w w') : IntSSO w' base v xss := by obtain ⟨vs, h⟩ := h; exact ⟨vs, h.below hb⟩
theorem SSO.lower (h : SSO w base v vs xss) (hb : base' ≤ base) : SSO w base' v vs xss := ⟨own_lower h.row hb, h.lim, h.len, fun k h1 h2 => (h.at_ k h1 h2).lower hb, h.apart⟩
theorem IntSSO.lower (h : IntSSO w base v xss) (hb : base' ≤ base) : IntSSO w base' v xss := by obtain ⟨vs, h⟩ := h; exact ⟨vs, h.lower hb⟩
theorem SSO.nil (w : World) (base : Nat) : SSO w base (.slice none 0 0) [] [] := ⟨World.ownsRow_nil _ _ _ _, by simp [Lim], rfl, fun k h => absurd h (by simp), fun i j h => absurd h (by simp)⟩
theorem SSO.empty (w : World) {g : Nat} (hg : g = w.heap.size) : SSO (w.alloc (.cells #[] tIS)) g (.slice (some ⟨g, 0, none⟩) 0 0) [] [] := by
  subst hg
  exact ⟨own_empty w _ _, by simp [Lim], rfl, fun k h => absurd h (by simp), fun i j h => absurd h (by simp)⟩
theorem SSO.form (h : SSO w base v vs xss) : ∃ A c, v = .slice A xss.length c := by
  obtain ⟨A, c, e, -⟩ := own_reads h.row h.lim
  exact ⟨A, c, by rw [e, h.len]⟩
theorem IntSSO.form (h : IntSSO w base v xss) : ∃ A c, v = .slice A xss.length c := by obtain ⟨vs, h⟩ := h; exact h.form
theorem own_turn {w w' : World} {T : TypeId} {B base size n : Nat} {e : TypeId} {v : Value} {xs : List Value} {row : Option Nat} (h : w.ownsRow base e size v n xs) (hg : w.grownBy w' row) (hr : Turn T B w row) (ht : e ≠ T) : w'.ownsRow base e size v n xs := by
  obtain ⟨h1, h2⟩ := h
  refine ⟨h1, ?_⟩
  rcases h2 with h2 | ⟨k, cap, cur, hv, hg', hh, r⟩
  · exact Or.inl h2
  · exact Or.inr ⟨k, cap, cur, hv, hg', Blk.turn (g := k) hh hg hr (Or.inl ht), r⟩
theorem SSO.turn {T : TypeId} {B : Nat} {row : Option Nat} (h : SSO w base v vs xss) (hg : w.grownBy w' row) (hr : Turn T B w row) (h1 : tIS ≠ T) (h2 : tI ≠ T) : SSO w' base v vs xss :=
  ⟨own_turn h.row hg hr h1, h.lim, h.len, fun k a b => ⟨own_turn (h.at_ k a b).1 hg hr h2, (h.at_ k a b).2⟩, h.apart⟩
theorem SSO.setT (h : SSO w base v vs xss) {g : Nat} {t : TypeId} {cs : Array Value} (hk : Blk w g t cs) (h1 : t ≠ tIS) (h2 : t ≠ tI) (i : Nat) (u : Value) : SSO (w.setCell ⟨g, i, none⟩ u) base v vs xss :=
  ⟨own_setT h.row hk h1 i u, h.lim, h.len, fun k a b => (h.at_ k a b).setT hk h2 i u, h.apart⟩
/-- one more slice behind the others: w1 holds the new inner list; the append leads to w' -/
theorem SSO.snoc {w1 : World} {sv v' : Value} {ys : List Int} (h : SSO w base v vs xss) (hb : Below w.heap.size w w1) (hn : IntsO w1 w.heap.size sv ys) (hbase : base ≤ w.heap.size) (hl : vs.length + 1 ≤ 1049600)
    (hg : w1.grownBy w' v.ownBlock) (hr : w'.ownsRow base tIS 1 v' (vs.length + 1) (vs ++ [sv])) : SSO w' base v' (vs ++ [sv]) (xss ++ [ys]) := by
  have hrow1 := own_below h.row hb
  refine ⟨by simpa using hr, by simp [Lim]; omega, by simp [h.len], fun k h1 h2 => ?_, fun i j hi hj hij g hgi hgj => ?_⟩
  · by_cases e : k < vs.length
    · have e' : k < xss.length := by rw [← h.len]; exact e
      simp only [List.getElem_append, e, e', dite_true]
      exact ⟨own_grownO ((h.at_ k e e').below hb).1 hrow1 hg (by decide), (h.at_ k e e').2⟩
    · have hk : k = vs.length := by simp at h1; omega
      have e' : ¬ k < xss.length := by rw [← h.len]; exact e
      simp only [List.getElem_append, e, e', dite_false, List.getElem_singleton]
      exact ⟨(own_lower (own_grownO hn.1 hrow1 hg (by decide)) hbase), hn.2⟩
  · by_cases ej : j < vs.length
    · have ei : i < vs.length := by omega
      simp only [List.getElem_append, ei, ej, dite_true] at hgi hgj
      exact h.apart i j ei ej hij g hgi hgj
    · have hj' : j = vs.length := by simp at hj; omega
      have ei : i < vs.length := by omega
      simp only [List.getElem_append, ei, ej, dite_true, dite_false, List.getElem_singleton] at hgi hgj
      have e1 := ((h.at_ i ei (by rw [← h.len]; exact ei)).1.lt g hgi).2
      have e2 := (hn.1.lt g hgj).1
      omega

/-- a slice of slices that reads as lists of numbers -/
def IntSSV (w : World) (lo hi : Nat) (A : Option Addr) (xss : List (List Int)) : Prop :=
  ∃ vs : List Value, Rd w lo hi 1 A xss.length vs ∧ ∀ (k : Nat) (h : k < vs.length) (h' : k < xss.length), ∃ B c, vs[k] = .slice B xss[k].length c ∧ IntsV w lo hi B xss[k]
theorem IntSSV.below {lo hi : Nat} {A : Option Addr} (h : IntSSV w lo hi A xss) (hb : Below w.heap.size w w') : IntSSV w' lo hi A xss := by
  obtain ⟨vs, h1, h2⟩ := h
  exact ⟨vs, h1.below hb, fun k a b => by obtain ⟨B, c, e, h3⟩ := h2 k a b; exact ⟨B, c, e, h3.below hb⟩⟩
theorem IntSSV.at {lo hi : Nat} {A : Option Addr} (h : IntSSV w lo hi A xss) {k : Nat} (hk : k < xss.length) : ∃ b o B c, A = some ⟨b, o, none⟩ ∧ b < w.heap.size ∧ w.cell? ⟨b, o + k, none⟩ = some (.slice B xss[k].length c) ∧ IntsV w lo hi B xss[k] := by
  obtain ⟨vs, h1, h2⟩ := h
  have hl : vs.length = xss.length := by have := h1.raw.1; omega
  obtain ⟨b, o, u, e, -, -, hu, hc⟩ := h1.raw.at1 hk
  obtain ⟨B, c, e2, h3⟩ := h2 k (by omega) hk
  rw [List.getElem?_eq_getElem (by omega)] at hu
  refine ⟨b, o, B, c, e, block_lt_of_cell hc, ?_, h3⟩
  rw [hc, ← Option.some.inj hu, e2]
theorem SSO.reads {A : Option Addr} {n c : Nat} (h : SSO w base (.slice A n c) vs xss) : n = xss.length ∧ IntSSV w base w.heap.size A xss := by
  obtain ⟨A', c', e, h1⟩ := own_reads h.row h.lim
  injection e with e1 e2 e3
  subst e1
  refine ⟨by rw [e2, h.len], vs, by rw [← h.len]; exact h1, fun k a b => ?_⟩
  obtain ⟨B, d, e, h3⟩ := (h.at_ k a b).reads
  exact ⟨B, d, e, h3⟩
end
/-- the word for the exact laws: a bound on all the numbers, blocks of an interval -/
def IntSSI (w : World) (lo hi : Nat) (v : Value) (xss : List (List Int)) : Prop := ∃ vs, SSO w lo v vs xss ∧ Und v hi ∧ (∀ (k : Nat) (h : k < vs.length), Und vs[k] hi) ∧ tot xss ≤ 16777216
section
variable {w w' : World} {lo hi a b : Nat} {v : Value} {xss : List (List Int)}
theorem IntSSO.I' {base : Nat} (h : IntSSO w base v xss) (hb : tot xss ≤ 16777216) : IntSSI w base w.heap.size v xss := by
  obtain ⟨vs, h⟩ := h
  exact ⟨vs, h, fun g hg => (h.row.lt g hg).2, fun k hk g hg => ((h.at_ k hk (by rw [← h.len]; exact hk)).1.lt g hg).2, hb⟩
/-- contracts hand this word over -/
def IntSSR (w : World) (base : Nat) (v : Value) (xss : List (List Int)) : Prop := IntSSO w base v xss ∧ tot xss ≤ 16777216
theorem IntSSR.I {base : Nat} (h : IntSSR w base v xss) : IntSSI w base w.heap.size v xss := h.1.I' h.2
theorem IntSSI.below (h : IntSSI w lo hi v xss) (hb : Below w.heap.size w w') : IntSSI w' lo hi v xss := by
  obtain ⟨vs, h1, h2⟩ := h; exact ⟨vs, h1.below hb, h2⟩
theorem IntSSI.mk (h : IntSSI w lo hi v xss) (hb : Mk (fun g => a ≤ g ∧ g < b) w w') (hd : hi ≤ a ∨ b ≤ lo) : IntSSI w' lo hi v xss := by
  obtain ⟨vs, h1, h2, h3, h4⟩ := h
  refine ⟨vs, ⟨own_mk h1.row hb fun g hg hp => by have := und_range h1.row h2 g hg; omega, h1.lim, h1.len, fun k x y => ?_, h1.apart⟩, h2, h3, h4⟩
  exact (h1.at_ k x y).mk hb fun g hg hp => by have := und_range (h1.at_ k x y).1 (h3 k x) g hg; omega
theorem IntSSI.form (h : IntSSI w lo hi v xss) : ∃ A c, v = .slice A xss.length c := by obtain ⟨vs, h1, -⟩ := h; exact h1.form
theorem IntSSI.reads {A : Option Addr} {n c : Nat} (h : IntSSI w lo hi (.slice A n c) xss) : IntSSV w lo w.heap.size A xss := by obtain ⟨vs, h1, -⟩ := h; exact h1.reads.2
theorem IntSSI.len (h : IntSSI w lo hi v xss) : xss.length ≤ 1049600 ∧ tot xss ≤ 16777216 := by obtain ⟨vs, h1, -, -, h4⟩ := h; exact ⟨by rw [← h1.len]; exact h1.lim, h4⟩
end
theorem tot_cons (xs : List Int) (xss : List (List Int)) : tot (xs :: xss) = xs.length + tot xss := by simp [tot]
def markSS : Int → List (List Int) → List (List Int)
  | _, [] => []
  | k, xs :: xss => iota k xs.length :: markSS (k + xs.length) xss
theorem markSS_len : ∀ (k : Int) (xss : List (List Int)), (markSS k xss).length = xss.length
  | _, [] => rfl
  | k, xs :: xss => by simp [markSS, markSS_len]
/-- the marks of the first n lists, the others as they were -/
def markTo (k : Int) (xss : List (List Int)) (n : Nat) : List (List Int) := markSS k (xss.take n) ++ xss.drop n
theorem tot_append (xs ys : List (List Int)) : tot (xs ++ ys) = tot xs + tot ys := by simp [tot]
theorem tot_markSS : ∀ (k : Int) (xss : List (List Int)), tot (markSS k xss) = tot xss
  | _, [] => rfl
  | k, xs :: xss => by simp only [markSS, tot_cons, iota_length, tot_markSS]
theorem markSS_append : ∀ (k : Int) (xs ys : List (List Int)), markSS k (xs ++ ys) = markSS k xs ++ markSS (k + tot xs) ys
  | k, [], ys => by simp [markSS, tot]
  | k, x :: xs, ys => by
    simp only [List.cons_append, markSS, markSS_append, tot_cons]
    congr 3
    omega

--@ laws.eqIntSS
--@ laws.markIntSS
theorem SSO.at {w : World} {base n c k : Nat} {A : Option Addr} {vs : List Value} {xss : List (List Int)} (h : SSO w base (.slice A n c) vs xss) (hk : k < xss.length) (hk' : k < vs.length) : ∃ b o B d, A = some ⟨b, o, none⟩ ∧ b < w.heap.size ∧ w.cell? ⟨b, o + k, none⟩ = some (.slice B xss[k].length d) ∧ vs[k] = .slice B xss[k].length d := by
  obtain ⟨A', c', e, h1⟩ := own_reads h.row h.lim
  injection e with e1 e2 e3
  subst e1
  obtain ⟨b, o, u, e, -, -, hu, hc⟩ := h1.raw.at1 hk'
  obtain ⟨B, d, e2, -⟩ := (h.at_ k hk' hk).reads
  rw [List.getElem?_eq_getElem hk'] at hu
  exact ⟨b, o, B, d, e, block_lt_of_cell hc, by rw [hc, ← Option.some.inj hu, e2], e2⟩
theorem own_ne {w : World} {b b' s s' n n' : Nat} {e e' : TypeId} {v v' : Value} {xs xs' : List Value} (h : w.ownsRow b e s v n xs) (h' : w.ownsRow b' e' s' v' n' xs') (ht : e ≠ e') : ∀ g, v.ownBlock = some g → v'.ownBlock ≠ some g := by
  intro g hg hg'
  rcases h.2 with ⟨rfl, -⟩ | ⟨k, cap, cur, rfl, -, hh, -⟩
  · cases hg
  · rcases h'.2 with ⟨rfl, -⟩ | ⟨k', cap', cur', rfl, -, hh', -⟩
    · cases hg'
    · have e1 : k = g := by simpa [Value.ownBlock] using hg
      have e2 : k' = g := by simpa [Value.ownBlock] using hg'
      subst e1; subst e2
      exact (Blk.ne_ (g := k') hh hh' ht) rfl
theorem SSO.update {w w' : World} {base n : Nat} {v : Value} {vs : List Value} {xss : List (List Int)} (h : SSO w base v vs xss) (hn : n < vs.length) (hx : n < xss.length) {ys : List Int} (hy : IntsO w' base vs[n] ys) (hM : Mk (fun g => vs[n].ownBlock = some g) w w') : SSO w' base v vs (xss.set n ys) := by
  refine ⟨own_mk h.row hM fun g hg hp => own_ne h.row (h.at_ n hn hx).1 (by decide) g hg hp, h.lim, by simp [h.len], fun k h1 h2 => ?_, h.apart⟩
  have h2' : k < xss.length := by simpa using h2
  by_cases e : n = k
  · subst e; simpa using hy
  · rw [List.getElem_set_ne e]
    refine (h.at_ k h1 h2').mk hM fun g hg hp => ?_
    rcases Nat.lt_or_gt_of_ne e with hlt | hlt
    · exact h.apart n k hn h1 hlt g hp hg
    · exact h.apart k n h1 hn hlt g hg hp
theorem set_mid {α : Type} (L R : List α) (n : Nat) (u : α) (h : L.length = n) : (L ++ R).set n u = L ++ R.set 0 u := by subst h; simp [List.set_append]
theorem markTo_succ (k : Int) (x : List (List Int)) (n : Nat) (hn : n < x.length) : markTo k x (n + 1) = (markTo k x n).set n (iota (k + tot (x.take n)) x[n].length) := by
  have hl : (markSS k (x.take n)).length = n := by rw [markSS_len, List.length_take]; omega
  unfold markTo
  rw [List.take_succ_eq_append_getElem hn, markSS_append, List.drop_eq_getElem_cons hn, set_mid _ _ _ _ hl, List.set_cons_zero]
  simp only [markSS, List.append_assoc, List.cons_append, List.nil_append]
theorem markTo_get (k : Int) (x : List (List Int)) (n : Nat) (hn : n < x.length) (h : n < (markTo k x n).length) : (markTo k x n)[n] = x[n] := by
  have e : (markTo k x n)[n]? = some x[n] := by
    unfold markTo
    rw [List.getElem?_append_right (by rw [markSS_len, List.length_take]; omega), markSS_len]
    simp [Nat.min_eq_left (show n ≤ x.length by omega), List.getElem?_eq_getElem hn]
  rw [List.getElem?_eq_getElem h] at e
  exact Option.some.inj e
theorem markTo_len (k : Int) (x : List (List Int)) (n : Nat) (hn : n ≤ x.length) : (markTo k x n).length = x.length := by simp [markTo, markSS_len]; omega
theorem tot_take (x : List (List Int)) (n : Nat) (hn : n < x.length) : tot (x.take (n + 1)) = tot (x.take n) + x[n].length := by
  rw [List.take_succ_eq_append_getElem hn, tot_append]; simp [tot]
theorem tot_le (x : List (List Int)) (n : Nat) : tot (x.take n) ≤ tot x := by
  conv => rhs; rw [← List.take_append_drop n x, tot_append]
  omega
--@ laws.heldIntSS
theorem markSS_get (k : Int) (x : List (List Int)) (n : Nat) (hn : n < x.length) (h : n < (markSS k x).length) : (markSS k x)[n] = iota (k + tot (x.take n)) x[n].length := by
  have e : (markSS k x)[n]? = some (iota (k + tot (x.take n)) x[n].length) := by
    conv => lhs; rw [← List.take_append_drop n x, markSS_append, List.drop_eq_getElem_cons hn]
    rw [List.getElem?_append_right (by rw [markSS_len, List.length_take]; omega), markSS_len]
    simp [Nat.min_eq_left (show n ≤ x.length by omega), markSS]
  rw [List.getElem?_eq_getElem h] at e
  exact Option.some.inj e
end Go.Proofs.Yteogcababfenfaa

/- Contracts: all cases: impl and spec. -/
namespace Go.Proofs.Yteogcababfenfaa
open Go Go.RowKit Go.Proofs
attribute [local go_sem ↓] Go.wp_at_zero Go.wp_at_succ
attribute [local go_sem] Oper.semAt_some

/-- only blocks of slices of numbers may have turned -/
structure KX (w w' : World) : Prop where
  os : w'.os = w.os
  tape : w'.tape = w.tape
  output : w'.output = w.output
  size : w.heap.size ≤ w'.heap.size
  keep : ∀ (k : Nat) (o : Obj), w.heap[k]? = some o → (∀ cs, o ≠ .cells cs tIS (0, 0)) → w'.heap[k]? = some o
section
variable {w w' w1 : World}
theorem KX.of (h : Below w.heap.size w w') : KX w w' := ⟨h.os, h.tape, h.output, h.size, fun k o hk _ => (h.block k (Array.getElem?_eq_some_iff.1 hk).1).trans hk⟩
theorem KX.trans (h : KX w w1) (k : KX w1 w') : KX w w' := ⟨k.os.trans h.os, k.tape.trans h.tape, k.output.trans h.output, Nat.le_trans h.size k.size, fun i o hi ho => k.keep i o (h.keep i o hi ho) ho⟩
theorem KX.set (h : KX w w1) {p : Addr} (hp : w.heap.size ≤ p.block) (u : Value) : KX w (w1.setCell p u) :=
  ⟨h.os, h.tape, h.output, by have := h.size; simpa using this, fun k o hk ho => (Below.heap_setCell w1 p u k (by have := (Array.getElem?_eq_some_iff.1 hk).1; omega)).trans (h.keep k o hk ho)⟩
theorem KX.app {v : Value} {base n : Nat} {vs : List Value} (h : w.ownsRow base tIS 1 v n vs) (hg : w.grownBy w' v.ownBlock) : KX w w' :=
  ⟨hg.os, hg.tape, hg.output, hg.size, fun k o hk ho => (hg.block k (Array.getElem?_eq_some_iff.1 hk).1 (fun e => by
    rcases h.2 with ⟨rfl, -⟩ | ⟨g, cap, cur, rfl, -, hh, -⟩
    · cases e
    · have e1 : k = g := by simpa [Value.ownBlock] using e
      subst e1
      rw [hk] at hh
      exact ho cur (Option.some.inj hh))).trans hk⟩
theorem KX.blk (h : KX w w') {g : Nat} {t : TypeId} {cs : Array Value} (hb : Blk w g t cs) (ht : t ≠ tIS) : Blk w' g t cs := h.keep g _ hb fun c e => by injection e with _ e2; exact ht e2
theorem KX.ints (h : KX w w') {base : Nat} {v : Value} {xs : List Int} (ho : IntsO w base v xs) : IntsO w' base v xs := by
  obtain ⟨⟨h1, h2⟩, h3⟩ := ho
  refine ⟨⟨h1, ?_⟩, h3⟩
  rcases h2 with h2 | ⟨k, cap, cur, hv, hg, hh, r⟩
  · exact Or.inl h2
  · exact Or.inr ⟨k, cap, cur, hv, hg, h.blk (g := k) hh (by decide), r⟩
end
theorem KX.keeps {w w' : World} (h : KX w w') : KeepsOthers w w' := ⟨h.size, fun k o hk ho => h.keep k o hk fun cs e => by subst e; cases ho⟩
theorem KX.kept {T1 T2 : TypeId} {n₀ : Nat} {w w' : World} (h : KX w w') (hb : Below n₀ w w') (h1 : T1 ≠ tIS) (h2 : T2 ≠ tIS) : Kept T1 T2 n₀ w w' := ⟨hb, fun g t cs ht hk => h.blk hk (by rcases ht with rfl | rfl; exact h1; exact h2)⟩
section
variable {P : Program} {n : Nat}
/-- a drawn region within a round, its last store carried out behind the others -/
theorem wpIn_region_last' {Q : Exit → Act → World → Prop} {S : World → Prop} {L : List Oper} {id l : Nat} {a : Act} {w : World} (hlo : ¬ LetsOut Q) (hnd : (L.toArray.all noDefer) = true) (hne : L ≠ []) (hm : P.follows .mixedOrders = true) (hB : lastB L = true) (hS : S w.drew)
    (h : S w.drew → wpAnyH P .any (L.dropLast ++ [nopOf (L.getLast hne)]).toArray (lastQ P (L.getLast hne) Q) S L.length (Array.replicate L.length false) a w.drew) : (Code.region id L.toArray true).wpIn (Fence.wide.inRound l) n P Q a w := by
  refine wpIn_region_any hm (wpAny_in hlo hnd _ _ _ _ ?_)
  have e : L.dropLast ++ [L.getLast hne] = L := List.dropLast_concat_getLast hne
  unfold lastB at hB
  rw [List.getLast?_eq_some_getLast hne] at hB
  simp only [Bool.and_eq_true] at hB
  obtain ⟨⟨⟨⟨h1, h2⟩, h3⟩, h4⟩, h5⟩ := hB
  have hl : L.dropLast.length + 1 = L.length := by have := congrArg List.length e; simpa using this
  have es : L.toArray.size = L.dropLast.length + 1 := by rw [List.size_toArray, hl]
  rw [es]
  have key := wpAny_of_last (P := P) (S := S) (Q := Q) (md := .any) h1 h2 (by rw [e]; exact h3) (by rw [e]; exact h4) (by rw [e]; exact h5) (L.dropLast.length + 1) (Array.replicate (L.dropLast.length + 1) false) a w.drew ⟨by simp, fun j oj _ hl => (by rw [getD_replicate_false] at hl; cases hl), fun t _ ht => getD_in (by simpa using ht) (getD_replicate_false _ _)⟩ (by rw [hl]; exact h hS)
  rwa [e] at key
end

--@ (impl.termCase).list
theorem ints_case {w : World} {g : Nat} {c : List Int} (h : Blk w g tTc (case9 c)) (hc : c.length = 9) : IntsV w g (g + 1) (some ⟨g, 0, none⟩) c :=
  ⟨⟨by simp, fun _ => ⟨g, 0, rfl, Nat.le_refl _, Nat.lt_succ_self _, fun j u hu => by rw [Nat.zero_add, (h.case hc).cell]; simpa using hu⟩⟩, by rw [hc]; decide⟩
--@ impl.CasesOf
/-- the cases, as the two programs list them -/
def casesV (a : Asn) : List (List Int) := if a.valid then cases a (caseS a 0) else []
theorem flatMap_len {α β : Type} (f : α → List β) (B : Nat) : ∀ (l : List α), (∀ x ∈ l, (f x).length ≤ B) → (l.flatMap f).length ≤ l.length * B
  | [], _ => by simp
  | x :: xs, h => by
    rw [List.flatMap_cons, List.length_append, List.length_cons, Nat.succ_mul]
    have h1 := h x List.mem_cons_self
    have h2 := flatMap_len f B xs fun y hy => h y (List.mem_cons_of_mem _ hy)
    omega
def fall : Nat → Nat
  | 0 => 1
  | n + 1 => (9 - n) * fall n
theorem gen_len (S : Nat) : ∀ (n : Nat) (c : List Int), n ≤ 9 → (gen S n c).length ≤ fall n
  | 0, _, _ => by simp [gen, fall]
  | n + 1, c, hn => by
    have ih := fun c => gen_len S n c (by omega)
    unfold gen fall
    split
    · refine Nat.le_trans (flatMap_len _ (fall n) _ fun k _ => ?_) (by simp)
      split
      · simp
      · exact ih _
    · refine Nat.le_trans (ih _) ?_
      have : 1 ≤ 9 - n := by omega
      exact Nat.le_mul_of_pos_left _ this
theorem cases_len (a : Asn) (S : Nat) : (cases a S).length ≤ 362880 := Nat.le_trans (List.length_filter_le _ _) (gen_len S 9 zeros (by omega))
theorem tot_nine : ∀ (L : List (List Int)), (∀ c ∈ L, c.length = 9) → tot L = L.length * 9
  | [], _ => rfl
  | c :: L, h => by rw [tot_cons, h c List.mem_cons_self, tot_nine L fun d hd => h d (List.mem_cons_of_mem _ hd), List.length_cons]; omega
theorem cases_nine {a : Asn} {S : Nat} : ∀ c ∈ cases a S, c.length = 9 := fun c hc => CaseT.len (a := a) (S := S) ⟨c, hc⟩
theorem casesV_tot (a : Asn) : tot (casesV a) ≤ 16777216 := by
  unfold casesV
  split
  · rw [tot_nine _ cases_nine]
    have := cases_len a (caseS a 0)
    omega
  · simp [tot]
theorem slice_one (v : Value) (h : ∃ A n c, v = .slice A n c) : v.oneCell' = true := by obtain ⟨A, n, c, rfl⟩ := h; rfl
section
variable {ops : Array Oper} {rest : List Oper} {o : Oper} {a : Act} {Q : Exit → Act → World → Prop} {w w0 : World} {base : Nat} {v : Value} {vs : List Value} {xss : List (List Int)}
theorem rwS {w : World} {g : Nat} {sv : Value} (h : Blk w g tIS #[sv]) : Rw w g (g + 1) 1 (some ⟨g, 0, none⟩) 1 [sv] :=
  ⟨rfl, fun _ => ⟨g, 0, rfl, Nat.le_refl _, Nat.lt_succ_self _, fun j u hu => by
    match j, hu with
    | 0, hu => simp at hu; subst hu; exact h.cell 0⟩⟩
/-- append of one slice to a list of slices, at a step of a drawn region -/
theorem stepSS {K : Act → World → Prop} {E : Prop} (hgd : o.guard = none) (s x : Operand) (ho : o.op = .call { callee := .builtin .append, args := #[s, x], argTypes := #[70, 70] })
    (hs : a.eval s = v) (h0 : SSO w0 base v vs xss) (hb0 : Below w0.heap.size w0 w) (hbase : base ≤ w0.heap.size) {g : Nat} {A : Option Addr} {n c : Nat} {ys : List Int} (hy : IntsO w w0.heap.size (.slice A n c) ys) (hg : Blk w g tIS #[.slice A n c]) (hx : a.eval x = .slice (some ⟨g, 0, none⟩) 1 1) (hl : xss.length + 1 ≤ 1049600)
    (h : ∀ A' c' w', SSO w' base (.slice A' (xss.length + 1) c') (vs ++ [.slice A n c]) (xss ++ [ys]) → w.grownBy w' v.ownBlock → Below base w w' → K (a.put o.dst (.slice A' (xss.length + 1) c')) w') : if Region.wanted o (yielded ops a.tmps) = true then Oper.wp Try.prog o a w K Q else E := by
  have hw : Region.wanted o (yielded ops a.tmps) = true := by simp [Region.wanted, hgd]
  rw [if_pos hw]
  have hvl := h0.len
  refine wp_appL s x 70 ho Try.underlying70 infoIS rfl (by decide) (by decide) hs (own_below h0.row hb0) hx (rwS hg) (by intro u hu; simp at hu; subst hu; rfl) (by omega) (Nat.le_trans hbase hb0.size) ?_
  intro v' w' h1 h2 h3
  have hS := h0.snoc hb0 hy hbase (by omega) h2 h1
  obtain ⟨A', c', rfl⟩ := hS.form
  simp only [List.length_append, List.length_cons, List.length_nil, Nat.zero_add] at hS ⊢
  exact h A' c' w' hS h2 h3
/-- .. in a list of operations -/
theorem appSS (hgd : o.guard = none) (s x : Operand) (ho : o.op = .call { callee := .builtin .append, args := #[s, x], argTypes := #[70, 70] })
    (hs : a.eval s = v) (h0 : SSO w0 base v vs xss) (hb0 : Below w0.heap.size w0 w) (hbase : base ≤ w0.heap.size) {g : Nat} {A : Option Addr} {n c : Nat} {ys : List Int} (hy : IntsO w w0.heap.size (.slice A n c) ys) (hg : Blk w g tIS #[.slice A n c]) (hx : a.eval x = .slice (some ⟨g, 0, none⟩) 1 1) (hl : xss.length + 1 ≤ 1049600)
    (h : ∀ A' c' w', SSO w' base (.slice A' (xss.length + 1) c') (vs ++ [.slice A n c]) (xss ++ [ys]) → w.grownBy w' v.ownBlock → Below base w w' → wpList Try.prog ops Q rest (a.put o.dst (.slice A' (xss.length + 1) c')) w') : wpList Try.prog ops Q (o :: rest) a w := by
  have hvl := h0.len
  refine wpList_appL hgd s x 70 ho Try.underlying70 infoIS rfl (by decide) (by decide) hs (own_below h0.row hb0) hx (rwS hg) (by intro u hu; simp at hu; subst hu; rfl) (by omega) (Nat.le_trans hbase hb0.size) ?_
  intro v' w' h1 h2 h3
  have hS := h0.snoc hb0 hy hbase (by omega) h2 h1
  obtain ⟨A', c', rfl⟩ := hS.form
  simp only [List.length_append, List.length_cons, List.length_nil, Nat.zero_add] at hS ⊢
  exact h A' c' w' hS h2 h3
end
end Go.Proofs.Yteogcababfenfaa

/- Contracts: the spec's list of all cases. -/
namespace Go.Proofs.Yteogcababfenfaa
open Go Go.RowKit Go.Proofs
attribute [local go_sem ↓] Go.wp_at_zero Go.wp_at_succ

--@ spec.l5Cases
/-- the list after k choices -/
def outAt (a : Asn) (S n : Nat) (c : List Int) (xss : List (List Int)) (k : Nat) : List (List Int) := xss ++ (List.range k).flatMap (seekAt a S n c)
section
variable {a : Asn} {S n : Nat} {c : List Int} {xss : List (List Int)} {k N : Nat}
theorem outAt_zero : outAt a S n c xss 0 = xss := by simp [outAt]
theorem outAt_succ : outAt a S n c xss (k + 1) = outAt a S n c xss k ++ seekAt a S n c k := by
  unfold outAt; rw [List.range_succ, List.flatMap_append]; simp
theorem outAt_len (hk : k < N) : (outAt a S n c xss k).length + (seekAt a S n c k).length ≤ xss.length + ((List.range N).flatMap (seekAt a S n c)).length := by
  obtain ⟨m, rfl⟩ : ∃ m, N = k + (m + 1) := ⟨N - k - 1, by omega⟩
  unfold outAt
  rw [List.range_add, List.range_succ_eq_map, List.map_cons, List.flatMap_append, List.flatMap_cons, Nat.add_zero]
  simp only [List.length_append]
  omega
end
set_option maxRecDepth 100000 in
set_option maxHeartbeats 6400000 in
theorem c_spec_l5Cases {a : Asn} {S lo hi lo2 hi2 base : Nat} {A1 A2 : Option Addr} {d1 d2 : Nat} (T : Option Addr) (tc : Nat) (hv : a.valid = true) (hhi : hi ≤ base) (hhi2 : hi2 ≤ base) :
    ∀ (n : Nat) (c : List Int) (B : Option Addr) (cc bI : Nat) (w : World) (vs : List Value) (xss : List (List Int)) (O : Option Addr) (oc : Nat), n ≤ 8 → c.length = 9 → (∀ j : Nat, j < 9 - n → S.testBit j = true → 0 ≤ cl c j ∧ cl c j ≤ j) → (∀ j : Nat, j < 9 → cl c j ≤ 8) →
      AsnV w lo hi (.agg #[.slice A1 a.facts.length d1, .slice A2 a.atoms.length d2]) a → BoolsV w lo2 hi2 T (flagsOf S) → IntsO w bI (.slice B 9 cc) c → SSO w base (.slice O xss.length oc) vs xss → base ≤ w.heap.size → xss.length + (seek a S n c).length ≤ 400000 →
      Calls Try.prog 138 #[.slice O xss.length oc, .agg #[.slice A1 a.facts.length d1, .slice A2 a.atoms.length d2], .slice T 9 tc, .slice B 9 cc, .int .i64 ((9 - n : Nat) : Int)] w fun e w' =>
        ∃ r vs', e = .returned r ∧ SSO w' base r vs' (xss ++ seek a S n c) ∧ KX w w' ∧ Below base w w' := by
  intro n
  induction n with
  | zero =>
    intro c B cc bI w vs xss O oc hn hc _ hc8 hA hT hI hSO hbw hlen
    have HO := Lib.hid (Asn.valid_ok hv)
    have hV := Lib.hid hA
    have HC := Lib.hid hc
    have HII := Lib.hid hI
    have HSO := Lib.hid hSO
    have HI : Hid (IntsV w bI w.heap.size B c) := hI.readsI.2
    have HCL : Hid (∀ x ∈ a.atoms, cl c x.a ≤ 8) := fun x hx => by
      have := (HO.out.2 x hx).1
      obtain ⟨t, et⟩ := Int.eq_ofNat_of_zero_le this.1
      rw [et]; exact hc8 t (by omega)
    obtain ⟨B1, e1, B2, e2, he, h1, h2⟩ := hA
    injection he with he; injection he with he; injection he with he1 he2; injection he2 with he2 he3
    injection he1 with he1 _ he4; injection he2 with he2 _ he5
    subst he1 he4 he2 he5
    have H1 := Lib.hid h1
    have H2 := Lib.hid h2
    have HLN := Lib.hid hlen
    clear h1 h2 hc hc8 hT hI he3 hSO hlen
    go_enter Try.func138, Try.ntmps138
    go_wp2_with fail
    refine (c_fits9 A1 B d1 cc a.facts c _ (H1.out.below bel) (HI.out.below bel) HC.out HO.out.1).mono ?_
    rintro e w1 ⟨rfl, rfl⟩
    cases hf : fitsS c a.facts
    · have E := Lib.hid (seek_cut (a := a) (S := S) 0 (c := c) (by rw [hf]; rfl))
      clear hf
      go_wp2_with fail
      go_ret
      exact ⟨_, vs, rfl, by rw [E.out, List.append_nil]; exact HSO.out.below bel, KX.of bel, btoB (w := w) bel hbw⟩
    have HF := Lib.hid hf
    clear hf
    go_wp2_with fail
    refine (c_early9 A2 B d2 cc a.atoms c _ (H2.out.below bel) (HI.out.below bel) HC.out HO.out.2 HCL.out).mono ?_
    rintro e w2 ⟨rfl, hB2⟩
    have hB : Below w.heap.size w w2 := bgo (w := w) bel hB2
    have k0 : Blk w2 w.heap.size tAs #[.slice A1 a.facts.length d1, .slice A2 a.atoms.length d2] := Blk.next blks hB2
    have q0 := k0.cell
    have l0 := k0.lt
    clear hB2
    cases he : earlyF c [] a.atoms
    · have E := Lib.hid (seek_cut (a := a) (S := S) 0 (c := c) (by rw [HF.out, he]; rfl))
      clear he
      go_wp2_with fail
      go_ret
      exact ⟨_, vs, rfl, by rw [E.out, List.append_nil]; exact HSO.out.below hB, KX.of hB, btoB hB hbw⟩
    have E0 := Lib.hid (seek_leaf (a := a) (S := S) (c := c) (by rw [HF.out, he]; rfl))
    clear he
    go_wp2_with fail
    refine (c_filled9 A2 B d2 cc a.atoms c _ (H2.out.below hB) (HI.out.below hB) HC.out HO.out.2).mono ?_
    rintro e w3 ⟨r3, rfl, o3, hB3⟩
    obtain ⟨R3, e3, rfl, v3⟩ := o3.reads
    have hBB : Below w.heap.size w w3 := bgo hB hB3
    go_wp2_with fail
    refine (c_spec_l5Apart R3 e3 (filledL a.atoms c) _ v3).mono ?_
    rintro e w4 ⟨rfl, hB4⟩
    have hB5 : Below w.heap.size w w4 := bgo hBB hB4
    have hz := hB5.size
    clear o3 v3 hB3 hB4 hBB q0 l0 k0 hB
    cases hap : apartF [] (filledL a.atoms c)
    · have E := Lib.hid (show seek a S 0 c = [] by rw [E0.out, hap]; rfl)
      clear hap
      go_wp2_with fail
      go_ret
      exact ⟨_, vs, rfl, by rw [E.out, List.append_nil]; exact HSO.out.below hB5, KX.of hB5, btoB hB5 hbw⟩
    · have E := Lib.hid (show seek a S 0 c = [c] by rw [E0.out, hap]; rfl)
      clear hap
      have hl1 : xss.length + 1 ≤ 1049600 := by have := HLN.out; rw [E.out] at this; simp at this; omega
      go_wp2_with (first
        | (at_builtin; refine appIL (ys := c) (base := w4.heap.size) rfl _ _ rfl (v := .slice (some ⟨w4.heap.size, 0, none⟩) 0 0) rfl (IntsO.empty w4 rfl) (by rw [HC.out]; rfl) (HI.out.below bel) (by rw [HC.out]; simp) (by simp) ?_; intro A' c' w5 o5 hg5 hB6; rw [List.nil_append, HC.out] at o5 ⊢; have hB7 : Below w.heap.size w w5 := Below.trans bel (hB6.mono hz); have o5l := o5.lower hz)
        | (at_builtin; refine appSS (w0 := w) (xss := xss) (vs := vs) (base := base) rfl _ _ rfl rfl HSO.out bel hbw (ys := c) (IntsO.below o5l bel) (Blk.new w5 tIS _) rfl hl1 ?_; intro A2' c2' w6 hS6 hg6 hB8))
      go_ret
      exact ⟨_, _, rfl, by rw [E.out]; simpa using hS6, KX.trans (KX.of (w := w) bel) (KX.app (own_below HSO.out.row bel) hg6), Below.trans (btoB (w := w) bel hbw) hB8⟩
  | succ n ih =>
    intro c B cc bI w vs xss O oc hn hc hcl hc8 hA hT hI hSO hbw hlen
    have HO := Lib.hid (Asn.valid_ok hv)
    have hV := Lib.hid hA
    have HC := Lib.hid hc
    have HTT := Lib.hid hT
    have HC8 := Lib.hid hc8
    have HCL0 := Lib.hid hcl
    have IH := Lib.hid ih
    have HLN := Lib.hid hlen
    have HSO := Lib.hid hSO
    have HCL : Hid (∀ x ∈ a.atoms, cl c x.a ≤ 8) := fun x hx => by
      have := (HO.out.2 x hx).1
      obtain ⟨t, et⟩ := Int.eq_ofNat_of_zero_le this.1
      rw [et]; exact hc8 t (by omega)
    obtain ⟨B1, e1, B2, e2, he, h1, h2⟩ := hA
    injection he with he; injection he with he; injection he with he1 he2; injection he2 with he2 he3
    injection he1 with he1 _ he4; injection he2 with he2 _ he5
    subst he1 he4 he2 he5
    have H1 := Lib.hid h1
    have H2 := Lib.hid h2
    obtain ⟨tb, to, rfl, ltb⟩ := flags_addr hT
    obtain ⟨pb, ob, rfl, lpb⟩ := hI.readsI.2.blt (k := 0) (by omega)
    have HII := Lib.hid hI
    have HI : Hid (IntsV w bI w.heap.size (some ⟨pb, ob, none⟩) c) := hI.readsI.2
    obtain ⟨m, hm8⟩ : ∃ m, m = 8 - n := ⟨_, rfl⟩
    have E1 : Hid (((9 - n : Nat) : Int) = (m : Int) + 1) := by show _ = _; omega
    rw [show 9 - (n + 1) = m from by omega] at HCL0 ⊢
    have HM8 := Lib.hid hm8
    have HN := Lib.hid hn
    have hmg : ¬ (8 < (m : Int)) := by omega
    have hmi9 : (m : Int) < 9 := by omega
    clear h1 h2 hc hc8 hcl hT hI he3 ih hm8 hn hSO hlen
    go_enter Try.func138, Try.ntmps138
    go_wp2_with fail
    refine (c_fits9 A1 _ d1 cc a.facts c _ (H1.out.below bel) (HI.out.below bel) HC.out HO.out.1).mono ?_
    rintro e w1 ⟨rfl, rfl⟩
    cases hf : fitsS c a.facts
    · have E := Lib.hid (seek_cut (a := a) (S := S) (n + 1) (c := c) (by rw [hf]; rfl))
      clear hf
      go_wp2_with fail
      go_ret
      exact ⟨_, vs, rfl, by rw [E.out, List.append_nil]; exact HSO.out.below bel, KX.of bel, btoB (w := w) bel hbw⟩
    have HF := Lib.hid hf
    clear hf
    go_wp2_with fail
    refine (c_early9 A2 _ d2 cc a.atoms c _ (H2.out.below bel) (HI.out.below bel) HC.out HO.out.2 HCL.out).mono ?_
    rintro e w2 ⟨rfl, hB2⟩
    have hB : Below w.heap.size w w2 := bgo (w := w) bel hB2
    have k0 : Blk w2 w.heap.size tAs #[.slice A1 a.facts.length d1, .slice A2 a.atoms.length d2] := Blk.next blks hB2
    have q0 := k0.cell
    have l0 := k0.lt
    clear hB2
    cases he : earlyF c [] a.atoms
    · have E := Lib.hid (seek_cut (a := a) (S := S) (n + 1) (c := c) (by rw [HF.out, he]; rfl))
      clear he
      go_wp2_with fail
      go_ret
      exact ⟨_, vs, rfl, by rw [E.out, List.append_nil]; exact HSO.out.below hB, KX.of hB, btoB hB hbw⟩
    have E0 := Lib.hid (seek_step (a := a) (S := S) (n := n) (c := c) (by rw [HF.out, he]; rfl))
    clear he
    have qt := flags_at (HTT.out.below hB) (m := m) (by omega)
    have hz0 := hB.size
    cases ht : S.testBit m
    · rw [ht] at qt
      have E : Hid (seek a S (n + 1) c = seek a S n c) := by show _ = _; rw [E0.out, ← HM8.out, ht]; rfl
      have ih1 := IH.out c _ cc bI w2 vs xss O oc (by have := HN.out; omega) HC.out (fun j hj hS => by
        by_cases e : j = m
        · subst e; rw [ht] at hS; cases hS
        · exact HCL0.out j (by have := HM8.out; have := HN.out; omega) hS) HC8.out (hV.out.below hB) (HTT.out.below hB) (HII.out.below hB) (HSO.out.below hB) (by omega) (by rw [← E.out]; exact HLN.out)
      rw [E1.out] at ih1
      have IH1 := Lib.hid ih1
      clear ih1 ht
      go_wp2_with fail
      refine IH1.out.mono ?_
      rintro e w3 ⟨r, vs3, rfl, h3, hK3, hB3⟩
      have H3 := Lib.hid h3
      have HK3 := Lib.hid hK3
      clear h3 hK3
      go_wp2_with fail
      go_ret
      exact ⟨r, vs3, rfl, by rw [E.out]; exact H3.out, KX.trans (KX.of hB) HK3.out, Below.trans (btoB hB hbw) hB3⟩
    · rw [ht] at qt
      have E : Hid (seek a S (n + 1) c = (List.range (9 - n)).flatMap (seekAt a S n c)) := by show _ = _; rw [E0.out, ← HM8.out, ht]; rfl
      clear ht
      go_wp2_with fail
      go_loopw [0, 11] (fun q i wr => ∃ (k : Nat) (O' : Option Addr) (oc' : Nat) (vs' : List Value), k ≤ m + 1 ∧ i = .int .i64 k ∧ q = .slice O' (outAt a S n c xss k).length oc' ∧ Hid (SSO wr base (.slice O' (outAt a S n c xss k).length oc') vs' (outAt a S n c xss k)) ∧ Hid (KX w wr) ∧ Blk wr w.heap.size tAs #[.slice A1 a.facts.length d1, .slice A2 a.atoms.length d2] ∧ Below base w wr) (fun _ i _ => 9 - (intOf i).toNat)
      case atStart => exact ⟨0, O, oc, vs, Nat.zero_le _, rfl, by rw [outAt_zero], by show SSO _ _ _ _ _; rw [outAt_zero]; exact HSO.out.below hB, KX.of hB, k0, btoB hB hbw⟩
      case round =>
        clear k0 hB q0 l0 qt hz0
        obtain ⟨k, O', oc', vs', hk, rfl, rfl, HS, HK, k0, hB⟩ := hrel
        have q0 := k0.cell
        have l0 := k0.lt
        have hz := hB.size
        have HIR : Hid (IntsV wr bI wr.heap.size (some ⟨pb, ob, none⟩) c) := (HK.out.ints HII.out).readsI.2
        by_cases hlt : k ≤ m
        · have hki : (k : Int) ≤ (m : Int) := by omega
          have hk9 : (k : Int) < 9 := by omega
          have hkc := ints_cl HIR.out (m := k) (by rw [HC.out]; omega)
          have HNX := Lib.hid (outAt_succ (a := a) (S := S) (n := n) (c := c) (xss := xss) (k := k))
          by_cases hskip : k < m ∧ cl c k ≠ k
          · have HX : Hid (seekAt a S n c k = []) := by show _ = _; rw [seekAt, if_pos (by rw [← HM8.out]; exact hskip)]
            have HX2 : Hid (outAt a S n c xss (k + 1) = outAt a S n c xss k) := by show _ = _; rw [HNX.out, HX.out, List.append_nil]
            have hkm : (k : Int) < (m : Int) := by omega
            have hne : (cl c k != (k : Int)) = true := by simpa using hskip.2
            clear hskip hki hlt
            go_wp2_with fail
            go_round
            case rel => exact ⟨k + 1, O', oc', vs', by omega, by go_num, by rw [HX2.out], by show SSO _ _ _ _ _; rw [HX2.out]; exact HS.out, HK, k0, hB⟩
            case measure => simp [intOf]; omega
          · have hsk2 : k < m → (cl c k != (k : Int)) = false := fun h => by
              cases Int.decEq (cl c k) k with
              | isTrue h => simp [h]
              | isFalse h' => exact absurd ⟨h, h'⟩ hskip
            have HX : Hid (seekAt a S n c k = seek a S n (c.set m k)) := by
              show _ = _
              rw [seekAt, ← HM8.out, if_neg hskip]
            clear hskip
            have hcs : (c.set m (k : Int)).length = 9 := by simpa using HC.out
            have HCS := Lib.hid hcs
            have hcl' : ∀ j : Nat, j < 9 - n → S.testBit j = true → 0 ≤ cl (c.set m (k : Int)) j ∧ cl (c.set m (k : Int)) j ≤ j := fun j hj hSj => by
              have := HM8.out; have := HN.out
              rw [cl_set HC.out (by omega) _ (by omega)]
              split
              · omega
              · exact HCL0.out j (by omega) hSj
            have HCL' := Lib.hid hcl'
            have hc8' : ∀ j : Nat, j < 9 → cl (c.set m (k : Int)) j ≤ 8 := fun j hj => by
              rw [cl_set HC.out (by omega) _ (by omega)]
              split
              · omega
              · exact HC8.out j hj
            have HC8' := Lib.hid hc8'
            clear hcl' hc8' hcs
            obtain hkm | hkm : k < m ∨ k = m := by omega
            case' inl => have h1 : (k : Int) < (m : Int) := by omega
            case' inl => have h2 := hsk2 hkm
            case' inr => have h1 : ¬ (k : Int) < (m : Int) := by omega
            all_goals
              clear hkm hsk2
              go_wp2_with (at_builtin; refine appIL (ys := c) (base := wr.heap.size) rfl _ _ rfl (v := .slice (some ⟨wr.heap.size, 0, none⟩) 0 0) rfl (IntsO.empty wr rfl) (by rw [HC.out]; rfl) (HIR.out.below bel) (by rw [HC.out]; simp) (by simp) ?_; intro A' c' w5 o5 hg5 hB6; rw [List.nil_append, HC.out] at o5 ⊢; obtain ⟨g, cur, -, rfl, hgb, kg, hcm, hset⟩ := o5.open_ (k := m) (by rw [HC.out]; omega); have qg := (kg.cell m).trans hcm; have rg := kg.frozen; have lg := kg.lt; have HSET := Lib.hid (hset k); have k5 := Blk.below (g := w.heap.size) (w := wr.alloc (.cells #[] tI)) (k0.alloc _) hB6 l0; have hB5 : Below wr.heap.size wr w5 := Below.trans bel hB6; have k6 := k5.far (p := ⟨g, m, none⟩) (by simp only; omega) (.int .i64 k); have q6 := k6.cell; clear hset o5 kg hcm q0 hg5)
              have hW : Below wr.heap.size wr (w5.setCell ⟨g, m, none⟩ (.int .i64 k)) := hB5.setCell (p := ⟨g, m, none⟩) hgb _
              have hzW := hW.size
              have hB7 : Below base w (w5.setCell ⟨g, m, none⟩ (.int .i64 k)) := Below.trans hB (btoB hW (by omega))
              have HK7 : Hid (KX w (w5.setCell ⟨g, m, none⟩ (.int .i64 k))) := KX.trans HK.out (KX.of hW)
              have hll : (outAt a S n c xss k).length + (seek a S n (c.set m (k : Int))).length ≤ 400000 := by
                have h1 := HLN.out
                have h2 := outAt_len (a := a) (S := S) (n := n) (c := c) (xss := xss) (k := k) (N := 9 - n) (by have := HM8.out; have := HN.out; omega)
                rw [E.out] at h1
                rw [HX.out] at h2
                omega
              have ih1 := IH.out (c.set m (k : Int)) _ c' wr.heap.size _ vs' (outAt a S n c xss k) O' oc' (by have := HN.out; omega) HCS.out HCL'.out HC8'.out (hV.out.keepB hB7 hhi) (HTT.out.keepB hB7 hhi2) HSET.out (HS.out.below hW) (by omega) hll
              rw [E1.out] at ih1
              refine ih1.mono ?_
              clear ih1 q6 k5 qg rg hll
              rintro e w8 ⟨r, vs8, rfl, h8, hK8, hB8⟩
              obtain ⟨O8, d8, rfl⟩ := h8.form
              have HE : outAt a S n c xss k ++ seek a S n (c.set m (k : Int)) = outAt a S n c xss (k + 1) := by rw [HNX.out, HX.out]
              rw [HE] at h8 ⊢
              have H8 := Lib.hid h8
              have k8 := hK8.blk k6 (by decide)
              have HK8 := Lib.hid (KX.trans HK7.out hK8)
              have hBn := Below.trans hB7 hB8
              clear h8 hB8 hK8 k6 hB7 hB5 hB6 hW HE
              go_wp2_with fail
              go_round
              case rel => exact ⟨k + 1, O8, d8, vs8, by omega, by go_num, rfl, H8, HK8, k8, hBn⟩
              case measure => simp [intOf]; omega
        · obtain rfl : k = m + 1 := by omega
          have E2 : Hid (xss ++ seek a S (n + 1) c = outAt a S n c xss (m + 1)) := by show _ = _; rw [E.out, show 9 - n = m + 1 from by have := HM8.out; have := HN.out; omega]; rfl
          go_wp2_with fail
          go_ret
          exact ⟨_, vs', rfl, by rw [E2.out]; exact HS.out, HK.out, hB⟩

--@ spec.l5All
set_option maxRecDepth 100000 in
set_option maxHeartbeats 3200000 in
theorem c_spec_l5All {a : Asn} {S lo hi lo2 hi2 : Nat} {A1 A2 : Option Addr} {d1 d2 : Nat} (T : Option Addr) (tc : Nat) (w : World) (hv : a.valid = true) (h : AsnV w lo hi (.agg #[.slice A1 a.facts.length d1, .slice A2 a.atoms.length d2]) a) (hT : BoolsV w lo2 hi2 T (flagsOf S)) (hhi : hi ≤ w.heap.size) (hhi2 : hi2 ≤ w.heap.size) (hlen : (seek a S 8 opened).length ≤ 400000) :
    Calls Try.prog 88 #[.agg #[.slice A1 a.facts.length d1, .slice A2 a.atoms.length d2], .slice T 9 tc] w fun e w' => ∃ r, e = .returned r ∧ IntSSO w' w.heap.size r (seek a S 8 opened) ∧ Below w.heap.size w w' := by
  have hV := Lib.hid h
  have HTT := Lib.hid hT
  have HLN := Lib.hid hlen
  have HOP := Lib.hid openedB
  have HVV := Lib.hid hv
  clear h hT hlen hv
  go_enter Try.func88, Try.ntmps88
  have k0 := Blk.new w tAs #[.slice A1 a.facts.length d1, .slice A2 a.atoms.length d2]
  go_wp2_with fail
  refine wp_region_noPanic ?_
  refine wp_region_held_drew (S := (fun w' => ∀ i, w'.cell? ⟨w.heap.size, i, none⟩ = #[.slice A1 a.facts.length d1, .slice A2 a.atoms.length d2][i]?)) (by kernel_rfl) (Blk.cell blks) (fun hHeld => ?_)
  refine wpAnyH_take (i := 1) (v := ?_) rfl (by kernel_rfl) (by kernel_rfl) (by kernel_rfl) (fun _ _ _ h => h) (Or.inl ⟨by rfl, fun w hSw => ?_⟩) hHeld ?_
  rotate_left
  · ((try dsimp only at hSw); go_split_ands; go_simp; (try with_reducible rfl))
  try simp only [Act.put, List.getElem_toArray, List.getElem_cons_zero, List.getElem_cons_succ, List.setIfInBounds_toArray, List.set_cons_zero, List.set_cons_succ]
  refine wpAnyH_take (i := 2) (v := ?_) rfl (by kernel_rfl) (by kernel_rfl) (by kernel_rfl) (fun _ _ _ h => h) (Or.inl ⟨by rfl, fun w hSw => ?_⟩) hHeld ?_
  rotate_left
  · ((try dsimp only at hSw); go_split_ands; go_simp; (try with_reducible rfl))
  try simp only [Act.put, List.getElem_toArray, List.getElem_cons_zero, List.getElem_cons_succ, List.setIfInBounds_toArray, List.set_cons_zero, List.set_cons_succ]
  obtain ⟨X, hX⟩ : ∃ X, X = (w.alloc (.cells #[.slice A1 a.facts.length d1, .slice A2 a.atoms.length d2] tAs)).drew := ⟨_, rfl⟩
  have hBX : Below w.heap.size w X := by rw [hX]; exact bel
  have kX : Blk X w.heap.size tAs #[.slice A1 a.facts.length d1, .slice A2 a.atoms.length d2] := by rw [hX]; exact blks
  rw [← hX] at hHeld ⊢
  clear hX k0
  have hzX := hBX.size
  refine wpAnyH_ready (rs := [0, 3]) (by kernel_rfl) (by simp) ?_
  refine AllReadyH.cons rfl (fun K hK => ?_) (AllReadyH.cons rfl (fun K hK => ?_) AllReadyH.nil)
  · go_simp
    refine hK.out _ _ (Blk.cell blks) (fun hHeldN => ?_)
    clear hHeld hK K
    have hHeld := hHeldN
    clear hHeldN
    try simp only [Act.put, List.getElem_toArray, List.getElem_cons_zero, List.getElem_cons_succ, List.setIfInBounds_toArray, List.set_cons_zero, List.set_cons_succ]
    refine wpAnyH_ready (rs := [3]) (by kernel_rfl) (by simp) ?_
    refine AllReadyH.cons rfl (fun K hK => ?_) AllReadyH.nil
    try simp only [List.getElem_toArray, List.getElem_cons_zero, List.getElem_cons_succ]
    (go_simp; refine (c_spec_l5Open _).mono ?_; rintro e w4 ⟨r4, rfl, o4, hB4⟩; obtain ⟨Cb, cc, rfl, -⟩ := o4.reads; have hB := bgo (w := w) bel hB4; have o0 := ((SSO.empty X rfl).below hB4).lower (base' := w.heap.size) (by omega); have hz4 := hB.size; replace kX := Blk.next (g := w.heap.size) blks hB4)
    refine hK.out _ _ (Blk.cell blks) (fun hHeldN => ?_)
    clear hHeld hK K
    have hHeld := hHeldN
    clear hHeldN
    try simp only [Act.put, List.getElem_toArray, List.getElem_cons_zero, List.getElem_cons_succ, List.setIfInBounds_toArray, List.set_cons_zero, List.set_cons_succ]
    refine wpAnyH_ready (rs := [4]) (by kernel_rfl) (by simp) ?_
    refine AllReadyH.cons rfl (fun K hK => ?_) AllReadyH.nil
    try simp only [List.getElem_toArray, List.getElem_cons_zero, List.getElem_cons_succ]
    (go_simp; refine (c_spec_l5Cases (base := w.heap.size) T tc HVV.out hhi hhi2 8 opened Cb cc _ _ [] [] _ _ (by omega) rfl (HOP.out.2 _) HOP.out.1 (hV.out.below bel) (HTT.out.below bel) o4 o0 hz4 (by simpa using HLN.out)).mono ?_; rintro e w5 ⟨r5, vs5, rfl, o5, hK5, hB5⟩; replace kX := hK5.blk kX (by decide); have hBB := Below.trans (btoB hB (Nat.le_refl _)) hB5)
    refine hK.out _ _ (Blk.cell blks) (fun hHeldN => ?_)
    clear hHeld hK K
    have hHeld := hHeldN
    clear hHeldN
    try simp only [Act.put, List.getElem_toArray, List.getElem_cons_zero, List.getElem_cons_succ, List.setIfInBounds_toArray, List.set_cons_zero, List.set_cons_succ]
    refine wpAnyH_take (i := 5) (v := ?_) rfl (by kernel_rfl) (by kernel_rfl) (by kernel_rfl) (fun _ _ _ h => h) (Or.inl ⟨by rfl, fun w hSw => ?_⟩) hHeld ?_
    rotate_left
    · ((try dsimp only at hSw); go_split_ands; go_simp; (try with_reducible rfl))
    try simp only [Act.put, List.getElem_toArray, List.getElem_cons_zero, List.getElem_cons_succ, List.setIfInBounds_toArray, List.set_cons_zero, List.set_cons_succ]
    refine wpAnyH_done (by kernel_rfl) ?_ _
    refine NoPanic.normal ?_
    go_wp2_with fail
    go_ret
    exact ⟨r5, rfl, ⟨vs5, by simpa using o5⟩, hBB⟩
  · go_simp
    refine (c_spec_l5Open _).mono ?_
    rintro e w4 ⟨r4, rfl, o4, hB4⟩
    obtain ⟨Cb, cc, rfl, -⟩ := o4.reads
    have hB := bgo (w := w) bel hB4
    have hz4 := hB.size
    replace kX := Blk.next (g := w.heap.size) blks hB4
    refine hK.out _ _ (Blk.cell blks) (fun hHeldN => ?_)
    clear hHeld hK K
    have hHeld := hHeldN
    clear hHeldN
    try simp only [Act.put, List.getElem_toArray, List.getElem_cons_zero, List.getElem_cons_succ, List.setIfInBounds_toArray, List.set_cons_zero, List.set_cons_succ]
    refine wpAnyH_ready (rs := [0]) (by kernel_rfl) (by simp) ?_
    refine AllReadyH.cons rfl (fun K hK => ?_) AllReadyH.nil
    try simp only [List.getElem_toArray, List.getElem_cons_zero, List.getElem_cons_succ]
    (go_simp; have o0 := (SSO.empty w4 rfl).lower (base' := w.heap.size) (by omega); have o4' := IntsO.below o4 (w' := w4.alloc (.cells #[] tIS)) bel)
    refine hK.out _ _ (Blk.cell blks) (fun hHeldN => ?_)
    clear hHeld hK K
    have hHeld := hHeldN
    clear hHeldN
    try simp only [Act.put, List.getElem_toArray, List.getElem_cons_zero, List.getElem_cons_succ, List.setIfInBounds_toArray, List.set_cons_zero, List.set_cons_succ]
    refine wpAnyH_ready (rs := [4]) (by kernel_rfl) (by simp) ?_
    refine AllReadyH.cons rfl (fun K hK => ?_) AllReadyH.nil
    try simp only [List.getElem_toArray, List.getElem_cons_zero, List.getElem_cons_succ]
    (go_simp; refine (c_spec_l5Cases (base := w.heap.size) T tc HVV.out hhi hhi2 8 opened Cb cc _ _ [] [] _ _ (by omega) rfl (HOP.out.2 _) HOP.out.1 (hV.out.below bel) (HTT.out.below bel) o4' o0 (by simp; omega) (by simpa using HLN.out)).mono ?_; rintro e w5 ⟨r5, vs5, rfl, o5, hK5, hB5⟩; replace kX := hK5.blk (kX.alloc _) (by decide); have hBB := Below.trans (btoB (w := w) bel (Nat.le_refl _)) hB5)
    refine hK.out _ _ (Blk.cell blks) (fun hHeldN => ?_)
    clear hHeld hK K
    have hHeld := hHeldN
    clear hHeldN
    try simp only [Act.put, List.getElem_toArray, List.getElem_cons_zero, List.getElem_cons_succ, List.setIfInBounds_toArray, List.set_cons_zero, List.set_cons_succ]
    refine wpAnyH_take (i := 5) (v := ?_) rfl (by kernel_rfl) (by kernel_rfl) (by kernel_rfl) (fun _ _ _ h => h) (Or.inl ⟨by rfl, fun w hSw => ?_⟩) hHeld ?_
    rotate_left
    · ((try dsimp only at hSw); go_split_ands; go_simp; (try with_reducible rfl))
    try simp only [Act.put, List.getElem_toArray, List.getElem_cons_zero, List.getElem_cons_succ, List.setIfInBounds_toArray, List.set_cons_zero, List.set_cons_succ]
    refine wpAnyH_done (by kernel_rfl) ?_ _
    refine NoPanic.normal ?_
    go_wp2_with fail
    go_ret
    exact ⟨r5, rfl, ⟨vs5, by simpa using o5⟩, hBB⟩

--@ spec.CasesOf
set_option maxRecDepth 100000 in
set_option maxHeartbeats 3200000 in
theorem c_spec_CasesOf {lo hi : Nat} (v : Value) (a : Asn) (w : World) (h : AsnV w lo hi v a) (hhi : hi ≤ w.heap.size) :
    Calls Try.prog 42 #[v] w fun e w' => ∃ r, e = .returned r ∧ IntSSR w' w.heap.size r (casesV a) ∧ Below w.heap.size w w' := by
  have hV := Lib.hid h
  obtain ⟨A1, c1, A2, c2, rfl, -, -⟩ := h
  go_enter Try.func42, Try.ntmps42
  go_wp2_with fail
  refine (c_spec_AssertionValid _ a _ (hV.out.below bel)).mono ?_
  rintro e w1 ⟨rfl, hB1⟩
  have k0 : Blk w1 w.heap.size tAs #[.slice A1 a.facts.length c1, .slice A2 a.atoms.length c2] := Blk.next blks hB1
  have hB : Below w.heap.size w w1 := bgo (w := w) bel hB1
  clear hB1
  have q0 := k0.cell
  have l0 := k0.lt
  have HTOT := Lib.hid (casesV_tot a)
  cases hv : a.valid
  · have E : Hid (casesV a = []) := by show _ = _; unfold casesV; rw [hv]; rfl
    go_wp2_with fail
    go_ret
    exact ⟨_, rfl, ⟨⟨[], by rw [E.out]; exact (SSO.empty w1 rfl).lower (by omega)⟩, HTOT.out⟩, bel⟩
  · have E : Hid (casesV a = cases a (caseS a 0)) := by show _ = _; unfold casesV; rw [if_pos hv]
    have HV := Lib.hid hv
    have HT := Lib.hid (termsL_ok hv)
    have HS := Lib.hid (seek_terms hv)
    have HLN : Hid ((seek a (tset (termsL a)) 8 opened).length ≤ 400000) := by
      show _ ≤ _
      rw [HS.out]
      exact Nat.le_trans (cases_len a _) (by omega)
    clear hv
    go_wp2_with fail
    refine wp_region_noPanic ?_
    refine wp_region_held_drew (S := (fun w' => ∀ i, w'.cell? ⟨w.heap.size, i, none⟩ = #[.slice A1 a.facts.length c1, .slice A2 a.atoms.length c2][i]?)) (by kernel_rfl) (Blk.cell blks) (fun hHeld => ?_)
    refine wpAnyH_take (i := 0) (v := ?_) rfl (by kernel_rfl) (by kernel_rfl) (by kernel_rfl) (fun _ _ _ h => h) (Or.inl ⟨by rfl, fun w hSw => ?_⟩) hHeld ?_
    rotate_left
    · ((try dsimp only at hSw); go_split_ands; go_simp; (try with_reducible rfl))
    try simp only [Act.put, List.getElem_toArray, List.getElem_cons_zero, List.getElem_cons_succ, List.setIfInBounds_toArray, List.set_cons_zero, List.set_cons_succ]
    refine wpAnyH_take (i := 1) (v := ?_) rfl (by kernel_rfl) (by kernel_rfl) (by kernel_rfl) (fun _ _ _ h => h) (Or.inl ⟨by rfl, fun w hSw => ?_⟩) hHeld ?_
    rotate_left
    · ((try dsimp only at hSw); go_split_ands; go_simp; (try with_reducible rfl))
    try simp only [Act.put, List.getElem_toArray, List.getElem_cons_zero, List.getElem_cons_succ, List.setIfInBounds_toArray, List.set_cons_zero, List.set_cons_succ]
    refine wpAnyH_ready (rs := [2]) (by kernel_rfl) (by simp) ?_
    refine AllReadyH.cons rfl (fun K hK => ?_) AllReadyH.nil
    try simp only [List.getElem_toArray, List.getElem_cons_zero, List.getElem_cons_succ]
    (go_simp; refine (c_spec_l3Terms _ a _ (hV.out.below bel) HT.out).mono ?_; rintro e w3 ⟨r3, rfl, o3, hB3⟩; obtain ⟨Tb, ct, rfl, fT⟩ := o3.reads; rw [flagsOf_length]; have hB' := bgo (w := w) bel hB3; have hz3 := hB'.size; replace k0 := Blk.next (g := w.heap.size) blks hB3)
    refine hK.out _ _ (Blk.cell blks) (fun hHeldN => ?_)
    clear hHeld hK K
    have hHeld := hHeldN
    clear hHeldN
    try simp only [Act.put, List.getElem_toArray, List.getElem_cons_zero, List.getElem_cons_succ, List.setIfInBounds_toArray, List.set_cons_zero, List.set_cons_succ]
    refine wpAnyH_ready (rs := [3]) (by kernel_rfl) (by simp) ?_
    refine AllReadyH.cons rfl (fun K hK => ?_) AllReadyH.nil
    try simp only [List.getElem_toArray, List.getElem_cons_zero, List.getElem_cons_succ]
    (go_simp; refine (c_spec_l5All Tb ct _ HV.out (hV.out.below bel) fT (by omega) (Nat.le_refl _) HLN.out).mono ?_; rintro e w5 ⟨r5, rfl, o5, hB5⟩; have hB6 := bgo (w := w) bel hB5; replace k0 := Blk.next (g := w.heap.size) blks hB5)
    refine hK.out _ _ (Blk.cell blks) (fun hHeldN => ?_)
    clear hHeld hK K
    have hHeld := hHeldN
    clear hHeldN
    try simp only [Act.put, List.getElem_toArray, List.getElem_cons_zero, List.getElem_cons_succ, List.setIfInBounds_toArray, List.set_cons_zero, List.set_cons_succ]
    refine wpAnyH_take (i := 4) (v := ?_) rfl (by kernel_rfl) (by kernel_rfl) (by kernel_rfl) (fun _ _ _ h => h) (Or.inl ⟨by rfl, fun w hSw => ?_⟩) hHeld ?_
    rotate_left
    · ((try dsimp only at hSw); go_split_ands; go_simp; (try with_reducible rfl))
    try simp only [Act.put, List.getElem_toArray, List.getElem_cons_zero, List.getElem_cons_succ, List.setIfInBounds_toArray, List.set_cons_zero, List.set_cons_succ]
    refine wpAnyH_done (by kernel_rfl) ?_ _
    refine NoPanic.normal ?_
    go_wp2_with fail
    go_ret
    refine ⟨r5, rfl, ⟨?_, HTOT.out⟩, hB6⟩
    rw [E.out, ← HS.out]
    exact o5.lower hz3
end Go.Proofs.Yteogcababfenfaa
