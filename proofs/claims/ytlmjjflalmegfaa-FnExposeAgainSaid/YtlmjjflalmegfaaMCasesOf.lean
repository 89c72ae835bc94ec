/- Lists of lists of numbers: words, appends, comparison, marks. -/
import Derived.Test.YtlmjjflalmegfaaMKit
import Derived.Test.YtlmjjflalmegfaaAlloc
import Derived.Test.YtlmjjflalmegfaaRange
import Derived.Test.YtlmjjflalmegfaaCons
set_option linter.unusedSimpArgs false
set_option linter.unusedVariables false
namespace Go.Proofs.Ytlmjjflalmegfaa
open Go Go.RowKit Go.Proofs

--@ [][]int
abbrev tIS : Nat := 26
theorem infoIS : (Try.prog.info? tIS).map (fun i => (i.zero, i.size, i.bytes)) = some (some (.slice none 0 0), 1, 24) := by kernel_rfl
def tot (xss : List (List Int)) : Nat := (xss.map List.length).sum
/-- a row of our own of slices of our own, no two of which share a block -/
structure SSO (w : World) (base : Nat) (v : Value) (vs : List Value) (xss : List (List Int)) : Prop where
  row : w.ownsRow base tIS 1 v vs.length vs
  lim : Lim vs.length
  len : vs.length = xss.length
  at_ : ∀ (k : Nat) (h : k < vs.length) (h' : k < xss.length), IntsO w base vs[k] xss[k]
  apart : ∀ (i j : Nat) (hi : i < vs.length) (hj : j < vs.length), i < j → ∀ g, vs[i].ownBlock = some g → vs[j].ownBlock ≠ some g
def IntSSO (w : World) (base : Nat) (v : Value) (xss : List (List Int)) : Prop := ∃ vs, SSO w base v vs xss
section
variable {w w' : World} {base base' : Nat} {v : Value} {vs : List Value} {xss : List (List Int)}
theorem SSO.below (h : SSO w base v vs xss) (hb : Below w.heap.size w w') : SSO w' base v vs xss := ⟨own_below h.row hb, h.lim, h.len, fun k h1 h2 => (h.at_ k h1 h2).below hb, h.apart⟩
theorem IntSSO.below (h : IntSSO w base v xss) (hb : Below w.heap.size w w') : IntSSO w' base v xss := by obtain ⟨vs, h⟩ := h; exact ⟨vs, h.below hb⟩
theorem SSO.lower (h : SSO w base v vs xss) (hb : base' ≤ base) : SSO w base' v vs xss := ⟨own_lower h.row hb, h.lim, h.len, fun k h1 h2 => (h.at_ k h1 h2).lower hb, h.apart⟩
theorem IntSSO.lower (h : IntSSO w base v xss) (hb : base' ≤ base) : IntSSO w base' v xss := by obtain ⟨vs, h⟩ := h; exact ⟨vs, h.lower hb⟩
theorem SSO.nil (w : World) (base : Nat) : SSO w base (.slice none 0 0) [] [] := ⟨World.ownsRow_nil _ _ _ _, by simp [Lim], rfl, fun k h => absurd h (by simp), fun i j h => absurd h (by simp)⟩
theorem SSO.empty (w : World) {g : Nat} (hg : g = w.heap.size) : SSO (w.alloc (.cells #[] tIS)) g (.slice (some ⟨g, 0, none⟩) 0 0) [] [] := by
  subst hg
  exact ⟨own_empty w _ _, by simp [Lim], rfl, fun k h => absurd h (by simp), fun i j h => absurd h (by simp)⟩
theorem SSO.form (h : SSO w base v vs xss) : ∃ A c, v = .slice A xss.length c := by
  obtain ⟨A, c, e, -⟩ := own_reads h.row h.lim
  exact ⟨A, c, by rw [e, h.len]⟩
theorem IntSSO.form (h : IntSSO w base v xss) : ∃ A c, v = .slice A xss.length c := by obtain ⟨vs, h⟩ := h; exact h.form
theorem own_turn {w w' : World} {T : TypeId} {B base size n : Nat} {e : TypeId} {v : Value} {xs : List Value} {row : Option Nat} (h : w.ownsRow base e size v n xs) (hg : w.grownBy w' row) (hr : Turn T B w row) (ht : e ≠ T) : w'.ownsRow base e size v n xs := by
  obtain ⟨h1, h2⟩ := h
  refine ⟨h1, ?_⟩
  rcases h2 with h2 | ⟨k, cap, cur, hv, hg', hh, r⟩
  · exact Or.inl h2
  · exact Or.inr ⟨k, cap, cur, hv, hg', Blk.turn (g := k) hh hg hr (Or.inl ht), r⟩
theorem SSO.turn {T : TypeId} {B : Nat} {row : Option Nat} (h : SSO w base v vs xss) (hg : w.grownBy w' row) (hr : Turn T B w row) (h1 : tIS ≠ T) (h2 : tI ≠ T) : SSO w' base v vs xss :=
  ⟨own_turn h.row hg hr h1, h.lim, h.len, fun k a b => ⟨own_turn (h.at_ k a b).1 hg hr h2, (h.at_ k a b).2⟩, h.apart⟩
theorem SSO.setT (h : SSO w base v vs xss) {g : Nat} {t : TypeId} {cs : Array Value} (hk : Blk w g t cs) (h1 : t ≠ tIS) (h2 : t ≠ tI) (i : Nat) (u : Value) : SSO (w.setCell ⟨g, i, none⟩ u) base v vs xss :=
  ⟨own_setT h.row hk h1 i u, h.lim, h.len, fun k a b => (h.at_ k a b).setT hk h2 i u, h.apart⟩
/-- one more slice behind the others: w1 holds the new inner list; the append leads to w' -/
theorem SSO.snoc {w1 : World} {sv v' : Value} {ys : List Int} (h : SSO w base v vs xss) (hb : Below w.heap.size w w1) (hn : IntsO w1 w.heap.size sv ys) (hbase : base ≤ w.heap.size) (hl : vs.length + 1 ≤ 1049600)
    (hg : w1.grownBy w' v.ownBlock) (hr : w'.ownsRow base tIS 1 v' (vs.length + 1) (vs ++ [sv])) : SSO w' base v' (vs ++ [sv]) (xss ++ [ys]) := by
  have hrow1 := own_below h.row hb
  refine ⟨by simpa using hr, by simp [Lim]; omega, by simp [h.len], fun k h1 h2 => ?_, fun i j hi hj hij g hgi hgj => ?_⟩
  · by_cases e : k < vs.length
    · have e' : k < xss.length := by rw [← h.len]; exact e
      simp only [List.getElem_append, e, e', dite_true]
      exact ⟨own_grownO ((h.at_ k e e').below hb).1 hrow1 hg (by decide), (h.at_ k e e').2⟩
    · have hk : k = vs.length := by simp at h1; omega
      have e' : ¬ k < xss.length := by rw [← h.len]; exact e
      simp only [List.getElem_append, e, e', dite_false, List.getElem_singleton]
      exact ⟨(own_lower (own_grownO hn.1 hrow1 hg (by decide)) hbase), hn.2⟩
  · by_cases ej : j < vs.length
    · have ei : i < vs.length := by omega
      simp only [List.getElem_append, ei, ej, dite_true] at hgi hgj
      exact h.apart i j ei ej hij g hgi hgj
    · have hj' : j = vs.length := by simp at hj; omega
      have ei : i < vs.length := by omega
      simp only [List.getElem_append, ei, ej, dite_true, dite_false, List.getElem_singleton] at hgi hgj
      have e1 := ((h.at_ i ei (by rw [← h.len]; exact ei)).1.lt g hgi).2
      have e2 := (hn.1.lt g hgj).1
      omega

/-- a slice of slices that reads as lists of numbers -/
def IntSSV (w : World) (lo hi : Nat) (A : Option Addr) (xss : List (List Int)) : Prop :=
  ∃ vs : List Value, Rd w lo hi 1 A xss.length vs ∧ ∀ (k : Nat) (h : k < vs.length) (h' : k < xss.length), ∃ B c, vs[k] = .slice B xss[k].length c ∧ IntsV w lo hi B xss[k]
theorem IntSSV.below {lo hi : Nat} {A : Option Addr} (h : IntSSV w lo hi A xss) (hb : Below w.heap.size w w') : IntSSV w' lo hi A xss := by
  obtain ⟨vs, h1, h2⟩ := h
  exact ⟨vs, h1.below hb, fun k a b => by obtain ⟨B, c, e, h3⟩ := h2 k a b; exact ⟨B, c, e, h3.below hb⟩⟩
theorem IntSSV.at {lo hi : Nat} {A : Option Addr} (h : IntSSV w lo hi A xss) {k : Nat} (hk : k < xss.length) : ∃ b o B c, A = some ⟨b, o, none⟩ ∧ b < w.heap.size ∧ w.cell? ⟨b, o + k, none⟩ = some (.slice B xss[k].length c) ∧ IntsV w lo hi B xss[k] := by
  obtain ⟨vs, h1, h2⟩ := h
  have hl : vs.length = xss.length := by have := h1.raw.1; omega
  obtain ⟨b, o, u, e, -, -, hu, hc⟩ := h1.raw.at1 hk
  obtain ⟨B, c, e2, h3⟩ := h2 k (by omega) hk
  rw [List.getElem?_eq_getElem (by omega)] at hu
  refine ⟨b, o, B, c, e, block_lt_of_cell hc, ?_, h3⟩
  rw [hc, ← Option.some.inj hu, e2]
theorem SSO.reads {A : Option Addr} {n c : Nat} (h : SSO w base (.slice A n c) vs xss) : n = xss.length ∧ IntSSV w base w.heap.size A xss := by
  obtain ⟨A', c', e, h1⟩ := own_reads h.row h.lim
  injection e with e1 e2 e3
  subst e1
  refine ⟨by rw [e2, h.len], vs, by rw [← h.len]; exact h1, fun k a b => ?_⟩
  obtain ⟨B, d, e, h3⟩ := (h.at_ k a b).reads
  exact ⟨B, d, e, h3⟩
end
/-- the word for the exact laws: a bound on all the numbers, blocks of an interval -/
def IntSSI (w : World) (lo hi : Nat) (v : Value) (xss : List (List Int)) : Prop := ∃ vs, SSO w lo v vs xss ∧ Und v hi ∧ (∀ (k : Nat) (h : k < vs.length), Und vs[k] hi) ∧ tot xss ≤ 16777216
section
variable {w w' : World} {lo hi a b : Nat} {v : Value} {xss : List (List Int)}
theorem IntSSO.I' {base : Nat} (h : IntSSO w base v xss) (hb : tot xss ≤ 16777216) : IntSSI w base w.heap.size v xss := by
  obtain ⟨vs, h⟩ := h
  exact ⟨vs, h, fun g hg => (h.row.lt g hg).2, fun k hk g hg => ((h.at_ k hk (by rw [← h.len]; exact hk)).1.lt g hg).2, hb⟩
/-- contracts hand this word over -/
def IntSSR (w : World) (base : Nat) (v : Value) (xss : List (List Int)) : Prop := IntSSO w base v xss ∧ tot xss ≤ 16777216
theorem IntSSR.I {base : Nat} (h : IntSSR w base v xss) : IntSSI w base w.heap.size v xss := h.1.I' h.2
theorem IntSSI.below (h : IntSSI w lo hi v xss) (hb : Below w.heap.size w w') : IntSSI w' lo hi v xss := by
  obtain ⟨vs, h1, h2⟩ := h; exact ⟨vs, h1.below hb, h2⟩
theorem IntSSI.mk (h : IntSSI w lo hi v xss) (hb : Mk (fun g => a ≤ g ∧ g < b) w w') (hd : hi ≤ a ∨ b ≤ lo) : IntSSI w' lo hi v xss := by
  obtain ⟨vs, h1, h2, h3, h4⟩ := h
  refine ⟨vs, ⟨own_mk h1.row hb fun g hg hp => by have := und_range h1.row h2 g hg; omega, h1.lim, h1.len, fun k x y => ?_, h1.apart⟩, h2, h3, h4⟩
  exact (h1.at_ k x y).mk hb fun g hg hp => by have := und_range (h1.at_ k x y).1 (h3 k x) g hg; omega
theorem IntSSI.form (h : IntSSI w lo hi v xss) : ∃ A c, v = .slice A xss.length c := by obtain ⟨vs, h1, -⟩ := h; exact h1.form
theorem IntSSI.reads {A : Option Addr} {n c : Nat} (h : IntSSI w lo hi (.slice A n c) xss) : IntSSV w lo w.heap.size A xss := by obtain ⟨vs, h1, -⟩ := h; exact h1.reads.2
theorem IntSSI.len (h : IntSSI w lo hi v xss) : xss.length ≤ 1049600 ∧ tot xss ≤ 16777216 := by obtain ⟨vs, h1, -, -, h4⟩ := h; exact ⟨by rw [← h1.len]; exact h1.lim, h4⟩
end
theorem tot_cons (xs : List Int) (xss : List (List Int)) : tot (xs :: xss) = xs.length + tot xss := by simp [tot]
def markSS : Int → List (List Int) → List (List Int)
  | _, [] => []
  | k, xs :: xss => iota k xs.length :: markSS (k + xs.length) xss
theorem markSS_len : ∀ (k : Int) (xss : List (List Int)), (markSS k xss).length = xss.length
  | _, [] => rfl
  | k, xs :: xss => by simp [markSS, markSS_len]
/-- the marks of the first n lists, the others as they were -/
def markTo (k : Int) (xss : List (List Int)) (n : Nat) : List (List Int) := markSS k (xss.take n) ++ xss.drop n
theorem tot_append (xs ys : List (List Int)) : tot (xs ++ ys) = tot xs + tot ys := by simp [tot]
theorem tot_markSS : ∀ (k : Int) (xss : List (List Int)), tot (markSS k xss) = tot xss
  | _, [] => rfl
  | k, xs :: xss => by simp only [markSS, tot_cons, iota_length, tot_markSS]
theorem markSS_append : ∀ (k : Int) (xs ys : List (List Int)), markSS k (xs ++ ys) = markSS k xs ++ markSS (k + tot xs) ys
  | k, [], ys => by simp [markSS, tot]
  | k, x :: xs, ys => by
    simp only [List.cons_append, markSS, markSS_append, tot_cons]
    congr 3
    omega

--@ laws.eqIntSS
--@ laws.markIntSS
theorem SSO.at {w : World} {base n c k : Nat} {A : Option Addr} {vs : List Value} {xss : List (List Int)} (h : SSO w base (.slice A n c) vs xss) (hk : k < xss.length) (hk' : k < vs.length) : ∃ b o B d, A = some ⟨b, o, none⟩ ∧ b < w.heap.size ∧ w.cell? ⟨b, o + k, none⟩ = some (.slice B xss[k].length d) ∧ vs[k] = .slice B xss[k].length d := by
  obtain ⟨A', c', e, h1⟩ := own_reads h.row h.lim
  injection e with e1 e2 e3
  subst e1
  obtain ⟨b, o, u, e, -, -, hu, hc⟩ := h1.raw.at1 hk'
  obtain ⟨B, d, e2, -⟩ := (h.at_ k hk' hk).reads
  rw [List.getElem?_eq_getElem hk'] at hu
  exact ⟨b, o, B, d, e, block_lt_of_cell hc, by rw [hc, ← Option.some.inj hu, e2], e2⟩
theorem own_ne {w : World} {b b' s s' n n' : Nat} {e e' : TypeId} {v v' : Value} {xs xs' : List Value} (h : w.ownsRow b e s v n xs) (h' : w.ownsRow b' e' s' v' n' xs') (ht : e ≠ e') : ∀ g, v.ownBlock = some g → v'.ownBlock ≠ some g := by
  intro g hg hg'
  rcases h.2 with ⟨rfl, -⟩ | ⟨k, cap, cur, rfl, -, hh, -⟩
  · cases hg
  · rcases h'.2 with ⟨rfl, -⟩ | ⟨k', cap', cur', rfl, -, hh', -⟩
    · cases hg'
    · have e1 : k = g := by simpa [Value.ownBlock] using hg
      have e2 : k' = g := by simpa [Value.ownBlock] using hg'
      subst e1; subst e2
      exact (Blk.ne_ (g := k') hh hh' ht) rfl
theorem SSO.update {w w' : World} {base n : Nat} {v : Value} {vs : List Value} {xss : List (List Int)} (h : SSO w base v vs xss) (hn : n < vs.length) (hx : n < xss.length) {ys : List Int} (hy : IntsO w' base vs[n] ys) (hM : Mk (fun g => vs[n].ownBlock = some g) w w') : SSO w' base v vs (xss.set n ys) := by
  refine ⟨own_mk h.row hM fun g hg hp => own_ne h.row (h.at_ n hn hx).1 (by decide) g hg hp, h.lim, by simp [h.len], fun k h1 h2 => ?_, h.apart⟩
  have h2' : k < xss.length := by simpa using h2
  by_cases e : n = k
  · subst e; simpa using hy
  · rw [List.getElem_set_ne e]
    refine (h.at_ k h1 h2').mk hM fun g hg hp => ?_
    rcases Nat.lt_or_gt_of_ne e with hlt | hlt
    · exact h.apart n k hn h1 hlt g hp hg
    · exact h.apart k n h1 hn hlt g hg hp
theorem set_mid {α : Type} (L R : List α) (n : Nat) (u : α) (h : L.length = n) : (L ++ R).set n u = L ++ R.set 0 u := by subst h; simp [List.set_append]
theorem markTo_succ (k : Int) (x : List (List Int)) (n : Nat) (hn : n < x.length) : markTo k x (n + 1) = (markTo k x n).set n (iota (k + tot (x.take n)) x[n].length) := by
  have hl : (markSS k (x.take n)).length = n := by rw [markSS_len, List.length_take]; omega
  unfold markTo
  rw [List.take_succ_eq_append_getElem hn, markSS_append, List.drop_eq_getElem_cons hn, set_mid _ _ _ _ hl, List.set_cons_zero]
  simp only [markSS, List.append_assoc, List.cons_append, List.nil_append]
theorem markTo_get (k : Int) (x : List (List Int)) (n : Nat) (hn : n < x.length) (h : n < (markTo k x n).length) : (markTo k x n)[n] = x[n] := by
  have e : (markTo k x n)[n]? = some x[n] := by
    unfold markTo
    rw [List.getElem?_append_right (by rw [markSS_len, List.length_take]; omega), markSS_len]
    simp [Nat.min_eq_left (show n ≤ x.length by omega), List.getElem?_eq_getElem hn]
  rw [List.getElem?_eq_getElem h] at e
  exact Option.some.inj e
theorem markTo_len (k : Int) (x : List (List Int)) (n : Nat) (hn : n ≤ x.length) : (markTo k x n).length = x.length := by simp [markTo, markSS_len]; omega
theorem tot_take (x : List (List Int)) (n : Nat) (hn : n < x.length) : tot (x.take (n + 1)) = tot (x.take n) + x[n].length := by
  rw [List.take_succ_eq_append_getElem hn, tot_append]; simp [tot]
theorem tot_le (x : List (List Int)) (n : Nat) : tot (x.take n) ≤ tot x := by
  conv => rhs; rw [← List.take_append_drop n x, tot_append]
  omega
--@ laws.heldIntSS
theorem markSS_get (k : Int) (x : List (List Int)) (n : Nat) (hn : n < x.length) (h : n < (markSS k x).length) : (markSS k x)[n] = iota (k + tot (x.take n)) x[n].length := by
  have e : (markSS k x)[n]? = some (iota (k + tot (x.take n)) x[n].length) := by
    conv => lhs; rw [← List.take_append_drop n x, markSS_append, List.drop_eq_getElem_cons hn]
    rw [List.getElem?_append_right (by rw [markSS_len, List.length_take]; omega), markSS_len]
    simp [Nat.min_eq_left (show n ≤ x.length by omega), markSS]
  rw [List.getElem?_eq_getElem h] at e
  exact Option.some.inj e
end Go.Proofs.Ytlmjjflalmegfaa

/- Contracts: all cases: impl and spec. -/
namespace Go.Proofs.Ytlmjjflalmegfaa
open Go Go.RowKit Go.Proofs
attribute [local go_sem ↓] Go.wp_at_zero Go.wp_at_succ
attribute [local go_sem] Oper.semAt_some

/-- only blocks of slices of numbers may have turned -/
structure KX (w w' : World) : Prop where
  os : w'.os = w.os
  tape : w'.tape = w.tape
  output : w'.output = w.output
  size : w.heap.size ≤ w'.heap.size
  keep : ∀ (k : Nat) (o : Obj), w.heap[k]? = some o → (∀ cs, o ≠ .cells cs tIS (0, 0)) → w'.heap[k]? = some o
section
variable {w w' w1 : World}
theorem KX.of (h : Below w.heap.size w w') : KX w w' := ⟨h.os, h.tape, h.output, h.size, fun k o hk _ => (h.block k (Array.getElem?_eq_some_iff.1 hk).1).trans hk⟩
theorem KX.trans (h : KX w w1) (k : KX w1 w') : KX w w' := ⟨k.os.trans h.os, k.tape.trans h.tape, k.output.trans h.output, Nat.le_trans h.size k.size, fun i o hi ho => k.keep i o (h.keep i o hi ho) ho⟩
theorem KX.set (h : KX w w1) {p : Addr} (hp : w.heap.size ≤ p.block) (u : Value) : KX w (w1.setCell p u) :=
  ⟨h.os, h.tape, h.output, by have := h.size; simpa using this, fun k o hk ho => (Below.heap_setCell w1 p u k (by have := (Array.getElem?_eq_some_iff.1 hk).1; omega)).trans (h.keep k o hk ho)⟩
theorem KX.app {v : Value} {base n : Nat} {vs : List Value} (h : w.ownsRow base tIS 1 v n vs) (hg : w.grownBy w' v.ownBlock) : KX w w' :=
  ⟨hg.os, hg.tape, hg.output, hg.size, fun k o hk ho => (hg.block k (Array.getElem?_eq_some_iff.1 hk).1 (fun e => by
    rcases h.2 with ⟨rfl, -⟩ | ⟨g, cap, cur, rfl, -, hh, -⟩
    · cases e
    · have e1 : k = g := by simpa [Value.ownBlock] using e
      subst e1
      rw [hk] at hh
      exact ho cur (Option.some.inj hh))).trans hk⟩
theorem KX.blk (h : KX w w') {g : Nat} {t : TypeId} {cs : Array Value} (hb : Blk w g t cs) (ht : t ≠ tIS) : Blk w' g t cs := h.keep g _ hb fun c e => by injection e with _ e2; exact ht e2
theorem KX.ints (h : KX w w') {base : Nat} {v : Value} {xs : List Int} (ho : IntsO w base v xs) : IntsO w' base v xs := by
  obtain ⟨⟨h1, h2⟩, h3⟩ := ho
  refine ⟨⟨h1, ?_⟩, h3⟩
  rcases h2 with h2 | ⟨k, cap, cur, hv, hg, hh, r⟩
  · exact Or.inl h2
  · exact Or.inr ⟨k, cap, cur, hv, hg, h.blk (g := k) hh (by decide), r⟩
end
theorem KX.keeps {w w' : World} (h : KX w w') : KeepsOthers w w' := ⟨h.size, fun k o hk ho => h.keep k o hk fun cs e => by subst e; cases ho⟩
theorem KX.kept {T1 T2 : TypeId} {n₀ : Nat} {w w' : World} (h : KX w w') (hb : Below n₀ w w') (h1 : T1 ≠ tIS) (h2 : T2 ≠ tIS) : Kept T1 T2 n₀ w w' := ⟨hb, fun g t cs ht hk => h.blk hk (by rcases ht with rfl | rfl; exact h1; exact h2)⟩
section
variable {P : Program} {n : Nat}
/-- a drawn region within a round, its last store carried out behind the others -/
theorem wpIn_region_last' {Q : Exit → Act → World → Prop} {S : World → Prop} {L : List Oper} {id l : Nat} {a : Act} {w : World} (hlo : ¬ LetsOut Q) (hnd : (L.toArray.all noDefer) = true) (hne : L ≠ []) (hm : P.follows .mixedOrders = true) (hB : lastB L = true) (hS : S w.drew)
    (h : S w.drew → wpAnyH P .any (L.dropLast ++ [nopOf (L.getLast hne)]).toArray (lastQ P (L.getLast hne) Q) S L.length (Array.replicate L.length false) a w.drew) : (Code.region id L.toArray true).wpIn (Fence.wide.inRound l) n P Q a w := by
  refine wpIn_region_any hm (wpAny_in hlo hnd _ _ _ _ ?_)
  have e : L.dropLast ++ [L.getLast hne] = L := List.dropLast_concat_getLast hne
  unfold lastB at hB
  rw [List.getLast?_eq_some_getLast hne] at hB
  simp only [Bool.and_eq_true] at hB
  obtain ⟨⟨⟨⟨h1, h2⟩, h3⟩, h4⟩, h5⟩ := hB
  have hl : L.dropLast.length + 1 = L.length := by have := congrArg List.length e; simpa using this
  have es : L.toArray.size = L.dropLast.length + 1 := by rw [List.size_toArray, hl]
  rw [es]
  have key := wpAny_of_last (P := P) (S := S) (Q := Q) (md := .any) h1 h2 (by rw [e]; exact h3) (by rw [e]; exact h4) (by rw [e]; exact h5) (L.dropLast.length + 1) (Array.replicate (L.dropLast.length + 1) false) a w.drew ⟨by simp, fun j oj _ hl => (by rw [getD_replicate_false] at hl; cases hl), fun t _ ht => getD_in (by simpa using ht) (getD_replicate_false _ _)⟩ (by rw [hl]; exact h hS)
  rwa [e] at key
end

--@ (impl.termCase).list
theorem ints_case {w : World} {g : Nat} {c : List Int} (h : Blk w g tTc (case9 c)) (hc : c.length = 9) : IntsV w g (g + 1) (some ⟨g, 0, none⟩) c :=
  ⟨⟨by simp, fun _ => ⟨g, 0, rfl, Nat.le_refl _, Nat.lt_succ_self _, fun j u hu => by rw [Nat.zero_add, (h.case hc).cell]; simpa using hu⟩⟩, by rw [hc]; decide⟩
--@ impl.CasesOf
/-- the cases, as the two programs list them -/
def casesV (a : Asn) : List (List Int) := if a.valid then cases a (caseS a 0) else []
theorem flatMap_len {α β : Type} (f : α → List β) (B : Nat) : ∀ (l : List α), (∀ x ∈ l, (f x).length ≤ B) → (l.flatMap f).length ≤ l.length * B
  | [], _ => by simp
  | x :: xs, h => by
    rw [List.flatMap_cons, List.length_append, List.length_cons, Nat.succ_mul]
    have h1 := h x List.mem_cons_self
    have h2 := flatMap_len f B xs fun y hy => h y (List.mem_cons_of_mem _ hy)
    omega
def fall : Nat → Nat
  | 0 => 1
  | n + 1 => (9 - n) * fall n
theorem gen_len (S : Nat) : ∀ (n : Nat) (c : List Int), n ≤ 9 → (gen S n c).length ≤ fall n
  | 0, _, _ => by simp [gen, fall]
  | n + 1, c, hn => by
    have ih := fun c => gen_len S n c (by omega)
    unfold gen fall
    split
    · refine Nat.le_trans (flatMap_len _ (fall n) _ fun k _ => ?_) (by simp)
      split
      · simp
      · exact ih _
    · refine Nat.le_trans (ih _) ?_
      have : 1 ≤ 9 - n := by omega
      exact Nat.le_mul_of_pos_left _ this
theorem cases_len (a : Asn) (S : Nat) : (cases a S).length ≤ 362880 := Nat.le_trans (List.length_filter_le _ _) (gen_len S 9 zeros (by omega))
theorem tot_nine : ∀ (L : List (List Int)), (∀ c ∈ L, c.length = 9) → tot L = L.length * 9
  | [], _ => rfl
  | c :: L, h => by rw [tot_cons, h c List.mem_cons_self, tot_nine L fun d hd => h d (List.mem_cons_of_mem _ hd), List.length_cons]; omega
theorem cases_nine {a : Asn} {S : Nat} : ∀ c ∈ cases a S, c.length = 9 := fun c hc => CaseT.len (a := a) (S := S) ⟨c, hc⟩
theorem casesV_tot (a : Asn) : tot (casesV a) ≤ 16777216 := by
  unfold casesV
  split
  · rw [tot_nine _ cases_nine]
    have := cases_len a (caseS a 0)
    omega
  · simp [tot]
theorem slice_one (v : Value) (h : ∃ A n c, v = .slice A n c) : v.oneCell' = true := by obtain ⟨A, n, c, rfl⟩ := h; rfl
section
variable {ops : Array Oper} {rest : List Oper} {o : Oper} {a : Act} {Q : Exit → Act → World → Prop} {w w0 : World} {base : Nat} {v : Value} {vs : List Value} {xss : List (List Int)}
theorem rwS {w : World} {g : Nat} {sv : Value} (h : Blk w g tIS #[sv]) : Rw w g (g + 1) 1 (some ⟨g, 0, none⟩) 1 [sv] :=
  ⟨rfl, fun _ => ⟨g, 0, rfl, Nat.le_refl _, Nat.lt_succ_self _, fun j u hu => by
    match j, hu with
    | 0, hu => simp at hu; subst hu; exact h.cell 0⟩⟩
/-- append of one slice to a list of slices, at a step of a drawn region -/
theorem stepSS {K : Act → World → Prop} {E : Prop} (hgd : o.guard = none) (s x : Operand) (ho : o.op = .call { callee := .builtin .append, args := #[s, x], argTypes := #[141, 141] })
    (hs : a.eval s = v) (h0 : SSO w0 base v vs xss) (hb0 : Below w0.heap.size w0 w) (hbase : base ≤ w0.heap.size) {g : Nat} {A : Option Addr} {n c : Nat} {ys : List Int} (hy : IntsO w w0.heap.size (.slice A n c) ys) (hg : Blk w g tIS #[.slice A n c]) (hx : a.eval x = .slice (some ⟨g, 0, none⟩) 1 1) (hl : xss.length + 1 ≤ 1049600)
    (h : ∀ A' c' w', SSO w' base (.slice A' (xss.length + 1) c') (vs ++ [.slice A n c]) (xss ++ [ys]) → w.grownBy w' v.ownBlock → Below base w w' → K (a.put o.dst (.slice A' (xss.length + 1) c')) w') : if Region.wanted o (yielded ops a.tmps) = true then Oper.wp Try.prog o a w K Q else E := by
  have hw : Region.wanted o (yielded ops a.tmps) = true := by simp [Region.wanted, hgd]
  rw [if_pos hw]
  have hvl := h0.len
  refine wp_appL s x 141 ho Try.underlying141 infoIS rfl (by decide) (by decide) hs (own_below h0.row hb0) hx (rwS hg) (by intro u hu; simp at hu; subst hu; rfl) (by omega) (Nat.le_trans hbase hb0.size) ?_
  intro v' w' h1 h2 h3
  have hS := h0.snoc hb0 hy hbase (by omega) h2 h1
  obtain ⟨A', c', rfl⟩ := hS.form
  simp only [List.length_append, List.length_cons, List.length_nil, Nat.zero_add] at hS ⊢
  exact h A' c' w' hS h2 h3
/-- .. in a list of operations -/
theorem appSS (hgd : o.guard = none) (s x : Operand) (ho : o.op = .call { callee := .builtin .append, args := #[s, x], argTypes := #[141, 141] })
    (hs : a.eval s = v) (h0 : SSO w0 base v vs xss) (hb0 : Below w0.heap.size w0 w) (hbase : base ≤ w0.heap.size) {g : Nat} {A : Option Addr} {n c : Nat} {ys : List Int} (hy : IntsO w w0.heap.size (.slice A n c) ys) (hg : Blk w g tIS #[.slice A n c]) (hx : a.eval x = .slice (some ⟨g, 0, none⟩) 1 1) (hl : xss.length + 1 ≤ 1049600)
    (h : ∀ A' c' w', SSO w' base (.slice A' (xss.length + 1) c') (vs ++ [.slice A n c]) (xss ++ [ys]) → w.grownBy w' v.ownBlock → Below base w w' → wpList Try.prog ops Q rest (a.put o.dst (.slice A' (xss.length + 1) c')) w') : wpList Try.prog ops Q (o :: rest) a w := by
  have hvl := h0.len
  refine wpList_appL hgd s x 141 ho Try.underlying141 infoIS rfl (by decide) (by decide) hs (own_below h0.row hb0) hx (rwS hg) (by intro u hu; simp at hu; subst hu; rfl) (by omega) (Nat.le_trans hbase hb0.size) ?_
  intro v' w' h1 h2 h3
  have hS := h0.snoc hb0 hy hbase (by omega) h2 h1
  obtain ⟨A', c', rfl⟩ := hS.form
  simp only [List.length_append, List.length_cons, List.length_nil, Nat.zero_add] at hS ⊢
  exact h A' c' w' hS h2 h3
end
end Go.Proofs.Ytlmjjflalmegfaa
