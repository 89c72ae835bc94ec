/- Lists of lists of numbers: words, appends, comparison, marks. -/
import Derived.Test.YtmjgcdolnkdfoaaKit
import Derived.Test.YtmjgcdolnkdfoaaAlloc
import Derived.Test.YtmjgcdolnkdfoaaRange
import Derived.Test.YtmjgcdolnkdfoaaCons
set_option linter.unusedSimpArgs false
set_option linter.unusedVariables false
namespace Go.Proofs.Ytmjgcdolnkdfoaa
open Go Go.RowKit Go.Proofs

--@ [][]int
abbrev tIS : Nat := 29
theorem infoIS : (Try.prog.info? tIS).map (fun i => (i.zero, i.size, i.bytes)) = some (some (.slice none 0 0), 1, 24) := by kernel_rfl
def tot (xss : List (List Int)) : Nat := (xss.map List.length).sum
/-- a row of our own of slices of our own, no two of which share a block -/
structure SSO (w : World) (base : Nat) (v : Value) (vs : List Value) (xss : List (List Int)) : Prop where
  row : w.ownsRow base tIS 1 v vs.length vs
  lim : Lim vs.length
  len : vs.length = xss.length
  at_ : ∀ (k : Nat) (h : k < vs.length) (h' : k < xss.length), IntsO w base vs[k] xss[k]
  apart : ∀ (i j : Nat) (hi : i < vs.length) (hj : j < vs.length), i < j → ∀ g, vs[i].ownBlock = some g → vs[j].ownBlock ≠ some g
def IntSSO (w : World) (base : Nat) (v : Value) (xss : List (List Int)) : Prop := ∃ vs, SSO w base v vs xss
section
variable {w w' : World} {base base' : Nat} {v : Value} {vs : List Value} {xss : List (List Int)}
theorem SSO.below (h : SSO w base v vs xss) (hb : Below w.heap.size w w') : SSO w' base v vs xss := ⟨own_below h.row hb, h.lim, h.len, fun k h1 h2 => (h.at_ k h1 h2).below hb, h.apart⟩
theorem IntSSO.below (h : IntSSO w base v xss) (hb : Below w.heap.size w w') : IntSSO w' base v xss := by obtain ⟨vs, h⟩ := h; exact ⟨vs, h.below hb⟩
theorem SSO.lower (h : SSO w base v vs xss) (hb : base' ≤ base) : SSO w base' v vs xss := ⟨own_lower h.row hb, h.lim, h.len, fun k h1 h2 => (h.at_ k h1 h2).lower hb, h.apart⟩
theorem IntSSO.lower (h : IntSSO w base v xss) (hb : base' ≤ base) : IntSSO w base' v xss := by obtain ⟨vs, h⟩ := h; exact ⟨vs, h.lower hb⟩
theorem SSO.nil (w : World) (base : Nat) : SSO w base (.slice none 0 0) [] [] := ⟨World.ownsRow_nil _ _ _ _, by simp [Lim], rfl, fun k h => absurd h (by simp), fun i j h => absurd h (by simp)⟩
theorem SSO.empty (w : World) {g : Nat} (hg : g = w.heap.size) : SSO (w.alloc (.cells #[] tIS)) g (.slice (some ⟨g, 0, none⟩) 0 0) [] [] := by
  subst hg
  exact ⟨own_empty w _ _, by simp [Lim], rfl, fun k h => absurd h (by simp), fun i j h => absurd h (by simp)⟩
theorem SSO.form (h : SSO w base v vs xss) : ∃ A c, v = .slice A xss.length c := by
  obtain ⟨A, c, e, -⟩ := own_reads h.row h.lim
  exact ⟨A, c, by rw [e, h.len]⟩
theorem IntSSO.form (h : IntSSO w base v xss) : ∃ A c, v = .slice A xss.length c := by obtain ⟨vs, h⟩ := h; exact h.form
theorem own_turn {w w' : World} {T : TypeId} {B base size n : Nat} {e : TypeId} {v : Value} {xs : List Value} {row : Option Nat} (h : w.ownsRow base e size v n xs) (hg : w.grownBy w' row) (hr : Turn T B w row) (ht : e ≠ T) : w'.ownsRow base e size v n xs := by
  obtain ⟨h1, h2⟩ := h
  refine ⟨h1, ?_⟩
  rcases h2 with h2 | ⟨k, cap, cur, hv, hg', hh, r⟩
  · exact Or.inl h2
  · exact Or.inr ⟨k, cap, cur, hv, hg', Blk.turn (g := k) hh hg hr (Or.inl ht), r⟩
theorem SSO.turn {T : TypeId} {B : Nat} {row : Option Nat} (h : SSO w base v vs xss) (hg : w.grownBy w' row) (hr : Turn T B w row) (h1 : tIS ≠ T) (h2 : tI ≠ T) : SSO w' base v vs xss :=
  ⟨own_turn h.row hg hr h1, h.lim, h.len, fun k a b => ⟨own_turn (h.at_ k a b).1 hg hr h2, (h.at_ k a b).2⟩, h.apart⟩
theorem SSO.setT (h : SSO w base v vs xss) {g : Nat} {t : TypeId} {cs : Array Value} (hk : Blk w g t cs) (h1 : t ≠ tIS) (h2 : t ≠ tI) (i : Nat) (u : Value) : SSO (w.setCell ⟨g, i, none⟩ u) base v vs xss :=
  ⟨own_setT h.row hk h1 i u, h.lim, h.len, fun k a b => (h.at_ k a b).setT hk h2 i u, h.apart⟩
/-- one more slice behind the others: w1 holds the new inner list; the append leads to w' -/
theorem SSO.snoc {w1 : World} {sv v' : Value} {ys : List Int} (h : SSO w base v vs xss) (hb : Below w.heap.size w w1) (hn : IntsO w1 w.heap.size sv ys) (hbase : base ≤ w.heap.size) (hl : vs.length + 1 ≤ 1049600)
    (hg : w1.grownBy w' v.ownBlock) (hr : w'.ownsRow base tIS 1 v' (vs.length + 1) (vs ++ [sv])) : SSO w' base v' (vs ++ [sv]) (xss ++ [ys]) := by
  have hrow1 := own_below h.row hb
  refine ⟨by simpa using hr, by simp [Lim]; omega, by simp [h.len], fun k h1 h2 => ?_, fun i j hi hj hij g hgi hgj => ?_⟩
  · by_cases e : k < vs.length
    · have e' : k < xss.length := by rw [← h.len]; exact e
      simp only [List.getElem_append, e, e', dite_true]
      exact ⟨own_grownO ((h.at_ k e e').below hb).1 hrow1 hg (by decide), (h.at_ k e e').2⟩
    · have hk : k = vs.length := by simp at h1; omega
      have e' : ¬ k < xss.length := by rw [← h.len]; exact e
      simp only [List.getElem_append, e, e', dite_false, List.getElem_singleton]
      exact ⟨(own_lower (own_grownO hn.1 hrow1 hg (by decide)) hbase), hn.2⟩
  · by_cases ej : j < vs.length
    · have ei : i < vs.length := by omega
      simp only [List.getElem_append, ei, ej, dite_true] at hgi hgj
      exact h.apart i j ei ej hij g hgi hgj
    · have hj' : j = vs.length := by simp at hj; omega
      have ei : i < vs.length := by omega
      simp only [List.getElem_append, ei, ej, dite_true, dite_false, List.getElem_singleton] at hgi hgj
      have e1 := ((h.at_ i ei (by rw [← h.len]; exact ei)).1.lt g hgi).2
      have e2 := (hn.1.lt g hgj).1
      omega

/-- a slice of slices that reads as lists of numbers -/
def IntSSV (w : World) (lo hi : Nat) (A : Option Addr) (xss : List (List Int)) : Prop :=
  ∃ vs : List Value, Rd w lo hi 1 A xss.length vs ∧ ∀ (k : Nat) (h : k < vs.length) (h' : k < xss.length), ∃ B c, vs[k] = .slice B xss[k].length c ∧ IntsV w lo hi B xss[k]
theorem IntSSV.below {lo hi : Nat} {A : Option Addr} (h : IntSSV w lo hi A xss) (hb : Below w.heap.size w w') : IntSSV w' lo hi A xss := by
  obtain ⟨vs, h1, h2⟩ := h
  exact ⟨vs, h1.below hb, fun k a b => by obtain ⟨B, c, e, h3⟩ := h2 k a b; exact ⟨B, c, e, h3.below hb⟩⟩
theorem IntSSV.at {lo hi : Nat} {A : Option Addr} (h : IntSSV w lo hi A xss) {k : Nat} (hk : k < xss.length) : ∃ b o B c, A = some ⟨b, o, none⟩ ∧ b < w.heap.size ∧ w.cell? ⟨b, o + k, none⟩ = some (.slice B xss[k].length c) ∧ IntsV w lo hi B xss[k] := by
  obtain ⟨vs, h1, h2⟩ := h
  have hl : vs.length = xss.length := by have := h1.raw.1; omega
  obtain ⟨b, o, u, e, -, -, hu, hc⟩ := h1.raw.at1 hk
  obtain ⟨B, c, e2, h3⟩ := h2 k (by omega) hk
  rw [List.getElem?_eq_getElem (by omega)] at hu
  refine ⟨b, o, B, c, e, block_lt_of_cell hc, ?_, h3⟩
  rw [hc, ← Option.some.inj hu, e2]
theorem SSO.reads {A : Option Addr} {n c : Nat} (h : SSO w base (.slice A n c) vs xss) : n = xss.length ∧ IntSSV w base w.heap.size A xss := by
  obtain ⟨A', c', e, h1⟩ := own_reads h.row h.lim
  injection e with e1 e2 e3
  subst e1
  refine ⟨by rw [e2, h.len], vs, by rw [← h.len]; exact h1, fun k a b => ?_⟩
  obtain ⟨B, d, e, h3⟩ := (h.at_ k a b).reads
  exact ⟨B, d, e, h3⟩
end
/-- the word for the exact laws: a bound on all the numbers, blocks of an interval -/
def IntSSI (w : World) (lo hi : Nat) (v : Value) (xss : List (List Int)) : Prop := ∃ vs, SSO w lo v vs xss ∧ Und v hi ∧ (∀ (k : Nat) (h : k < vs.length), Und vs[k] hi) ∧ tot xss ≤ 16777216
section
variable {w w' : World} {lo hi a b : Nat} {v : Value} {xss : List (List Int)}
theorem IntSSO.I' {base : Nat} (h : IntSSO w base v xss) (hb : tot xss ≤ 16777216) : IntSSI w base w.heap.size v xss := by
  obtain ⟨vs, h⟩ := h
  exact ⟨vs, h, fun g hg => (h.row.lt g hg).2, fun k hk g hg => ((h.at_ k hk (by rw [← h.len]; exact hk)).1.lt g hg).2, hb⟩
/-- contracts hand this word over -/
def IntSSR (w : World) (base : Nat) (v : Value) (xss : List (List Int)) : Prop := IntSSO w base v xss ∧ tot xss ≤ 16777216
theorem IntSSR.I {base : Nat} (h : IntSSR w base v xss) : IntSSI w base w.heap.size v xss := h.1.I' h.2
theorem IntSSI.below (h : IntSSI w lo hi v xss) (hb : Below w.heap.size w w') : IntSSI w' lo hi v xss := by
  obtain ⟨vs, h1, h2⟩ := h; exact ⟨vs, h1.below hb, h2⟩
theorem IntSSI.mk (h : IntSSI w lo hi v xss) (hb : Mk (fun g => a ≤ g ∧ g < b) w w') (hd : hi ≤ a ∨ b ≤ lo) : IntSSI w' lo hi v xss := by
  obtain ⟨vs, h1, h2, h3, h4⟩ := h
  refine ⟨vs, ⟨own_mk h1.row hb fun g hg hp => by have := und_range h1.row h2 g hg; omega, h1.lim, h1.len, fun k x y => ?_, h1.apart⟩, h2, h3, h4⟩
  exact (h1.at_ k x y).mk hb fun g hg hp => by have := und_range (h1.at_ k x y).1 (h3 k x) g hg; omega
theorem IntSSI.form (h : IntSSI w lo hi v xss) : ∃ A c, v = .slice A xss.length c := by obtain ⟨vs, h1, -⟩ := h; exact h1.form
theorem IntSSI.reads {A : Option Addr} {n c : Nat} (h : IntSSI w lo hi (.slice A n c) xss) : IntSSV w lo w.heap.size A xss := by obtain ⟨vs, h1, -⟩ := h; exact h1.reads.2
theorem IntSSI.len (h : IntSSI w lo hi v xss) : xss.length ≤ 1049600 ∧ tot xss ≤ 16777216 := by obtain ⟨vs, h1, -, -, h4⟩ := h; exact ⟨by rw [← h1.len]; exact h1.lim, h4⟩
end
theorem tot_cons (xs : List Int) (xss : List (List Int)) : tot (xs :: xss) = xs.length + tot xss := by simp [tot]
def markSS : Int → List (List Int) → List (List Int)
  | _, [] => []
  | k, xs :: xss => iota k xs.length :: markSS (k + xs.length) xss
theorem markSS_len : ∀ (k : Int) (xss : List (List Int)), (markSS k xss).length = xss.length
  | _, [] => rfl
  | k, xs :: xss => by simp [markSS, markSS_len]
/-- the marks of the first n lists, the others as they were -/
def markTo (k : Int) (xss : List (List Int)) (n : Nat) : List (List Int) := markSS k (xss.take n) ++ xss.drop n
theorem tot_append (xs ys : List (List Int)) : tot (xs ++ ys) = tot xs + tot ys := by simp [tot]
theorem tot_markSS : ∀ (k : Int) (xss : List (List Int)), tot (markSS k xss) = tot xss
  | _, [] => rfl
  | k, xs :: xss => by simp only [markSS, tot_cons, iota_length, tot_markSS]
theorem markSS_append : ∀ (k : Int) (xs ys : List (List Int)), markSS k (xs ++ ys) = markSS k xs ++ markSS (k + tot xs) ys
  | k, [], ys => by simp [markSS, tot]
  | k, x :: xs, ys => by
    simp only [List.cons_append, markSS, markSS_append, tot_cons]
    congr 3
    omega
end Go.Proofs.Ytmjgcdolnkdfoaa

/- Contracts: all cases: impl and spec. -/
namespace Go.Proofs.Ytmjgcdolnkdfoaa
open Go Go.RowKit Go.Proofs
attribute [local go_sem ↓] Go.wp_at_zero Go.wp_at_succ
attribute [local go_sem] Oper.semAt_some

/-- only blocks of slices of numbers may have turned -/
structure KX (w w' : World) : Prop where
  os : w'.os = w.os
  tape : w'.tape = w.tape
  output : w'.output = w.output
  size : w.heap.size ≤ w'.heap.size
  keep : ∀ (k : Nat) (o : Obj), w.heap[k]? = some o → (∀ cs, o ≠ .cells cs tIS (0, 0)) → w'.heap[k]? = some o
section
variable {w w' w1 : World}
theorem KX.of (h : Below w.heap.size w w') : KX w w' := ⟨h.os, h.tape, h.output, h.size, fun k o hk _ => (h.block k (Array.getElem?_eq_some_iff.1 hk).1).trans hk⟩
theorem KX.trans (h : KX w w1) (k : KX w1 w') : KX w w' := ⟨k.os.trans h.os, k.tape.trans h.tape, k.output.trans h.output, Nat.le_trans h.size k.size, fun i o hi ho => k.keep i o (h.keep i o hi ho) ho⟩
theorem KX.set (h : KX w w1) {p : Addr} (hp : w.heap.size ≤ p.block) (u : Value) : KX w (w1.setCell p u) :=
  ⟨h.os, h.tape, h.output, by have := h.size; simpa using this, fun k o hk ho => (Below.heap_setCell w1 p u k (by have := (Array.getElem?_eq_some_iff.1 hk).1; omega)).trans (h.keep k o hk ho)⟩
theorem KX.app {v : Value} {base n : Nat} {vs : List Value} (h : w.ownsRow base tIS 1 v n vs) (hg : w.grownBy w' v.ownBlock) : KX w w' :=
  ⟨hg.os, hg.tape, hg.output, hg.size, fun k o hk ho => (hg.block k (Array.getElem?_eq_some_iff.1 hk).1 (fun e => by
    rcases h.2 with ⟨rfl, -⟩ | ⟨g, cap, cur, rfl, -, hh, -⟩
    · cases e
    · have e1 : k = g := by simpa [Value.ownBlock] using e
      subst e1
      rw [hk] at hh
      exact ho cur (Option.some.inj hh))).trans hk⟩
theorem KX.blk (h : KX w w') {g : Nat} {t : TypeId} {cs : Array Value} (hb : Blk w g t cs) (ht : t ≠ tIS) : Blk w' g t cs := h.keep g _ hb fun c e => by injection e with _ e2; exact ht e2
theorem KX.ints (h : KX w w') {base : Nat} {v : Value} {xs : List Int} (ho : IntsO w base v xs) : IntsO w' base v xs := by
  obtain ⟨⟨h1, h2⟩, h3⟩ := ho
  refine ⟨⟨h1, ?_⟩, h3⟩
  rcases h2 with h2 | ⟨k, cap, cur, hv, hg, hh, r⟩
  · exact Or.inl h2
  · exact Or.inr ⟨k, cap, cur, hv, hg, h.blk (g := k) hh (by decide), r⟩
end
theorem KX.keeps {w w' : World} (h : KX w w') : KeepsOthers w w' := ⟨h.size, fun k o hk ho => h.keep k o hk fun cs e => by subst e; cases ho⟩
theorem KX.kept {T1 T2 : TypeId} {n₀ : Nat} {w w' : World} (h : KX w w') (hb : Below n₀ w w') (h1 : T1 ≠ tIS) (h2 : T2 ≠ tIS) : Kept T1 T2 n₀ w w' := ⟨hb, fun g t cs ht hk => h.blk hk (by rcases ht with rfl | rfl; exact h1; exact h2)⟩
section
variable {P : Program} {n : Nat}
/-- a drawn region within a round, its last store carried out behind the others -/
theorem wpIn_region_last' {Q : Exit → Act → World → Prop} {S : World → Prop} {L : List Oper} {id l : Nat} {a : Act} {w : World} (hlo : ¬ LetsOut Q) (hnd : (L.toArray.all noDefer) = true) (hne : L ≠ []) (hm : P.follows .mixedOrders = true) (hB : lastB L = true) (hS : S w.drew)
    (h : S w.drew → wpAnyH P .any (L.dropLast ++ [nopOf (L.getLast hne)]).toArray (lastQ P (L.getLast hne) Q) S L.length (Array.replicate L.length false) a w.drew) : (Code.region id L.toArray true).wpIn (Fence.wide.inRound l) n P Q a w := by
  refine wpIn_region_any hm (wpAny_in hlo hnd _ _ _ _ ?_)
  have e : L.dropLast ++ [L.getLast hne] = L := List.dropLast_concat_getLast hne
  unfold lastB at hB
  rw [List.getLast?_eq_some_getLast hne] at hB
  simp only [Bool.and_eq_true] at hB
  obtain ⟨⟨⟨⟨h1, h2⟩, h3⟩, h4⟩, h5⟩ := hB
  have hl : L.dropLast.length + 1 = L.length := by have := congrArg List.length e; simpa using this
  have es : L.toArray.size = L.dropLast.length + 1 := by rw [List.size_toArray, hl]
  rw [es]
  have key := wpAny_of_last (P := P) (S := S) (Q := Q) (md := .any) h1 h2 (by rw [e]; exact h3) (by rw [e]; exact h4) (by rw [e]; exact h5) (L.dropLast.length + 1) (Array.replicate (L.dropLast.length + 1) false) a w.drew ⟨by simp, fun j oj _ hl => (by rw [getD_replicate_false] at hl; cases hl), fun t _ ht => getD_in (by simpa using ht) (getD_replicate_false _ _)⟩ (by rw [hl]; exact h hS)
  rwa [e] at key
end

--@ (impl.termCase).list
theorem ints_case {w : World} {g : Nat} {c : List Int} (h : Blk w g tC (case9 c)) (hc : c.length = 9) : IntsV w g (g + 1) (some ⟨g, 0, none⟩) c :=
  ⟨⟨by simp, fun _ => ⟨g, 0, rfl, Nat.le_refl _, Nat.lt_succ_self _, fun j u hu => by rw [Nat.zero_add, (h.case hc).cell]; simpa using hu⟩⟩, by rw [hc]; decide⟩
set_option maxHeartbeats 800000 in
theorem c_impl_caseList (c : List Int) (w : World) (hc : c.length = 9) : Calls Try.prog 85 #[.agg (case9 c)] w fun e w' => ∃ r, e = .returned r ∧ IntsO w' w.heap.size r c ∧ Below w.heap.size w w' := by
  have HC := Lib.hid hc
  have hcp := c_impl_copyInts (some ⟨w.heap.size, 0, none⟩) 9 c (w.alloc (.cells (case9 c) tC)) (ints_case (Blk.new w tC (case9 c)) hc)
  rw [hc] at hcp
  have HCP := Lib.hid hcp
  clear hc hcp
  go_enter Try.func85, Try.ntmps85
  go_wp2_with fail
  refine HCP.out.mono ?_
  rintro e w1 ⟨r, rfl, o, hB1⟩
  have O := Lib.hid o
  clear o
  go_wp2_with fail
  go_ret
  exact ⟨r, rfl, O.out.lower (by simp), bgo (w := w) bel hB1⟩

--@ impl.CasesOf
/-- the cases, as the two programs list them -/
def casesV (a : Asn) : List (List Int) := if a.valid then cases a (caseS a 0) else []
theorem flatMap_len {α β : Type} (f : α → List β) (B : Nat) : ∀ (l : List α), (∀ x ∈ l, (f x).length ≤ B) → (l.flatMap f).length ≤ l.length * B
  | [], _ => by simp
  | x :: xs, h => by
    rw [List.flatMap_cons, List.length_append, List.length_cons, Nat.succ_mul]
    have h1 := h x List.mem_cons_self
    have h2 := flatMap_len f B xs fun y hy => h y (List.mem_cons_of_mem _ hy)
    omega
def fall : Nat → Nat
  | 0 => 1
  | n + 1 => (9 - n) * fall n
theorem gen_len (S : Nat) : ∀ (n : Nat) (c : List Int), n ≤ 9 → (gen S n c).length ≤ fall n
  | 0, _, _ => by simp [gen, fall]
  | n + 1, c, hn => by
    have ih := fun c => gen_len S n c (by omega)
    unfold gen fall
    split
    · refine Nat.le_trans (flatMap_len _ (fall n) _ fun k _ => ?_) (by simp)
      split
      · simp
      · exact ih _
    · refine Nat.le_trans (ih _) ?_
      have : 1 ≤ 9 - n := by omega
      exact Nat.le_mul_of_pos_left _ this
theorem cases_len (a : Asn) (S : Nat) : (cases a S).length ≤ 362880 := Nat.le_trans (List.length_filter_le _ _) (gen_len S 9 zeros (by omega))
theorem tot_nine : ∀ (L : List (List Int)), (∀ c ∈ L, c.length = 9) → tot L = L.length * 9
  | [], _ => rfl
  | c :: L, h => by rw [tot_cons, h c List.mem_cons_self, tot_nine L fun d hd => h d (List.mem_cons_of_mem _ hd), List.length_cons]; omega
theorem cases_nine {a : Asn} {S : Nat} : ∀ c ∈ cases a S, c.length = 9 := fun c hc => CaseT.len (a := a) (S := S) ⟨c, hc⟩
theorem casesV_tot (a : Asn) : tot (casesV a) ≤ 16777216 := by
  unfold casesV
  split
  · rw [tot_nine _ cases_nine]
    have := cases_len a (caseS a 0)
    omega
  · simp [tot]
theorem slice_one (v : Value) (h : ∃ A n c, v = .slice A n c) : v.oneCell' = true := by obtain ⟨A, n, c, rfl⟩ := h; rfl
section
variable {ops : Array Oper} {rest : List Oper} {o : Oper} {a : Act} {Q : Exit → Act → World → Prop} {w w0 : World} {base : Nat} {v : Value} {vs : List Value} {xss : List (List Int)}
theorem rwS {w : World} {g : Nat} {sv : Value} (h : Blk w g tIS #[sv]) : Rw w g (g + 1) 1 (some ⟨g, 0, none⟩) 1 [sv] :=
  ⟨rfl, fun _ => ⟨g, 0, rfl, Nat.le_refl _, Nat.lt_succ_self _, fun j u hu => by
    match j, hu with
    | 0, hu => simp at hu; subst hu; exact h.cell 0⟩⟩
/-- append of one slice to a list of slices, at a step of a drawn region -/
theorem stepSS {K : Act → World → Prop} {E : Prop} (hgd : o.guard = none) (s x : Operand) (ho : o.op = .call { callee := .builtin .append, args := #[s, x], argTypes := #[43, 43] })
    (hs : a.eval s = v) (h0 : SSO w0 base v vs xss) (hb0 : Below w0.heap.size w0 w) (hbase : base ≤ w0.heap.size) {g : Nat} {A : Option Addr} {n c : Nat} {ys : List Int} (hy : IntsO w w0.heap.size (.slice A n c) ys) (hg : Blk w g tIS #[.slice A n c]) (hx : a.eval x = .slice (some ⟨g, 0, none⟩) 1 1) (hl : xss.length + 1 ≤ 1049600)
    (h : ∀ A' c' w', SSO w' base (.slice A' (xss.length + 1) c') (vs ++ [.slice A n c]) (xss ++ [ys]) → w.grownBy w' v.ownBlock → Below base w w' → K (a.put o.dst (.slice A' (xss.length + 1) c')) w') : if Region.wanted o (yielded ops a.tmps) = true then Oper.wp Try.prog o a w K Q else E := by
  have hw : Region.wanted o (yielded ops a.tmps) = true := by simp [Region.wanted, hgd]
  rw [if_pos hw]
  have hvl := h0.len
  refine wp_appL s x 43 ho Try.underlying43 infoIS rfl (by decide) (by decide) hs (own_below h0.row hb0) hx (rwS hg) (by intro u hu; simp at hu; subst hu; rfl) (by omega) (Nat.le_trans hbase hb0.size) ?_
  intro v' w' h1 h2 h3
  have hS := h0.snoc hb0 hy hbase (by omega) h2 h1
  obtain ⟨A', c', rfl⟩ := hS.form
  simp only [List.length_append, List.length_cons, List.length_nil, Nat.zero_add] at hS ⊢
  exact h A' c' w' hS h2 h3
/-- .. in a list of operations -/
theorem appSS (hgd : o.guard = none) (s x : Operand) (ho : o.op = .call { callee := .builtin .append, args := #[s, x], argTypes := #[43, 43] })
    (hs : a.eval s = v) (h0 : SSO w0 base v vs xss) (hb0 : Below w0.heap.size w0 w) (hbase : base ≤ w0.heap.size) {g : Nat} {A : Option Addr} {n c : Nat} {ys : List Int} (hy : IntsO w w0.heap.size (.slice A n c) ys) (hg : Blk w g tIS #[.slice A n c]) (hx : a.eval x = .slice (some ⟨g, 0, none⟩) 1 1) (hl : xss.length + 1 ≤ 1049600)
    (h : ∀ A' c' w', SSO w' base (.slice A' (xss.length + 1) c') (vs ++ [.slice A n c]) (xss ++ [ys]) → w.grownBy w' v.ownBlock → Below base w w' → wpList Try.prog ops Q rest (a.put o.dst (.slice A' (xss.length + 1) c')) w') : wpList Try.prog ops Q (o :: rest) a w := by
  have hvl := h0.len
  refine wpList_appL hgd s x 43 ho Try.underlying43 infoIS rfl (by decide) (by decide) hs (own_below h0.row hb0) hx (rwS hg) (by intro u hu; simp at hu; subst hu; rfl) (by omega) (Nat.le_trans hbase hb0.size) ?_
  intro v' w' h1 h2 h3
  have hS := h0.snoc hb0 hy hbase (by omega) h2 h1
  obtain ⟨A', c', rfl⟩ := hS.form
  simp only [List.length_append, List.length_cons, List.length_nil, Nat.zero_add] at hS ⊢
  exact h A' c' w' hS h2 h3
end
set_option maxRecDepth 100000 in
set_option maxHeartbeats 3200000 in
theorem c_impl_CasesOf {lo hi : Nat} (v : Value) (a : Asn) (w : World) (h : AsnV w lo hi v a) (hhi : hi ≤ w.heap.size) :
    Calls Try.prog 26 #[v] w fun e w' => ∃ r, e = .returned r ∧ IntSSR w' w.heap.size r (casesV a) ∧ Below w.heap.size w w' := by
  have hV := Lib.hid h
  obtain ⟨A1, c1, A2, c2, rfl, -, -⟩ := h
  refine (callsIn_wide (n := 3)).1 ?_
  (refine callsIn_of_wp_marks Try.func26 rfl trivial ?_ rfl; simp only [Try.ntmps26, List.size_toArray, List.length_cons, List.length_nil, Nat.reduceAdd, Nat.reduceSub, Array.replicate_succ, Array.replicate_zero, List.push_toArray, List.append_toArray, List.nil_append, List.cons_append])
  gi_wp2_with fail
  refine ⟨trivial, (callsIn_wide.2 (c_impl_AssertionValid _ a _ (hV.out.below bel))).mono ?_⟩
  rintro e w1 ⟨rfl, hB1⟩
  have k0 : Blk w1 w.heap.size tAs #[.slice A1 a.facts.length c1, .slice A2 a.atoms.length c2] := Blk.next blks hB1
  have hB : Below w.heap.size w w1 := bgo (w := w) bel hB1
  clear hB1
  have q0 := k0.cell
  have l0 := k0.lt
  cases hv : a.valid
  · gi_wp2_with fail
    refine ⟨.slice none 0 0, by simp [results, Try.f26, go_sem], _, rfl, ⟨⟨[], ?_⟩, casesV_tot a⟩, hB⟩
    rw [show casesV a = [] from by unfold casesV; rw [hv]; rfl]
    exact SSO.nil _ _
  have HV := Lib.hid hv
  clear hv
  gi_wp2_with fail
  refine ⟨trivial, (callsIn_wide.2 (c_impl_possibleCases A1 A2 c1 c2 a 0 _ (hV.out.below bel) (by decide))).mono ?_⟩
  rintro e w2 ⟨gA, gT, rfl, hA, hT, kA, kT, hB2⟩
  have kR : Blk w2 w1.heap.size 43 #[.slice none 0 0] := Blk.next blks hB2
  have hBB : Below w.heap.size w w2 := bgo (w := w) bel hB2
  have hz := hB2.size
  have hz1 := hB.size
  simp only [World.size_alloc] at hz hA hT
  have hAw := hV.out.below hBB
  clear hB2
  gi_wp2_with fail
  refine wp_rangeT (gf := 193) (lb := #[.pointer (some ⟨gA, 0, none⟩), .pointer (some ⟨gT, 0, none⟩)]) rfl (enters_of Try.func193 (by kernel_rfl) rfl)
    (c_seq (n₀ := w.heap.size) w2 HV.out (by decide) hAw hhi (by omega) kA kT) (fun h k => h.trans k) (Kept.putl (by omega)) (Below.refl _ _) (fun _ => rfl)
    (fun pre W => ∃ vs A c, SSO W w.heap.size (.slice A pre.length c) vs (pre.map Subtype.val) ∧ Blk W w1.heap.size 43 #[.slice A pre.length c] ∧ Below w.heap.size w W)
    (fun c pre W => False)
    (fun s X Y row hs hg hr => by
      obtain ⟨vs, A, c, h1, h2, h3⟩ := hs
      exact ⟨vs, A, c, h1.turn hg hr (by decide) (by decide), h2.turn hg hr (Or.inr (by omega)), Below.turn h3 hg hr (by omega) h3.size⟩)
    (fun c s X Y row hs hg hr => hs)
    ⟨[], none, 0, SSO.nil _ _, kR, hBB⟩ ?round ?done ?stop
  case round =>
    rintro l pre x W hl ⟨vs, A, c, hS, kR, hB⟩ hadm
    have hwz := hB.size
    have lR := kR.lt
    have hpl : pre.length + 1 ≤ 1049600 := by
      have h1 := hadm.length_le
      have h2 := cases_len a (caseS a 0)
      simp at h1
      omega
    clear hadm
    gi_wp2
    refine ⟨(KeepsOthers.alloc _ _).from _, Kept.alloc (by omega) _, fun o o' ho hc => ?_⟩
    have kX := (Blk.new W tC (case9 x.1)).putl o' ho hc
    replace kR := (kR.alloc (.cells (case9 x.1) tC)).putl o' ho hc
    have hK0 := Kept.put (T1 := tC) (T2 := tAs) (n₀ := w.heap.size) o' (by omega) ho hc
    have hB' := (bbox hB (.cells (case9 x.1) tC)).trans hK0.below
    have hS' : SSO ((W.alloc (.cells (case9 x.1) tC)).putObj l o') w.heap.size (.slice A pre.length c) vs (pre.map Subtype.val) := (hS.below bel).turn (T := tC) (B := l) (grownBy_putObj' _ l o') (fun r e => by cases e; exact ⟨Nat.le_refl _, o, ho, Or.inl hc⟩) (by decide) (by decide)
    clear ho hS hB
    obtain ⟨V, hVe⟩ : ∃ V, V = (W.alloc (.cells (case9 x.1) tC)).putObj l o' := ⟨_, rfl⟩
    rw [← hVe] at kX kR hB' hS' ⊢
    clear hVe hK0
    obtain ⟨p0, p1, p2, p3, p4, p5, p6, p7, p8⟩ := case9_cells kX
    have qR := kR.cell
    have rR := kR.frozen
    have lRV := kR.lt
    have lXV := kX.lt
    have hzV := hB'.size
    have hx9 := Lib.hid x.len
    have HS := Lib.hid hS'
    clear hS'
    gi_wp2_with fail
    refine wpIn_noPanic ?_
    refine wpIn_region_last' (S := (fun w' => (∀ i, w'.cell? ⟨w1.heap.size, i, none⟩ = #[.slice A pre.length c][i]?) ∧ (∀ i, w'.cell? ⟨W.heap.size, i, none⟩ = (case9 x.1)[i]?))) (fun h => by obtain ⟨_, _, h⟩ := h; exact h) (by kernel_rfl) (by simp) (by kernel_rfl) (by kernel_rfl) (⟨Blk.cell blks, Blk.cell blks⟩) (fun hHeld => ?_)
    simp only [List.dropLast, List.getLast, nopOf, List.cons_append, List.nil_append, List.length_cons, List.length_nil, Nat.zero_add, Nat.reduceAdd]
    refine wpAnyH_take (i := 0) (v := ?_) rfl (by kernel_rfl) (by kernel_rfl) (by kernel_rfl) (fun _ _ _ h => h) (Or.inl ⟨by rfl, fun w hSw => ?_⟩) hHeld ?_
    rotate_left
    · ((try dsimp only at hSw); go_split_ands; go_simp; (try with_reducible rfl))
    try simp only [Act.put, List.getElem_toArray, List.getElem_cons_zero, List.getElem_cons_succ, List.setIfInBounds_toArray, List.set_cons_zero, List.set_cons_succ]
    refine wpAnyH_take (i := 1) (v := ?_) rfl (by kernel_rfl) (by kernel_rfl) (by kernel_rfl) (fun _ _ _ h => h) (Or.inl ⟨by rfl, fun w hSw => ?_⟩) hHeld ?_
    rotate_left
    · ((try dsimp only at hSw); go_split_ands; go_simp; (try with_reducible rfl))
    try simp only [Act.put, List.getElem_toArray, List.getElem_cons_zero, List.getElem_cons_succ, List.setIfInBounds_toArray, List.set_cons_zero, List.set_cons_succ]
    refine wpAnyH_ready (rs := [2]) (by kernel_rfl) (by simp) ?_
    refine AllReadyH.cons rfl (fun K hK => ?_) AllReadyH.nil
    try simp only [List.getElem_toArray, List.getElem_cons_zero, List.getElem_cons_succ]
    (go_simp; refine (c_impl_caseList x.1 _ hx9.out).mono ?_; rintro e w2 ⟨r, rfl, o, hB1⟩; obtain ⟨A3, n3, rfl, -⟩ := o.reads; have hB2 := bgo (w := V) bel hB1; have o2 := o.lower (base' := V.heap.size) (by simp); replace kR := Blk.next (g := w1.heap.size) blks hB1; replace kX := Blk.next (g := W.heap.size) blks hB1; clear o hB1)
    refine hK.out _ _ (⟨Blk.cell blks, Blk.cell blks⟩) (fun hHeldN => ?_)
    clear hHeld hK K
    have hHeld := hHeldN
    clear hHeldN
    try simp only [Act.put, List.getElem_toArray, List.getElem_cons_zero, List.getElem_cons_succ, List.setIfInBounds_toArray, List.set_cons_zero, List.set_cons_succ]
    refine wpAnyH_ready (rs := [3]) (by kernel_rfl) (by simp) ?_
    refine AllReadyH.cons rfl (fun K hK => ?_) AllReadyH.nil
    try simp only [List.getElem_toArray, List.getElem_cons_zero, List.getElem_cons_succ]
    go_simp
    refine hK.out _ _ (⟨Blk.cell blks, Blk.cell blks⟩) (fun hHeldN => ?_)
    clear hHeld hK K
    have hHeld := hHeldN
    clear hHeldN
    try simp only [Act.put, List.getElem_toArray, List.getElem_cons_zero, List.getElem_cons_succ, List.setIfInBounds_toArray, List.set_cons_zero, List.set_cons_succ]
    refine wpAnyH_ready (rs := [4]) (by kernel_rfl) (by simp) ?_
    refine AllReadyH.cons rfl (fun K hK => ?_) AllReadyH.nil
    skip
    (refine stepSS (w0 := V) (base := w.heap.size) rfl _ _ rfl rfl HS.out bel (by omega) (IntsO.below o2 bel) (Blk.new w2 tIS _) rfl (by simpa using hpl) ?_; intro A' c' w6 hS6 hg6 hB6; have hKX : KX V w6 := KX.trans (KX.of (w := V) bel) (KX.app (own_below HS.out.row (w' := w2.alloc _) bel) hg6); replace kR := (KX.app (own_below HS.out.row (w' := w2.alloc _) bel) hg6).blk (kR.alloc _) (by decide); replace kX := (KX.app (own_below HS.out.row (w' := w2.alloc _) bel) hg6).blk (kX.alloc _) (by decide); have rR := kR.frozen)
    refine hK.out _ _ (⟨kR.cell, kX.cell⟩) (fun hHeldN => ?_)
    clear hHeld hK K
    have hHeld := hHeldN
    clear hHeldN
    try simp only [Act.put, List.getElem_toArray, List.getElem_cons_zero, List.getElem_cons_succ, List.setIfInBounds_toArray, List.set_cons_zero, List.set_cons_succ]
    refine wpAnyH_ready (rs := [5]) (by kernel_rfl) (by simp) ?_
    refine AllReadyH.cons rfl (fun K hK => ?_) AllReadyH.nil
    go_simp
    refine hK.out _ _ (⟨kR.cell, kX.cell⟩) (fun hHeld => ?_)
    clear hK K
    refine wpAnyH_done (by kernel_rfl) ?_ _
    unfold lastQ
    go_simp
    refine NoPanic.normal ?_
    have hB7 : Below w.heap.size V w6 := Below.trans (btoB (w := V) bel (by omega)) hB6
    have hS7 : SSO w6 w.heap.size (.slice A' ((pre ++ [x]).length) c') (vs ++ [.slice A3 x.1.length n3]) ((pre ++ [x]).map Subtype.val) := by simpa using hS6
    have el : pre.length + 1 = (pre ++ [x]).length := by simp
    rw [el]
    exact ⟨(hKX.keeps.trans (KeepsOthers.setCell _ _ _)).from _, (hKX.kept hB7 (by decide) (by decide)).trans (Kept.set kR (by omega) (by decide) (by decide) 0 _),
      _, A', c', hS7.setT kR (by decide) (by decide) 0 _, kR.set_ 0 _, (hB'.trans hB7).setCell (p := ⟨w1.heap.size, 0, none⟩) (by simp only; omega) _⟩
  case done =>
    rintro D ys W hD hYS ⟨vs, A, c, hS, kR, hB⟩ hK
    have qR := kR.cell
    have lR := kR.lt
    gi_wp2
    refine ⟨by simp, .inl ⟨_, _, rfl, run_takeDeferred hK, ?_⟩⟩
    refine ⟨.slice A ys.length c, by simp [results, Try.f26, go_sem], _, rfl, ⟨⟨vs, ?_⟩, casesV_tot a⟩, hB.trans (belowK_b (w := w) (Nat.le_refl _) W D _ _ (by omega) hK rfl rfl)⟩
    rw [show casesV a = ys.map Subtype.val from by rw [hYS]; unfold casesV; rw [if_pos HV.out]]
    exact hS.turn (T := tC) (B := D) (grownBy_putObj' _ D _) (fun r e => by cases e; exact ⟨Nat.le_refl _, _, hK, Or.inl rfl⟩) (by decide) (by decide)
  case stop =>
    rintro D c pre W hD hS h hK
    exact h.elim
end Go.Proofs.Ytmjgcdolnkdfoaa
