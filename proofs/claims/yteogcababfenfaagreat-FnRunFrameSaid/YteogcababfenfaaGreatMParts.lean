/- Cases: the class lists of an assertion, and the two pruned searches that give them. Plain; no program. -/
import Derived.Test.YteogcababfenfaaGreatMCmd
import Derived.Test.YteogcababfenfaaGreatMVisP
import Derived.Test.YteogcababfenfaaGreatMCells
import Derived.RangeFuncWrites
import Derived.RangeFuncLeaves
import Derived.RangeFuncBound
import Derived.RangeFuncCalls
import Derived.WalkKit
import Derived.OwnWalkIn
import Derived.TacticsInMore
import Derived.LoopNIn
import Derived.LoopIn
import Derived.OrdersIn
import Derived.Deep.RegionHeld3
import Derived.Shelf.Abstract
import Derived.Test.YteogcababfenfaaGreatMSte
set_option linter.unusedSimpArgs false
set_option linter.unusedVariables false
namespace Go.Proofs.YteogcababfenfaaGreat
open Go

/-- class of a term -/
def cl (c : List Int) (t : Int) : Int := (c[t.toNat]?).getD 0
def Fct.fits (c : List Int) (f : Fct) : Bool := decide (cl c f.a = cl c f.b) == f.eq
def Atm.fill (c : List Int) (x : Atm) : Bool := decide (x.kind = 1) || !decide (cl c x.a = cl c x.b)
def Atm.cls (c : List Int) (x : Atm) : Atm := ⟨x.kind, cl c x.a, cl c x.b⟩
def filledL (xs : List Atm) (c : List Int) : List Atm := (xs.filter (Atm.fill c)).map (Atm.cls c)
/-- the atoms begin at different classes other than 0, none of them in seen -/
def apartF : List Int → List Atm → Bool
  | _, [] => true
  | seen, x :: xs => !decide (x.a = 0) && !decide (x.a ∈ seen) && apartF (seen ++ [x.a]) xs
def full (a : Asn) (c : List Int) : Bool := a.facts.all (Fct.fits c) && apartF [] (filledL a.atoms c)
/-- all class lists for the terms of S, in order: n places are still open -/
def gen (S : Nat) : Nat → List Int → List (List Int)
  | 0, c => [c]
  | n + 1, c => if S.testBit (8 - n) then (List.range (9 - n)).flatMap fun k => if k < 8 - n ∧ cl c k ≠ k then [] else gen S n (c.set (8 - n) k) else gen S n (c.set (8 - n) (-1))
def zeros : List Int := [0, 0, 0, 0, 0, 0, 0, 0, 0]
def opened : List Int := [0, -1, -1, -1, -1, -1, -1, -1, -1]
def cases (a : Asn) (S : Nat) : List (List Int) := (gen S 9 zeros).filter (full a)

/-- impl's pruning -/
def possF (c : List Int) (last : Int) (fs : List Fct) : Bool := fs.all fun f => !(decide (f.a ≤ last) && decide (f.b ≤ last) && !f.fits c)
def inLast (c : List Int) (last : Int) (x : Atm) : Bool := decide (x.a ≤ last) && decide (x.b ≤ last) && x.fill c
def possA (c : List Int) (last : Int) : List Int → List Atm → Bool
  | _, [] => true
  | seen, x :: xs => if inLast c last x then !decide (cl c x.a = 0) && !decide (cl c x.a ∈ seen) && possA c last (seen ++ [cl c x.a]) xs else possA c last seen xs
def poss (a : Asn) (c : List Int) (last : Int) : Bool := possF c last a.facts && possA c last [] a.atoms
def ext (a : Asn) (S : Nat) : Nat → List Int → List (List Int)
  | 0, c => [c]
  | n + 1, c => if S.testBit (8 - n) then (List.range (9 - n)).flatMap fun k => if k < 8 - n ∧ cl c k ≠ k then [] else if poss a (c.set (8 - n) k) (8 - n : Nat) then ext a S n (c.set (8 - n) k) else [] else ext a S n (c.set (8 - n) (-1))

/-- the reference's pruning -/
def fitsS (c : List Int) (fs : List Fct) : Bool := fs.all fun f => !(decide (0 ≤ cl c f.a) && decide (0 ≤ cl c f.b) && !f.fits c)
def earlyF (c : List Int) : List Int → List Atm → Bool
  | _, [] => true
  | seen, x :: xs => if decide (x.kind = 1) && decide (0 ≤ cl c x.a) then !decide (cl c x.a = 0) && !decide (cl c x.a ∈ seen) && earlyF c (seen ++ [cl c x.a]) xs else earlyF c seen xs
def seek (a : Asn) (S : Nat) : Nat → List Int → List (List Int)
  | 0, c => if fitsS c a.facts && earlyF c [] a.atoms then (if apartF [] (filledL a.atoms c) then [c] else []) else []
  | n + 1, c => if fitsS c a.facts && earlyF c [] a.atoms then (if S.testBit (8 - n) then (List.range (9 - n)).flatMap fun k => if k < 8 - n ∧ cl c k ≠ k then [] else seek a S n (c.set (8 - n) k) else seek a S n c) else []

section
variable {c d : List Int}
theorem cl_set (h : c.length = 9) {t : Nat} (ht : t < 9) (v : Int) {j : Int} (hj : 0 ≤ j) : cl (c.set t v) j = if j = t then v else cl c j := by
  unfold cl
  by_cases e : j = t
  · subst e
    rw [if_pos rfl, Int.toNat_natCast, List.getElem?_set_self (by omega)]; rfl
  · rw [if_neg e, List.getElem?_set_ne (by omega)]

/-- d agrees with c on the terms up to last -/
def Agr (c d : List Int) (last : Int) : Prop := ∀ j : Int, 0 ≤ j → j ≤ last → cl d j = cl c j
theorem Agr.fits {f : Fct} {last : Int} (h : Agr c d last) (ha : 0 ≤ f.a) (hb : 0 ≤ f.b) (h1 : f.a ≤ last) (h2 : f.b ≤ last) : f.fits d = f.fits c := by
  unfold Fct.fits; rw [h _ ha h1, h _ hb h2]
theorem Agr.fill {f : Atm} {last : Int} (h : Agr c d last) (ha : 0 ≤ f.a) (hb : 0 ≤ f.b) (h1 : f.a ≤ last) (h2 : f.b ≤ last) : f.fill d = f.fill c := by
  unfold Atm.fill; rw [h _ ha h1, h _ hb h2]
def FactsOk (fs : List Fct) : Prop := ∀ f ∈ fs, (0 ≤ f.a ∧ f.a ≤ 8) ∧ (0 ≤ f.b ∧ f.b ≤ 8)
def AtomsOk (xs : List Atm) : Prop := ∀ x ∈ xs, (0 ≤ x.a ∧ x.a ≤ 8) ∧ (0 ≤ x.b ∧ x.b ≤ 8)
theorem Agr.possF {fs : List Fct} {last : Int} (h : Agr c d last) (hf : FactsOk fs) : possF d last fs = possF c last fs := by
  unfold Go.Proofs.YteogcababfenfaaGreat.possF
  rw [Bool.eq_iff_iff, List.all_eq_true, List.all_eq_true]
  refine forall_congr' fun f => forall_congr' fun hm => ?_
  obtain ⟨⟨h1, -⟩, ⟨h2, -⟩⟩ := hf f hm
  by_cases e1 : f.a ≤ last
  · by_cases e2 : f.b ≤ last
    · rw [h.fits h1 h2 e1 e2]
    · simp [e2]
  · simp [e1]
theorem Agr.inLast {x : Atm} {last : Int} (h : Agr c d last) (ha : 0 ≤ x.a) (hb : 0 ≤ x.b) : inLast d last x = inLast c last x := by
  unfold Go.Proofs.YteogcababfenfaaGreat.inLast
  by_cases e1 : x.a ≤ last
  · by_cases e2 : x.b ≤ last
    · rw [h.fill ha hb e1 e2]
    · simp [e2]
  · simp [e1]
theorem inLast_le {x : Atm} {last : Int} (h : inLast c last x = true) : x.a ≤ last ∧ x.b ≤ last ∧ x.fill c = true := by
  simp [inLast] at h; exact ⟨h.1.1, h.1.2, h.2⟩
theorem Agr.possA {last : Int} (h : Agr c d last) : ∀ (xs : List Atm) (seen : List Int), AtomsOk xs → possA d last seen xs = possA c last seen xs := by
  intro xs
  induction xs with
  | nil => intro seen _; rfl
  | cons x xs ih =>
    intro seen hx
    have hx' : AtomsOk xs := fun y hy => hx y (List.mem_cons_of_mem _ hy)
    obtain ⟨⟨h1, -⟩, ⟨h2, -⟩⟩ := hx x List.mem_cons_self
    unfold Go.Proofs.YteogcababfenfaaGreat.possA
    rw [h.inLast h1 h2]
    cases e : Go.Proofs.YteogcababfenfaaGreat.inLast c last x
    · simp only [Bool.false_eq_true, if_false]; exact ih _ hx'
    · rw [if_pos rfl, if_pos rfl, h _ h1 (inLast_le e).1, ih _ hx']
theorem Agr.poss {a : Asn} {last : Int} (h : Agr c d last) (hf : FactsOk a.facts) (hx : AtomsOk a.atoms) : poss a d last = poss a c last := by
  unfold Go.Proofs.YteogcababfenfaaGreat.poss; rw [h.possF hf, h.possA _ _ hx]

/-- what gen yields -/
theorem gen_ok (S : Nat) : ∀ (n : Nat) (c d : List Int), n ≤ 9 → c.length = 9 → d ∈ gen S n c → d.length = 9 ∧ Agr c d (8 - n : Int) ∧ ∀ j : Nat, 9 - n ≤ j → j < 9 → (S.testBit j = true → 0 ≤ cl d j ∧ cl d j ≤ j) ∧ (S.testBit j = false → cl d j = -1) := by
  intro n
  induction n with
  | zero =>
    intro c d _ hc hd
    simp only [gen, List.mem_singleton] at hd
    subst hd
    exact ⟨hc, fun j _ _ => rfl, fun j h1 h2 => by omega⟩
  | succ n ih =>
    intro c d hn hc hd
    have key : ∀ v : Int, d ∈ gen S n (c.set (8 - n) v) → d.length = 9 ∧ Agr c d (8 - (n + 1 : Nat) : Int) ∧ cl d ((8 - n : Nat) : Int) = v ∧ ∀ j : Nat, 9 - n ≤ j → j < 9 → (S.testBit j = true → 0 ≤ cl d j ∧ cl d j ≤ j) ∧ (S.testBit j = false → cl d j = -1) := by
      intro v hd
      obtain ⟨h1, h2, h3⟩ := ih _ _ (by omega) (by simpa using hc) hd
      refine ⟨h1, fun j h0 hj => ?_, ?_, h3⟩
      · rw [h2 j h0 (by omega), cl_set hc (by omega) _ h0, if_neg (by omega)]
      · rw [h2 _ (by omega) (by omega), cl_set hc (by omega) _ (by omega), if_pos rfl]
    unfold gen at hd
    cases e : S.testBit (8 - n)
    · rw [e] at hd
      simp only [Bool.false_eq_true, if_false] at hd
      obtain ⟨h1, h2, h3, h4⟩ := key _ hd
      refine ⟨h1, h2, fun j hj hj' => ?_⟩
      by_cases ej : j = 8 - n
      · subst ej; exact ⟨fun h => (by rw [e] at h; cases h), fun _ => h3⟩
      · exact h4 j (by omega) hj'
    · rw [e, if_pos rfl, List.mem_flatMap] at hd
      obtain ⟨k, hk, hd⟩ := hd
      rw [List.mem_range] at hk
      split at hd
      · cases hd
      · obtain ⟨h1, h2, h3, h4⟩ := key _ hd
        refine ⟨h1, h2, fun j hj hj' => ?_⟩
        by_cases ej : j = 8 - n
        · subst ej; exact ⟨fun _ => by rw [h3]; omega, fun h => by rw [e] at h; cases h⟩
        · exact h4 j (by omega) hj'
end
end Go.Proofs.YteogcababfenfaaGreat

/- Tidying: the spec's substitution. -/
namespace Go.Proofs.YteogcababfenfaaGreat
open Go Go.RowKit Go.Proofs
attribute [local go_sem ↓] Go.wp_at_zero Go.wp_at_succ

theorem map_take {α β : Type} (f : α → β) (xs : List α) (k : Nat) (hk : k < xs.length) : (xs.take (k + 1)).map f = (xs.take k).map f ++ [f xs[k]] := by
  rw [List.take_succ_eq_append_getElem hk, List.map_append]; rfl

--@ spec.l3Subst
end Go.Proofs.YteogcababfenfaaGreat

/- Contracts: impl's cases. -/
namespace Go.Proofs.YteogcababfenfaaGreat
open Go Go.RowKit Go.Proofs
attribute [local go_sem ↓] Go.wp_at_zero Go.wp_at_succ

abbrev tTc : Nat := 104
/-- the value of a case -/
abbrev cval (c : List Int) : Value := .agg (encI c).toArray
end Go.Proofs.YteogcababfenfaaGreat

/- A loop over an iterator that keeps state of its own in cells of one type T. No program. -/
namespace Go.Proofs.YteogcababfenfaaGreat
open Go Go.RowKit

/-- what the loop's own book-keeping and the iterator may turn -/
def Turn (T : TypeId) (B : Nat) (W : World) (row : Option Nat) : Prop := ∀ r, row = some r → B ≤ r ∧ ∃ o : Obj, W.heap[r]? = some o ∧ (o.isCells = false ∨ ∃ cs, o = .cells cs T (0, 0))
def OwnT {β : Type} (T : TypeId) (B : Nat) (I : β → World → Prop) : Prop := ∀ s W W' row, I s W → W.grownBy W' row → Turn T B W row → I s W'
/-- what the iterator may turn -/
def TurnC (T : TypeId) (B : Nat) (W : World) (row : Option Nat) : Prop := ∀ r, row = some r → B ≤ r ∧ ∃ cs, W.heap[r]? = some (.cells cs T (0, 0))
def AbT {β : Type} (T : TypeId) (B : Nat) (J : β → World → Prop) : Prop := ∀ s W W' row, J s W → W.grownBy W' row → TurnC T B W row → J s W'
/-- what a round keeps: all below n₀, and every block of the two types -/
structure Kept (T1 T2 : TypeId) (n₀ : Nat) (W W' : World) : Prop where
  below : Below n₀ W W'
  keep : ∀ (g : Nat) (t : TypeId) (cs : Array Value), (t = T1 ∨ t = T2) → Blk W g t cs → Blk W' g t cs
section
variable {T1 T2 T : TypeId} {n₀ B : Nat} {A W W' W2 : World}
theorem Kept.refl (W : World) : Kept T1 T2 n₀ W W := ⟨Below.refl _ _, fun _ _ _ _ h => h⟩
theorem Kept.trans (h : Kept T1 T2 n₀ A W) (k : Kept T1 T2 n₀ W W') : Kept T1 T2 n₀ A W' := ⟨h.below.trans k.below, fun g t cs ht hb => k.keep g t cs ht (h.keep g t cs ht hb)⟩
theorem Kept.next (h : Below W.heap.size W W') (hn : n₀ ≤ W.heap.size) : Kept T1 T2 n₀ W W' := ⟨h.mono hn, fun _ _ _ _ hb => hb.next h⟩
theorem Kept.alloc (hn : n₀ ≤ W.heap.size) (o : Obj) : Kept T1 T2 n₀ W (W.alloc o) := ⟨(Below.refl _ _).alloc hn _, fun _ _ _ _ hb => hb.alloc o⟩
theorem Kept.set {cs : Array Value} (hk : Blk W B T cs) (hn : n₀ ≤ B) (h1 : T ≠ T1) (h2 : T ≠ T2) (i : Nat) (u : Value) : Kept T1 T2 n₀ W (W.setCell ⟨B, i, none⟩ u) :=
  ⟨(Below.refl _ _).setCell (p := ⟨B, i, none⟩) hn _, fun g t cs ht hb => hb.far (p := ⟨B, i, none⟩) (by
    intro e
    have e : g = B := e
    subst e
    rcases ht with rfl | rfl
    · exact (hb.ne_ hk (fun e => h1 e.symm)) rfl
    · exact (hb.ne_ hk (fun e => h2 e.symm)) rfl) _⟩
theorem Kept.put {l : Nat} {o : Obj} (o' : Obj) (hn : n₀ ≤ l) (hl : W.heap[l]? = some o) (ho : o.isCells = false) : Kept T1 T2 n₀ W (W.putObj l o') :=
  ⟨(Below.refl n₀ W).grown (grownBy_putObj' W l o') (by have := (Array.getElem?_eq_some_iff.1 hl).1; omega) (fun k e => by cases e; omega),
   fun g t cs _ hb => (World.putObj_heap_other (fun e => by subst e; unfold Blk at hb; rw [hl] at hb; cases hb; cases ho)).trans hb⟩
theorem Kept.app {row : Option Nat} (hg : W.grownBy W' row) (hb : Below n₀ W W') (hr : ∀ r, row = some r → ∃ t cs, Blk W r t cs ∧ t ≠ T1 ∧ t ≠ T2) : Kept T1 T2 n₀ W W' :=
  ⟨hb, fun g t cs ht hk => hk.grown hg (fun e => by
    obtain ⟨t', cs', hk', g1, g2⟩ := hr g e.symm
    unfold Blk at hk hk'
    rw [hk] at hk'
    injection hk' with hk'
    injection hk' with _ e2
    subst e2
    rcases ht with h | h
    · exact g1 h
    · exact g2 h)⟩

theorem OwnT.put {β : Type} {I : β → World → Prop} (h : OwnT T B I) {s : β} {l : Nat} {o : Obj} (o' : Obj) (hs : I s W) (hB : B ≤ l) (hl : W.heap[l]? = some o) (ho : o.isCells = false) : I s (W.putObj l o') :=
  h s W _ (some l) hs (grownBy_putObj' W l o') (fun r e => by cases e; exact ⟨hB, o, hl, Or.inl ho⟩)
theorem OwnT.alloc {β : Type} {I : β → World → Prop} (h : OwnT T B I) {s : β} (o : Obj) (hs : I s W) : I s (W.alloc o) :=
  h s W _ none hs (World.grownBy_alloc W o none) (fun r e => by cases e)
theorem grown_of_below {row : Option Nat} (h : Below W.heap.size W W') : W.grownBy W' row := ⟨h.os, h.tape, h.output, h.size, fun k hk _ => h.block k hk⟩
theorem AbT.next {β : Type} {J : β → World → Prop} (h : AbT T B J) {s : β} (hs : J s W) (hb : Below W.heap.size W W') : J s W' := h s W W' none hs (grown_of_below hb) (fun r e => by cases e)
theorem AbT.set {β : Type} {J : β → World → Prop} (h : AbT T B J) {s : β} (hs : J s W) {g : Nat} {cs : Array Value} (hk : Blk W g T cs) (hg : B ≤ g) (i : Nat) (u : Value) : J s (W.setCell ⟨g, i, none⟩ u) :=
  h s W _ (some g) hs ⟨rfl, rfl, rfl, by simp, fun k hk' hne => Below.heap_setCell W ⟨g, i, none⟩ u k (fun e => hne (by rw [e]))⟩ (fun r e => by cases e; exact ⟨hg, cs, hk⟩)

theorem OwnT.and {β : Type} {I I' : β → World → Prop} (h : OwnT T B I) (h' : OwnT T B I') : OwnT T B (fun s W => I s W ∧ I' s W) := fun s W W' row hs hg hr => ⟨h s W W' row hs.1 hg hr, h' s W W' row hs.2 hg hr⟩
theorem Blk.turn {g : Nat} {t : TypeId} {cs : Array Value} {row : Option Nat} (h : Blk W g t cs) (hg : W.grownBy W' row) (hr : Turn T B W row) (ht : t ≠ T ∨ g < B) : Blk W' g t cs :=
  h.grown hg (fun e => by
    obtain ⟨hb, o, ho, hc⟩ := hr g e.symm
    unfold Blk at h
    rw [h] at ho
    cases ho
    rcases hc with hc | ⟨cs', hc⟩
    · cases hc
    · injection hc with _ e2
      rcases ht with ht | ht
      · exact ht e2
      · omega)
theorem Below.turn {row : Option Nat} (h : Below n₀ A W) (hg : W.grownBy W' row) (hr : Turn T B W row) (hn : n₀ ≤ B) (hw : n₀ ≤ W.heap.size) : Below n₀ A W' :=
  h.grown hg hw (fun k e => by have := (hr k e).1; omega)
end

/-- how the body of a round may be left -/
def postT {α : Type} (B : Nat) (Kp : World → World → Prop) (I : List α → World → Prop) (Ix : Code → List α → World → Prop) (xs : List α) (W : World) : Exit → Act → World → Prop
  | .normal, _, W' => KeepsFrom B W W' ∧ Kp W W' ∧ I xs W'
  | .ret, _, W' => KeepsFrom B W W' ∧ Ix .ret xs W'
  | .exit id, _, W' => KeepsFrom B W W' ∧ Ix (.exit id) xs W'
  | .goto t, _, W' => KeepsFrom B W W' ∧ Ix (.goto t) xs W'
  | .panic _, _, _ => False
  | .outgrown, _, _ => False
/-- the iterator's contract -/
def SeqT {α : Type} (P : Program) (g : Nat) (lb : Array Value) (encs : α → Array Value) (T : TypeId) (Kp : World → World → Prop) (Adm S Sp : List α → Prop) (w : World) : Prop :=
  ∀ (n l : Nat) (J Jx : List α → World → Prop) (W : World), Below w.heap.size w W → AbT T W.heap.size J → AbT T W.heap.size Jx →
    (∀ m pre x W1, J pre W1 → Adm (pre ++ [x]) → YieldAt Fence.wide m P l (encs x) W1 fun e W' =>
      (e = .returned (.bool true) ∧ J (pre ++ [x]) W' ∧ Kp W1 W') ∨ (e = .returned (.bool false) ∧ Jx (pre ++ [x]) W')) →
    J [] W →
    CallsIn Fence.wide n P g (#[.func (.yield l) #[] #[]] ++ lb) W fun e W' => (∃ v, e = .returned v) ∧ ((∃ xs, S xs ∧ J xs W') ∨ (∃ pre, Sp pre ∧ Jx pre W'))

variable {n : Nat} {P : Program}
/-! ### A region that draws its order, within a round -/
def noDefer (o : Oper) : Bool := match o.op with | .defer _ => false | _ => true
end Go.Proofs.YteogcababfenfaaGreat

/- Contracts: impl's search for cases, an iterator. -/
namespace Go.Proofs.YteogcababfenfaaGreat
open Go Go.RowKit Go.Proofs
attribute [local go_sem ↓] Go.wp_at_zero Go.wp_at_succ
attribute [local go_sem] Oper.semAt_some

abbrev tAs : Nat := 51
/-- a case's nine cells, written out -/
abbrev case9 (c : List Int) : Array Value := #[.int .i64 (cl c 0), .int .i64 (cl c 1), .int .i64 (cl c 2), .int .i64 (cl c 3), .int .i64 (cl c 4), .int .i64 (cl c 5), .int .i64 (cl c 6), .int .i64 (cl c 7), .int .i64 (cl c 8)]
theorem case9_eq {c : List Int} (h : c.length = 9) : case9 c = (encI c).toArray := by
  match c, h with
  | [c0, c1, c2, c3, c4, c5, c6, c7, c8], _ => rfl
theorem Blk.case {w : World} {g : Nat} {t : TypeId} {c : List Int} (h : Blk w g t (case9 c)) (hc : c.length = 9) : Blk w g t (encI c).toArray := by rw [← case9_eq hc]; exact h
theorem Rw.keepB {w w' : World} {lo hi size n n₀ : Nat} {A : Option Addr} {xs : List Value} (h : Rw w lo hi size A n xs) (hb : Below n₀ w w') (hh : hi ≤ n₀) : Rw w' lo hi size A n xs := h.keep fun b _ h2 => hb.block b (by omega)
theorem AsnV.keepB {w w' : World} {lo hi n₀ : Nat} {v : Value} {a : Asn} (h : AsnV w lo hi v a) (hb : Below n₀ w w') (hh : hi ≤ n₀) : AsnV w' lo hi v a := by
  obtain ⟨A1, c1, A2, c2, e, h1, h2⟩ := h
  exact ⟨A1, c1, A2, c2, e, ⟨h1.raw.keepB hb hh, h1.lim⟩, ⟨h2.raw.keepB hb hh, h2.lim⟩⟩
/-- a case of a for the terms of S -/
abbrev CaseT (a : Asn) (S : Nat) := { c : List Int // c ∈ cases a S }
theorem CaseT.len {a : Asn} {S : Nat} (x : CaseT a S) : x.1.length = 9 := by
  have h := x.2
  unfold cases at h
  exact (gen_ok S 9 zeros x.1 (by omega) rfl (List.mem_filter.1 h).1).1
theorem CaseT.pos {a : Asn} {S : Nat} (x : CaseT a S) (j : Nat) (hj : j < 9) : (S.testBit j = true → 0 ≤ cl x.1 j ∧ cl x.1 j ≤ j) ∧ (S.testBit j = false → cl x.1 j = -1) := by
  have h := x.2
  unfold cases at h
  exact (gen_ok S 9 zeros x.1 (by omega) rfl (List.mem_filter.1 h).1).2.2 j (by omega) hj
/-- the parts that the loop at one place runs through -/
def extAt (a : Asn) (S n : Nat) (c : List Int) (k : Nat) : List (List Int) := if k < 8 - n ∧ cl c k ≠ k then [] else if poss a (c.set (8 - n) k) (8 - n : Nat) then ext a S n (c.set (8 - n) k) else []
end Go.Proofs.YteogcababfenfaaGreat

/- Contracts: impl's cases as an iterator value; the first case. -/
namespace Go.Proofs.YteogcababfenfaaGreat
open Go Go.RowKit Go.Proofs
attribute [local go_sem ↓] Go.wp_at_zero Go.wp_at_succ
attribute [local go_sem] Oper.semAt_some

abbrev tTS : Nat := 98
/-- the terms of a case of a: nil, a's and the further ones F -/
def caseS (a : Asn) (F : Nat) : Nat := tins (tset (termsL a)) 0 ||| F
/-- nine cells of one block, stored -/
abbrev set9 (w : World) (g : Nat) (v0 v1 v2 v3 v4 v5 v6 v7 v8 : Value) : World := (((((((((w.setCell ⟨g, 0, none⟩ v0).setCell ⟨g, 1, none⟩ v1).setCell ⟨g, 2, none⟩ v2).setCell ⟨g, 3, none⟩ v3).setCell ⟨g, 4, none⟩ v4).setCell ⟨g, 5, none⟩ v5).setCell ⟨g, 6, none⟩ v6).setCell ⟨g, 7, none⟩ v7).setCell ⟨g, 8, none⟩ v8)
theorem Blk.nine {w : World} {g : Nat} {t : TypeId} {a0 a1 a2 a3 a4 a5 a6 a7 a8 v0 v1 v2 v3 v4 v5 v6 v7 v8 : Value} (h : Blk w g t #[a0, a1, a2, a3, a4, a5, a6, a7, a8]) : Blk (set9 w g v0 v1 v2 v3 v4 v5 v6 v7 v8) g t #[v0, v1, v2, v3, v4, v5, v6, v7, v8] := by
  have h0 := h.set_ 0 v0
  simp only [List.setIfInBounds_toArray, List.set_cons_zero] at h0
  have h1 := h0.set_ 1 v1
  simp only [List.setIfInBounds_toArray, List.set_cons_zero, List.set_cons_succ] at h1
  have h2 := h1.set_ 2 v2
  simp only [List.setIfInBounds_toArray, List.set_cons_zero, List.set_cons_succ] at h2
  have h3 := h2.set_ 3 v3
  simp only [List.setIfInBounds_toArray, List.set_cons_zero, List.set_cons_succ] at h3
  have h4 := h3.set_ 4 v4
  simp only [List.setIfInBounds_toArray, List.set_cons_zero, List.set_cons_succ] at h4
  have h5 := h4.set_ 5 v5
  simp only [List.setIfInBounds_toArray, List.set_cons_zero, List.set_cons_succ] at h5
  have h6 := h5.set_ 6 v6
  simp only [List.setIfInBounds_toArray, List.set_cons_zero, List.set_cons_succ] at h6
  have h7 := h6.set_ 7 v7
  simp only [List.setIfInBounds_toArray, List.set_cons_zero, List.set_cons_succ] at h7
  have h8 := h7.set_ 8 v8
  simp only [List.setIfInBounds_toArray, List.set_cons_zero, List.set_cons_succ] at h8
  exact h8
end Go.Proofs.YteogcababfenfaaGreat

/- Cases and valuations: an assertion is consistent exactly if some valuation satisfies it; what tidying keeps. Plain; no program. -/
namespace Go.Proofs.YteogcababfenfaaGreat
open Go

def fillM (M : Int → Int) (x : Atm) : Bool := decide (x.kind = 1) || !decide (M x.a = M x.b)
/-- the valuation M satisfies a -/
structure Sat (M : Int → Int) (a : Asn) : Prop where
  facts : ∀ f ∈ a.facts, decide (M f.a = M f.b) = f.eq
  nil : ∀ x ∈ a.atoms, fillM M x = true → M x.a ≠ M 0
  apart : ((a.atoms.filter (fillM M)).map fun x => M x.a).Nodup

/-- the least term of S with the value of j -/
def leastM (M : Int → Int) (S j : Nat) : Nat := ((List.range (j + 1)).find? fun k => S.testBit k && decide (M (k : Int) = M (j : Int))).getD j
def canon (M : Int → Int) (S : Nat) : List Int := (List.range 9).map fun j => if S.testBit j then ((leastM M S j : Nat) : Int) else -1
/-- an assertion is consistent exactly if some valuation satisfies it -/
def consB (a : Asn) : Bool := a.valid && !(cases a (caseS a 0)).isEmpty
/-! tidying -/
theorem swp_val {M : Int → Int} {x t : Int} (h : M x = M t) (s : Int) : M (swp x t s) = M s := by
  unfold swp; split
  · rename_i e; rw [e, h]
  · rfl
theorem Sat.subst {M : Int → Int} {a : Asn} (h : Sat M a) {x t : Int} (e : M x = M t) : Sat M (substA x t a) := by
  have hfill : ∀ z : Atm, fillM M (z.sub x t) = fillM M z := fun z => by
    unfold fillM Atm.sub
    simp only [swp_val e]
  refine ⟨fun f hf => ?_, fun y hy hfi => ?_, ?_⟩
  · obtain ⟨g, hg, rfl⟩ := List.mem_map.1 hf
    simp only [Fct.sub, swp_val e]
    exact h.facts g hg
  · obtain ⟨z, hz, rfl⟩ := List.mem_map.1 hy
    rw [hfill] at hfi
    simp only [Atm.sub, swp_val e]
    exact h.nil z hz hfi
  · have h3 := h.apart
    simp only [substA, List.filter_map, List.map_map]
    rw [List.filter_congr (q := fillM M) fun z _ => by simp [hfill]]
    have e2 : ((fun y : Atm => M y.a) ∘ Atm.sub x t) = fun y : Atm => M y.a := by
      funext z; simp only [Function.comp, Atm.sub, swp_val e]
    rw [e2]; exact h3
theorem Sat.less {M : Int → Int} {a : Asn} (h : Sat M a) {fs : List Fct} {xs : List Atm} (hf : ∀ f ∈ fs, f ∈ a.facts) (hx : xs.Sublist a.atoms) : Sat M ⟨fs, xs⟩ :=
  ⟨fun f hm => h.facts f (hf f hm), fun x hm => h.nil x (hx.subset hm), h.apart.sublist ((hx.filter _).map _)⟩
theorem subOf_fact {K : Nat} {f : Fct} {x t : Int} (h : subOf K f = some (x, t)) : f.eq = true := by
  unfold subOf at h
  split at h
  · rename_i hc; simp at hc; exact hc.1
  · cases h
theorem Sat.subAll {M : Int → Int} {K : Nat} : ∀ (n : Nat) (a : Asn), (left K a).length ≤ n → Sat M a → Sat M (subAll K a) := by
  intro n
  induction n with
  | zero =>
    intro a hn hv
    cases h : subStep K a.facts with
    | none => rw [subAll_none h]; exact hv
    | some p => obtain ⟨x, t⟩ := p; have := left_lt h; omega
  | succ n ih =>
    intro a hn hv
    cases h : subStep K a.facts with
    | none => rw [subAll_none h]; exact hv
    | some p =>
      obtain ⟨x, t⟩ := p
      rw [subAll_some h]
      refine ih _ (by have := left_lt h; omega) (hv.subst ?_)
      obtain ⟨f, hf, hs⟩ := List.exists_of_findSome?_eq_some h
      have h1 := hv.facts f hf
      rw [subOf_fact hs, decide_eq_true_eq] at h1
      rcases (subOf_spec hs).2.2 with ⟨e1, e2⟩ | ⟨e1, e2⟩ <;> rw [e1, e2]
      · exact h1
      · exact h1.symm
theorem nfold_mem (fs : List Fct) : ∀ (acc : List Fct) (g : Fct), g ∈ fs.foldl nfStep acc → g ∈ acc ∨ ∃ f ∈ fs, g = nfF f := by
  induction fs with
  | nil => intro acc g h; exact Or.inl h
  | cons f fs ih =>
    intro acc g h
    rw [List.foldl_cons] at h
    rcases ih _ _ h with h | ⟨f', hf', e⟩
    · unfold nfStep at h
      split at h
      · exact Or.inl h
      · split at h
        · exact Or.inl h
        · rcases List.mem_append.1 h with h | h
          · exact Or.inl h
          · exact Or.inr ⟨f, List.mem_cons_self, List.mem_singleton.1 h⟩
    · exact Or.inr ⟨f', List.mem_cons_of_mem _ hf', e⟩
theorem Sat.normal {M : Int → Int} {a : Asn} (h : Sat M a) : Sat M (normalF a) := by
  have hs := h.less (fs := []) (xs := a.atoms.filter nfA) (fun _ hf => by cases hf) List.filter_sublist
  refine ⟨fun g hg => ?_, hs.nil, hs.apart⟩
  rcases nfold_mem _ _ _ hg with h1 | ⟨f, hf, rfl⟩
  · cases h1
  · have := h.facts f hf
    unfold nfF
    split
    · simp only []
      rw [← this, decide_eq_decide]
      exact eq_comm
    · exact this
end Go.Proofs.YteogcababfenfaaGreat

/- The case of a valuation, entry by entry. Plain; no program. -/
namespace Go.Proofs.YteogcababfenfaaGreat
open Go Go.RowKit

/-- the entry of the state's case at j -/
def caseAt (M : Int → Int) (S j : Nat) : Int := if S.testBit j then ((leastM M S j : Nat) : Int) else -1
end Go.Proofs.YteogcababfenfaaGreat

/- A state in which a part holds satisfies the assertion; its case. Plain; no program. -/
namespace Go.Proofs.YteogcababfenfaaGreat
open Go Go.RowKit

/-- the case of a state -/
def caseOfF (s : Ste) (a : Asn) : List Int := canon (tval s.values) (caseS a 0)
def caseOfL (s : Ste) (a : Asn) : List Int := if s.valid && a.valid then caseOfF s a else []
end Go.Proofs.YteogcababfenfaaGreat

/- The model of a case: values and heap; it holds and has that case. Plain; no program. -/
namespace Go.Proofs.YteogcababfenfaaGreat
open Go Go.RowKit

theorem cont_set8 {h : List Int} (hl : h.length = 8) {m n : Int} (hm : addrB m = true) (hn : addrB n = true) (v : Int) : cont (h.set (m - 1).toNat v) n = if n = m then v else cont h n := by
  unfold cont
  rw [if_pos hn, if_pos hn]
  simp only [addrB, decide_eq_true_eq] at hm hn
  by_cases e : n = m
  · subst e
    rw [if_pos rfl, List.getElem?_set_self (by omega)]; rfl
  · rw [if_neg e, List.getElem?_set_ne (by omega)]
def heapS (vs : List Int) (h : List Int) (xs : List Atm) : List Int := xs.foldl (fun h x => h.set (tval vs x.a - 1).toNat (tval vs x.b)) h
def blank8 : List Int := List.replicate 8 (-1)
/-- equal valuations on the terms satisfy the same -/
theorem Sat.same {M N : Int → Int} {a : Asn} (h : Sat N a) (he : ∀ s t, (s = 0 ∨ s ∈ termsL a) → (t = 0 ∨ t ∈ termsL a) → (M s = M t ↔ N s = N t)) : Sat M a := by
  have hX : ∀ x ∈ a.atoms, x.a ∈ termsL a ∧ x.b ∈ termsL a := fun x hx => by
    simp only [termsL, List.mem_append, List.mem_flatMap]
    exact ⟨Or.inr ⟨x, hx, by simp [atomT]⟩, Or.inr ⟨x, hx, by simp [atomT]⟩⟩
  have hF : ∀ x ∈ a.facts, x.a ∈ termsL a ∧ x.b ∈ termsL a := fun x hx => by
    simp only [termsL, List.mem_append, List.mem_flatMap]
    exact ⟨Or.inl ⟨x, hx, by simp [factT]⟩, Or.inl ⟨x, hx, by simp [factT]⟩⟩
  have hfill : ∀ x ∈ a.atoms, fillM M x = fillM N x := fun x hx => by
    unfold fillM
    congr 2
    rw [decide_eq_decide]
    exact he _ _ (Or.inr (hX x hx).1) (Or.inr (hX x hx).2)
  refine ⟨fun f hf => ?_, fun x hx hf e => ?_, ?_⟩
  · rw [← h.facts f hf, decide_eq_decide]
    exact he _ _ (Or.inr (hF f hf).1) (Or.inr (hF f hf).2)
  · rw [hfill x hx] at hf
    exact h.nil x hx hf ((he _ _ (Or.inr (hX x hx).1) (Or.inl rfl)).1 e)
  · rw [List.filter_congr hfill]
    have h1 := h.apart
    unfold List.Nodup at h1 ⊢
    rw [List.pairwise_map] at h1 ⊢
    exact h1.imp_of_mem fun {x y} hx hy hne e => hne ((he _ _ (Or.inr (hX x (List.mem_filter.1 hx).1).1) (Or.inr (hX y (List.mem_filter.1 hy).1).1)).1 e)

/-- the number of the class k among the classes other than nil's -/
def rk (c : List Int) (k : Int) : Nat := ((List.range' 1 8).filter fun j : Nat => decide ((j : Int) ≤ k) && decide (cl c (j : Int) = j)).length
def mval (c : List Int) (t : Int) : Int := if 0 < cl c t then (rk c (cl c t) : Int) else 0
def modV (c : List Int) : List Int := (List.range' 1 8).map fun t : Nat => mval c (t : Int)
/-- classes as the loop's rounds have them -/
def Cls (S : Nat) (c : List Int) : Prop := ∀ j : Nat, j < 9 → (S.testBit j = true → (0 ≤ cl c j ∧ cl c j ≤ j) ∧ cl c (cl c j) = cl c j) ∧ (S.testBit j = false → cl c j = -1)
theorem Cls.zero {S : Nat} {c : List Int} (h : Cls S c) (h0 : S.testBit 0 = true) : cl c 0 = 0 := by
  have h1 := ((h 0 (by omega)).1 h0).1
  have e : ((0 : Nat) : Int) = 0 := rfl
  rw [e] at h1
  omega
/-- the model of a case -/
def modS (a : Asn) (c : List Int) : Ste := ⟨modV c, heapS (modV c) blank8 (filledL a.atoms c)⟩
/-- ModelOf: the model of the first case -/
def modelL (a : Asn) : Ste := modS a ((cases a (caseS a 0)).head?.getD zeros)
end Go.Proofs.YteogcababfenfaaGreat

/- The cells that an assertion describes: in a larger state and in a smaller one, and those of a conjunction. Plain; no program. -/
namespace Go.Proofs.YteogcababfenfaaGreat
open Go Go.RowKit

/-- the cells of h' lie in h as they are -/
def Sub (h' h : List Int) : Prop := ∀ x, allocB h' x = true → allocB h x = true ∧ cont h x = cont h' x
/-! states -/
/-- a state with some cells alone -/
def keepH (h : List Int) (p : Int → Bool) : List Int := (List.range' 1 8).map fun n : Nat => if p (n : Int) then cont h n else -1
def keepS (s : Ste) (p : Int → Bool) : Ste := ⟨s.values, keepH s.heap p⟩
theorem cont_keep {h : List Int} {p : Int → Bool} {x : Int} : cont (keepH h p) x = if p x then cont h x else -1 := by
  unfold cont
  by_cases ha : addrB x = true
  · rw [if_pos ha, if_pos ha]
    have ha' := ha
    simp only [addrB, decide_eq_true_eq] at ha'
    unfold keepH
    rw [List.getElem?_map, List.getElem?_range' (by omega)]
    have e : ((1 + 1 * (x - 1).toNat : Nat) : Int) = x := by omega
    simp only [Option.map_some, Option.getD_some, e]
    unfold cont
    rw [if_pos ha]
  · rw [if_neg ha, if_neg ha]
    split <;> rfl
theorem keep_valid {s : Ste} (hs : s.valid = true) (p : Int → Bool) : (keepS s p).valid = true := by
  have hs' := hs
  simp only [Ste.valid, Bool.and_eq_true, decide_eq_true_eq] at hs ⊢
  refine ⟨⟨hs.1.1, by simp [keepS, keepH]⟩, hs.2.1, ?_⟩
  rw [List.all_eq_true]
  intro x hx
  obtain ⟨n, hn, rfl⟩ := List.mem_map.1 hx
  split
  · have := cont_le hs.2.2 (n : Int)
    simp [cellB, valB]; omega
  · simp [cellB]

/-! the laws -/
end Go.Proofs.YteogcababfenfaaGreat
