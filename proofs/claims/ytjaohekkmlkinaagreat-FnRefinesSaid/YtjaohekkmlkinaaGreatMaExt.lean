/- A loop over an iterator that keeps state of its own in cells of one type T. No program. -/
import Derived.RangeFuncWrites
import Derived.RangeFuncLeaves
import Derived.RangeFuncBound
import Derived.RangeFuncCalls
import Derived.WalkKit
import Derived.OwnWalkIn
import Derived.TacticsInMore
import Derived.LoopNIn
import Derived.LoopIn
import Derived.OrdersIn
import Derived.Deep.RegionHeld3
import Derived.Test.YtjaohekkmlkinaaGreatMaCaseW
import Derived.Shelf.Abstract
set_option linter.unusedSimpArgs false
set_option linter.unusedVariables false
set_option maxRecDepth 100000
set_option maxHeartbeats 25600000
namespace Go.Proofs.YtjaohekkmlkinaaGreat
section
open Go Go.RowKit
def Turn (T : TypeId) (B : Nat) (W : World) (row : Option Nat) : Prop := ∀ r, row = some r → B ≤ r ∧ ∃ o : Obj, W.heap[r]? = some o ∧ (o.isCells = false ∨ ∃ cs, o = .cells cs T (0, 0))
def OwnT {β : Type} (T : TypeId) (B : Nat) (I : β → World → Prop) : Prop := ∀ s W W' row, I s W → W.grownBy W' row → Turn T B W row → I s W'
def TurnC (T : TypeId) (B : Nat) (W : World) (row : Option Nat) : Prop := ∀ r, row = some r → B ≤ r ∧ ∃ cs, W.heap[r]? = some (.cells cs T (0, 0))
def AbT {β : Type} (T : TypeId) (B : Nat) (J : β → World → Prop) : Prop := ∀ s W W' row, J s W → W.grownBy W' row → TurnC T B W row → J s W'
structure Kept (T1 T2 : TypeId) (n₀ : Nat) (W W' : World) : Prop where
  bz : Below n₀ W W'
  keep : ∀ (g : Nat) (t : TypeId) (cs : Array Value), (t = T1 ∨ t = T2) → Blk W g t cs → Blk W' g t cs
section
variable {T1 T2 T : TypeId} {n₀ B : Nat} {A W W' W2 : World}
theorem Kept.refl (W : World) : Kept T1 T2 n₀ W W := ⟨Below.refl _ _, fun _ _ _ _ h => h⟩
theorem Kept.trans (h : Kept T1 T2 n₀ A W) (k : Kept T1 T2 n₀ W W') : Kept T1 T2 n₀ A W' := ⟨h.bz.trans k.bz, fun g t cs ht hb => k.keep g t cs ht (h.keep g t cs ht hb)⟩
theorem Kept.nz (h : Below W.heap.size W W') (hn : n₀ ≤ W.heap.size) : Kept T1 T2 n₀ W W' := ⟨h.mono hn, fun _ _ _ _ hb => hb.nz h⟩
theorem Kept.alloc (hn : n₀ ≤ W.heap.size) (o : Obj) : Kept T1 T2 n₀ W (W.alloc o) := ⟨(Below.refl _ _).alloc hn _, fun _ _ _ _ hb => hb.alloc o⟩
theorem Kept.set {cs : Array Value} (hk : Blk W B T cs) (hn : n₀ ≤ B) (h1 : T ≠ T1) (h2 : T ≠ T2) (i : Nat) (u : Value) : Kept T1 T2 n₀ W (W.setCell ⟨B, i, none⟩ u) :=
  ⟨(Below.refl _ _).setCell (p := ⟨B, i, none⟩) hn _, fun g t cs ht hb => hb.far (p := ⟨B, i, none⟩) (by
    intro e;have e : g = B := e;subst e;rcases ht with rfl | rfl
    · exact (hb.ne_ hk (fun e => h1 e.symm)) rfl
    · exact (hb.ne_ hk (fun e => h2 e.symm)) rfl) _⟩
theorem Kept.put {l : Nat} {o : Obj} (o' : Obj) (hn : n₀ ≤ l) (hl : W.heap[l]? = some o) (ho : o.isCells = false) : Kept T1 T2 n₀ W (W.putObj l o') :=
  ⟨(Below.refl n₀ W).grown (grownBy_putObj' W l o') (by have := (Array.getElem?_eq_some_iff.1 hl).1; omega) (fun k e => by cases e; omega),
   fun g t cs _ hb => (World.putObj_heap_other (fun e => by subst e; unfold Blk at hb; rw [hl] at hb; cases hb; cases ho)).trans hb⟩
theorem Kept.app {row : Option Nat} (hg : W.grownBy W' row) (hb : Below n₀ W W') (hr : ∀ r, row = some r → ∃ t cs, Blk W r t cs ∧ t ≠ T1 ∧ t ≠ T2) : Kept T1 T2 n₀ W W' :=
  ⟨hb, fun g t cs ht hk => hk.grown hg (fun e => by
    obtain ⟨t', cs', hk', g1, g2⟩ := hr g e.symm;unfold Blk at hk hk';rw [hk] at hk';injection hk' with hk';injection hk' with _ e2;subst e2;rcases ht with h | h
    · exact g1 h
    · exact g2 h)⟩

theorem OwnT.put {β : Type} {I : β → World → Prop} (h : OwnT T B I) {s : β} {l : Nat} {o : Obj} (o' : Obj) (hs : I s W) (hB : B ≤ l) (hl : W.heap[l]? = some o) (ho : o.isCells = false) : I s (W.putObj l o') :=
  h s W _ (some l) hs (grownBy_putObj' W l o') (fun r e => by cases e; exact ⟨hB, o, hl, Or.inl ho⟩)
theorem OwnT.alloc {β : Type} {I : β → World → Prop} (h : OwnT T B I) {s : β} (o : Obj) (hs : I s W) : I s (W.alloc o) :=
  h s W _ none hs (World.grownBy_alloc W o none) (fun r e => by cases e)
theorem grown_of_below {row : Option Nat} (h : Below W.heap.size W W') : W.grownBy W' row := ⟨h.os, h.tape, h.output, h.size, fun k hk _ => h.block k hk⟩
theorem AbT.nz {β : Type} {J : β → World → Prop} (h : AbT T B J) {s : β} (hs : J s W) (hb : Below W.heap.size W W') : J s W' := h s W W' none hs (grown_of_below hb) (fun r e => by cases e)
theorem AbT.set {β : Type} {J : β → World → Prop} (h : AbT T B J) {s : β} (hs : J s W) {g : Nat} {cs : Array Value} (hk : Blk W g T cs) (hg : B ≤ g) (i : Nat) (u : Value) : J s (W.setCell ⟨g, i, none⟩ u) :=
  h s W _ (some g) hs ⟨rfl, rfl, rfl, by simp, fun k hk' hne => Below.heap_setCell W ⟨g, i, none⟩ u k (fun e => hne (by rw [e]))⟩ (fun r e => by cases e; exact ⟨hg, cs, hk⟩)

theorem OwnT.and {β : Type} {I I' : β → World → Prop} (h : OwnT T B I) (h' : OwnT T B I') : OwnT T B (fun s W => I s W ∧ I' s W) := fun s W W' row hs hg hr => ⟨h s W W' row hs.1 hg hr, h' s W W' row hs.2 hg hr⟩
theorem Blk.turn {g : Nat} {t : TypeId} {cs : Array Value} {row : Option Nat} (h : Blk W g t cs) (hg : W.grownBy W' row) (hr : Turn T B W row) (ht : t ≠ T ∨ g < B) : Blk W' g t cs :=
  h.grown hg (fun e => by
    obtain ⟨hb, o, ho, hc⟩ := hr g e.symm;unfold Blk at h;rw [h] at ho;cases ho;rcases hc with hc | ⟨cs', hc⟩
    · cases hc
    · injection hc with _ e2
      rcases ht with ht | ht
      · exact ht e2
      · omega)
theorem Below.turn {row : Option Nat} (h : Below n₀ A W) (hg : W.grownBy W' row) (hr : Turn T B W row) (hn : n₀ ≤ B) (hw : n₀ ≤ W.heap.size) : Below n₀ A W' :=
  h.grown hg hw (fun k e => by have := (hr k e).1; omega)
end

def postT {α : Type} (B : Nat) (Kp : World → World → Prop) (I : List α → World → Prop) (Ix : Code → List α → World → Prop) (xs : List α) (W : World) : Exit → Act → World → Prop
  | .normal, _, W' => KeepsFrom B W W' ∧ Kp W W' ∧ I xs W'
  | .ret, _, W' => KeepsFrom B W W' ∧ Ix .ret xs W'
  | .exit id, _, W' => KeepsFrom B W W' ∧ Ix (.exit id) xs W'
  | .goto t, _, W' => KeepsFrom B W W' ∧ Ix (.goto t) xs W'
  | .panic _, _, _ => False
  | .outgrown, _, _ => False
def SeqT {α : Type} (P : Program) (g : Nat) (lb : Array Value) (encs : α → Array Value) (T : TypeId) (Kp : World → World → Prop) (Adm S Sp : List α → Prop) (w : World) : Prop :=
  ∀ (n l : Nat) (J Jx : List α → World → Prop) (W : World), Below w.heap.size w W → AbT T W.heap.size J → AbT T W.heap.size Jx →
    (∀ m pre x W1, J pre W1 → Adm (pre ++ [x]) → YieldAt Fence.wide m P l (encs x) W1 fun e W' =>
      (e = .returned (.bool true) ∧ J (pre ++ [x]) W' ∧ Kp W1 W') ∨ (e = .returned (.bool false) ∧ Jx (pre ++ [x]) W')) →
    J [] W →
    CallsIn Fence.wide n P g (#[.func (.yield l) #[] #[]] ++ lb) W fun e W' => (∃ v, e = .returned v) ∧ ((∃ xs, S xs ∧ J xs W') ∨ (∃ pre, Sp pre ∧ Jx pre W'))

variable {n : Nat} {P : Program}
theorem wp_rangeT {α : Type} {g : Operand} {ps : Array Tmp} {assign body : Code} {Q : Exit → Act → World → Prop} {a : Act} {w : World}
    {gf : Nat} {lb : Array Value} (hg : a.eval g = .func (.func gf) #[] lb) (eg : ∀ args w, (callFunc gf args).run P w = .ok (.enter gf args) w)
    {encs : α → Array Value} {T : TypeId} {Kp : World → World → Prop} {Adm S Sp : List α → Prop} {w0 : World} (hseq : SeqT P gf lb encs T Kp Adm S Sp w0)
    (hKt : ∀ {A B C : World}, Kp A B → Kp B C → Kp A C) (hKb : ∀ (W : World) (l : Nat) (o o' : Obj), w.heap.size ≤ l → W.heap[l]? = some o → o.isCells = false → Kp W (W.putObj l o')) (hb0 : Below w0.heap.size w0 w) (hps : ∀ x, (encs x).size = ps.size)
    (I : List α → World → Prop) (Ix : Code → List α → World → Prop) (hI : OwnT T w.heap.size I) (hIx : ∀ c, OwnT T w.heap.size (Ix c)) (h0 : I [] w)
    (hround : ∀ (l : Nat) (pre : List α) (x : α) (W : World), w.heap.size ≤ l → I pre W → Adm (pre ++ [x]) →
      assign.wpIn (Fence.wide.inRound l) (n - 1 - 1) P (Exit.then (fun a1 W1 => KeepsFrom w.heap.size W W1 ∧ Kp W W1 ∧ ∀ (o o' : Obj), W1.heap[l]? = some o → o.isCells = false →
        body.wpIn (Fence.wide.inRound l) (n - 1 - 1) P (postT w.heap.size Kp I Ix (pre ++ [x]) (W1.putObj l o')) a1 (W1.putObj l o')) (fun _ _ _ => False)) { tmps := (ps.zip (encs x)).foldl (fun t (p, v) => t.setIfInBounds p v) a.tmps, defers := [] } W)
    (hdone : ∀ (D : Nat) (xs : List α) (W : World), w.heap.size ≤ D → S xs → I xs W → W.heap[D]? = some (.deferred (some [])) → Q .normal { a with defers := { target := .collected D, args := #[] } :: a.defers } W)
    (hstop : ∀ (D : Nat) (c : Code) (pre : List α) (W : World), w.heap.size ≤ D → Sp pre → Ix c pre W → W.heap[D]? = some (.deferred (some [])) → c.wpIn Fence.wide n P Q { a with defers := { target := .collected D, args := #[] } :: a.defers } W) :
    (Code.rangeFunc g ps assign body).wpIn Fence.wide n P Q a w := by
  refine wpIn_rangeFunc fun fn hfn => ?_;show ∃ (l : Nat) (mark : List Deferred) (w₁ : World) (d : Deferred) (w₁' : World) (f : FuncId) (args : Array Value) (w₂ : World), (Instr.enterLoop fn a.tmps ps assign body none).run P w = .ok (l, mark) w₁ ∧ _
  let rec_ : LoopState → Option Code → Loop := fun st pe => { state := st, pending := pe, fn, tmps := a.tmps, params := ps, assign, body, defers := w.heap.size }
  let W1 := (w.alloc (.deferred (some []))).alloc (.loop (rec_ .ready none))
  have hL1 : W1.heap[w.heap.size + 1]? = some (.loop (rec_ .ready none)) := by
    have := World.alloc_heap_new (w.alloc (.deferred (some []))) (.loop (rec_ .ready none)); rwa [World.size_alloc] at this
  have hK1 : W1.heap[w.heap.size]? = some (.deferred (some [])) := (Below.heap_alloc _ _ _ (by simp)).trans (World.alloc_heap_new w _);have hs1 : W1.heap.size = w.heap.size + 1 + 1 := by simp [W1]
  have hcy : ∀ {X Y : World} {row : Option Nat}, TurnC T W1.heap.size X row → Turn T w.heap.size X row := fun h r e => by
    obtain ⟨h1, cs, h2⟩ := h r e;exact ⟨by omega, _, h2, Or.inr ⟨cs, rfl⟩⟩
  have hst : ∀ {X Y : World} {row : Option Nat} {k : Nat} {o : Obj}, X.grownBy Y row → TurnC T W1.heap.size X row → X.heap[k]? = some o → o.isCells = false → Y.heap[k]? = some o := fun hg' hr hk ho =>
    (hg'.block _ (Array.getElem?_eq_some_iff.1 hk).1 (fun e => by
      obtain ⟨-, cs, h2⟩ := hr _ e.symm
      rw [hk] at h2; cases h2; cases ho)).trans hk
  refine ⟨w.heap.size + 1, [{ target := .collected w.heap.size, args := #[] }], W1, { target := .fn (.func gf) lb, args := #[.func (.yield (w.heap.size + 1)) #[] #[]] }, W1, gf,
    #[.func (.yield (w.heap.size + 1)) #[] #[]] ++ lb, W1, run_enterLoop_outer _ _ _ _ _, ?_, fun _ _ => trivial, ?_, fun h => (by cases h), ?_⟩
  · simp only [resolve, hg]
    simp [go_sem]
  · simp [invoke, go_sem, eg]
  · refine (hseq (n - 1) (w.heap.size + 1)
      (fun pre W => I pre W ∧ W.heap[w.heap.size + 1]? = some (.loop (rec_ .ready none)) ∧ W.heap[w.heap.size]? = some (.deferred (some [])))
      (fun pre W => ∃ c, Ix c pre W ∧ W.heap[w.heap.size + 1]? = some (.loop (rec_ .done (some c))) ∧ W.heap[w.heap.size]? = some (.deferred (some [])))
      W1 (hb0.trans ((((Below.refl _ w).alloc (Nat.le_refl _) _).alloc (by simp) _).mono hb0.size))
      (fun s X Y row hs hg' hr => ⟨hI s X Y row hs.1 hg' (hcy (Y := Y) hr), hst hg' hr hs.2.1 rfl, hst hg' hr hs.2.2 rfl⟩)
      (fun s X Y row hs hg' hr => by
        obtain ⟨c, hc, hl, hk⟩ := hs
        exact ⟨c, hIx c s X Y row hc hg' (hcy (Y := Y) hr), hst hg' hr hl rfl, hst hg' hr hk rfl⟩)
      ?_ ⟨hI.alloc _ (hI.alloc _ h0), hL1, hK1⟩).mono ?_
    · rintro m pre x W ⟨hi, hl, hk⟩ hadm
      have hlt : w.heap.size + 1 < W.heap.size := (Array.getElem?_eq_some_iff.1 hl).1;have hy := run_yield (P := P) (args := encs x) hl (hps x);refine ⟨fn, _, assign, body, hy, ?_⟩
      have hdep : ∀ {m m' : Nat} {l : Nat} {f : FuncId} {tmps : Array Value} {assign body : Code} {w : World} {R : Ending → World → Prop}, RoundIn Fence.wide m P l f tmps assign body w R → RoundIn Fence.wide m' P l f tmps assign body w R :=
        fun h => ⟨h.1, fun c cs _ => h.2 c cs (room_wide _)⟩
      refine hdep (m := n - 1 - 1) (roundIn_of_wpIn trivial (wpIn_mono (hround (w.heap.size + 1) pre x W (by omega) hi hadm) ?_));rintro e a2 W2 hp
      cases e with
      | normal =>
        obtain ⟨hkf, hkp, hb⟩ := hp;have hl1 := hkf.same _ _ (by omega) hl rfl;have hk1 := hkf.same _ _ (Nat.le_refl _) hk rfl;refine ⟨_, run_beginRound hl1 rfl, ?_⟩;have hlt2 : w.heap.size + 1 < W2.heap.size := (Array.getElem?_eq_some_iff.1 hl1).1;have hl2 : (W2.putObj (w.heap.size + 1) (.loop { rec_ .ready none with state := .busy })).heap[w.heap.size + 1]? = some (.loop { rec_ .ready none with state := .busy }) := World.putObj_heap_same hlt2;have hk2 : (W2.putObj (w.heap.size + 1) (.loop { rec_ .ready none with state := .busy })).heap[w.heap.size]? = some (.deferred (some [])) := (World.putObj_heap_other (by omega)).trans hk1;have hw2 : Kp W2 (W2.putObj (w.heap.size + 1) (.loop { rec_ .ready none with state := .busy })) := hKb _ _ _ _ (by omega) hl1 rfl;refine wpIn_mono (hb _ (.loop { rec_ .ready none with state := .busy }) hl1 rfl) ?_
        have fin : ∀ (jump : Option Code) (W3 : World), KeepsFrom w.heap.size (W2.putObj (w.heap.size + 1) (.loop { rec_ .ready none with state := .busy })) W3 →
            (Instr.endRound (w.heap.size + 1) jump).run P W3 = .ok (.bool jump.isNone) (W3.putObj (w.heap.size + 1) (.loop (rec_ (if jump.isNone then .ready else .done) jump))) ∧
            W3.heap[w.heap.size + 1]? = some (.loop { rec_ .ready none with state := .busy }) ∧
            (W3.putObj (w.heap.size + 1) (.loop (rec_ (if jump.isNone then .ready else .done) jump))).heap[w.heap.size + 1]? = some (.loop (rec_ (if jump.isNone then .ready else .done) jump)) ∧
            (W3.putObj (w.heap.size + 1) (.loop (rec_ (if jump.isNone then .ready else .done) jump))).heap[w.heap.size]? = some (.deferred (some [])) := fun jump W3 hk3 => by
          have hl3 := hk3.same _ _ (by omega) hl2 rfl;exact ⟨run_endRound (P := P) jump hl3, hl3, World.putObj_heap_same (Array.getElem?_eq_some_iff.1 hl3).1, (World.putObj_heap_other (by omega)).trans (hk3.same _ _ (Nat.le_refl _) hk2 rfl)⟩
        rintro e a3 W3 hp
        cases e with
        | normal =>
          obtain ⟨hk3, hkp3, hi3⟩ := hp;obtain ⟨hr, hl3, hl4, hk4⟩ := fin none W3 hk3;exact ⟨_, _, hr, .inl ⟨rfl, ⟨hI.put _ hi3 (by omega) hl3 rfl, hl4, hk4⟩, hKt (hKt (hKt hkp hw2) hkp3) (hKb _ _ _ _ (by omega) hl3 rfl)⟩⟩
        | ret =>
          obtain ⟨hk3, hi3⟩ := hp;obtain ⟨hr, hl3, hl4, hk4⟩ := fin (some .ret) W3 hk3;exact ⟨_, _, hr, .inr ⟨rfl, .ret, (hIx _).put _ hi3 (by omega) hl3 rfl, hl4, hk4⟩⟩
        | exit id =>
          obtain ⟨hk3, hi3⟩ := hp;obtain ⟨hr, hl3, hl4, hk4⟩ := fin (some (.exit id)) W3 hk3;exact ⟨_, _, hr, .inr ⟨rfl, .exit id, (hIx _).put _ hi3 (by omega) hl3 rfl, hl4, hk4⟩⟩
        | goto t =>
          obtain ⟨hk3, hi3⟩ := hp;obtain ⟨hr, hl3, hl4, hk4⟩ := fin (some (.goto t)) W3 hk3;exact ⟨_, _, hr, .inr ⟨rfl, .goto t, (hIx _).put _ hi3 (by omega) hl3 rfl, hl4, hk4⟩⟩
        | panic ch => exact hp.elim
        | outgrown => exact hp.elim
      | ret => exact hp.elim
      | exit id => exact hp.elim
      | goto t => exact hp.elim
      | panic ch => exact hp.elim
      | outgrown => exact hp.elim
    · rintro e W2 ⟨⟨v, rfl⟩, (⟨xs, hS, hi, hl, hk⟩ | ⟨pre, hSp, c, hi, hl, hk⟩)⟩
      · exact ⟨none, _, run_endLoop (P := P) hl (by simp [rec_]), hdone _ xs _ (Nat.le_refl _) hS (hI.put _ hi (by omega) hl rfl) ((World.putObj_heap_other (by omega)).trans hk)⟩
      · exact ⟨some c, _, run_endLoop (P := P) hl (by simp [rec_]), hstop _ c pre _ (Nat.le_refl _) hSp ((hIx c).put _ hi (by omega) hl rfl) ((World.putObj_heap_other (by omega)).trans hk)⟩

/-! ### A region that draws its order, within a round -/
end
section
open Go Go.RowKit Go.Proofs
attribute [local go_sem ↓] Go.wp_at_zero Go.wp_at_succ
attribute [local go_sem] Oper.semAt_some
abbrev tAs:Nat:=37
abbrev case9 (c:List Int):Array Value:=#[.int .i64 (cl c 0),.int .i64 (cl c 1),.int .i64 (cl c 2),.int .i64 (cl c 3),.int .i64 (cl c 4),.int .i64 (cl c 5),.int .i64 (cl c 6),.int .i64 (cl c 7),.int .i64 (cl c 8)]
theorem case9_eq {c:List Int} (h:c.length=9):case9 c=(encI c).toArray:=by
 match c,h with
 | [c0,c1,c2,c3,c4,c5,c6,c7,c8],_=>rfl
theorem case9_set {c:List Int} (h:c.length=9) (m:Nat) (v:Int):(case9 c).setIfInBounds m (.int .i64 v)=case9 (c.set m v):=by
 rw[case9_eq h,case9_eq (by simpa using h)];simp[encI]
theorem Blk.case {w:World} {g:Nat} {t:TypeId} {c:List Int} (h:Blk w g t (case9 c)) (hc:c.length=9):Blk w g t (encI c).toArray:=by rw[←case9_eq hc];exact h
theorem Blk.caseSet {w:World} {g:Nat} {t:TypeId} {c:List Int} (h:Blk w g t (case9 c)) (hc:c.length=9) (m:Nat) (v:Int):Blk (w.setCell ⟨g,m,none⟩ (.int .i64 v)) g t (case9 (c.set m v)):=by
 rw[←case9_set hc];exact h.set_ _ _
theorem case9_cells {w:World} {g:Nat} {t:TypeId} {c:List Int} (h:Blk w g t (case9 c)) :
  w.cell? ⟨g,0,none⟩=some (.int .i64 (cl c 0))∧w.cell? ⟨g,1,none⟩=some (.int .i64 (cl c 1))∧w.cell? ⟨g,2,none⟩=some (.int .i64 (cl c 2))∧w.cell? ⟨g,3,none⟩=some (.int .i64 (cl c 3))∧w.cell? ⟨g,4,none⟩=some (.int .i64 (cl c 4))∧w.cell? ⟨g,5,none⟩=some (.int .i64 (cl c 5))∧w.cell? ⟨g,6,none⟩=some (.int .i64 (cl c 6))∧w.cell? ⟨g,7,none⟩=some (.int .i64 (cl c 7))∧w.cell? ⟨g,8,none⟩=some (.int .i64 (cl c 8)):=by
 have q:=h.cell;exact ⟨q 0,q 1,q 2,q 3,q 4,q 5,q 6,q 7,q 8⟩
theorem Rw.keepB {w w':World} {lo hi size n n₀:Nat} {A:Option Addr} {xs:List Value} (h:Rw w lo hi size A n xs) (hb:Below n₀ w w') (hh:hi≤n₀):Rw w' lo hi size A n xs:=h.keep fun b _ h2=>hb.block b (by omega)
theorem AsnV.keepB {w w':World} {lo hi n₀:Nat} {v:Value} {a:Asn} (h:AsnV w lo hi v a) (hb:Below n₀ w w') (hh:hi≤n₀):AsnV w' lo hi v a:=by
 obtain ⟨A1,c1,A2,c2,e,h1,h2⟩:=h;exact ⟨A1,c1,A2,c2,e,⟨h1.raw.keepB hb hh,h1.lim⟩,⟨h2.raw.keepB hb hh,h2.lim⟩⟩
abbrev CaseT (a:Asn) (S:Nat):={ c:List Int // c∈cases a S }
theorem CaseT.len {a:Asn} {S:Nat} (x:CaseT a S):x.1.length=9:=by
 have h:=x.2;unfold cases at h;exact (gen_ok S 9 zeros x.1 (by omega) rfl (List.mem_filter.1 h).1).1
theorem CaseT.pos {a:Asn} {S:Nat} (x:CaseT a S) (j:Nat) (hj:j<9):(S.testBit j=true→0≤cl x.1 j∧cl x.1 j≤j)∧(S.testBit j=false→cl x.1 j = -1):=by
 have h:=x.2;unfold cases at h;exact (gen_ok S 9 zeros x.1 (by omega) rfl (List.mem_filter.1 h).1).2.2 j (by omega) hj
def extAt (a:Asn) (S n:Nat) (c:List Int) (k:Nat):List (List Int):=if k<8 - n∧cl c k≠k then [] else if poss a (c.set (8 - n) k) (8 - n:Nat) then ext a S n (c.set (8 - n) k) else []
theorem ext_loop (a:Asn) (S n:Nat) (c:List Int) (h:S.testBit (8 - n)=true):ext a S (n+1) c=(List.range (9 - n)).flatMap (extAt a S n c):=by
 conv=>lhs;unfold ext
 rw[h,if_pos rfl];rfl
theorem range_pre {α:Type} {f:Nat→List α} {k n:Nat} (h:k<n) {ys:List α} (hy:ys <+: f k):(List.range k).flatMap f++ys <+: (List.range n).flatMap f:=by
 obtain ⟨zs,hz⟩:=hy;obtain ⟨m,rfl⟩:∃ m,n=k+(m+1):=⟨n - k - 1,by omega⟩;rw[List.range_add,List.range_succ_eq_map,List.map_cons,List.flatMap_append,List.flatMap_cons,Nat.add_zero,←hz];exact ⟨zs++(List.map (fun x=>k+x) (List.map Nat.succ (List.range m))).flatMap f,by simp[List.append_assoc]⟩
theorem Kept.setNew {T1 T2:TypeId} {n₀:Nat} {W W':World} (h:Kept T1 T2 n₀ W W') {p:Addr} (hp:W.heap.size≤p.block) (hn:n₀≤W.heap.size) (u:Value):Kept T1 T2 n₀ W (W'.setCell p u):=
 ⟨h.bz.setCell (by omega) _,fun g t cs ht hb=>(h.keep g t cs ht hb).far (by have:=hb.lt;omega) _⟩
theorem c_impl_extend {a:Asn} {S lo hi l n₀ B:Nat} {v:Value} (hv:a.valid=true) (hS:S<512) (hT:∀ t∈mz a,S.testBit t.toNat=true) (hhi:hi≤n₀)
  (J Jx:List (CaseT a S)→World→Prop) (hJ:AbT tTc B J)
  (hY:∀ m pre (x:CaseT a S) W,J pre W→(pre++[x]).map Subtype.val <+: cases a S→YieldAt Fence.wide m Tryz.prog l #[.agg (case9 x.1)] W fun e W'=>(e=.returned (.bool true)∧J (pre++[x]) W'∧Kept tTc tAs n₀ W W')∨(e=.returned (.bool false)∧Jx (pre++[x]) W')) :
  ∀ (n:Nat) (c:List Int) (pre:List (CaseT a S)) (W:World),n≤9→c.length=9→pre.map Subtype.val++ext a S n c <+: cases a S→(∀ j:Nat,j<9 - n→S.testBit j=true→0≤cl c j∧cl c j≤j)→AsnV W lo hi v a→B≤W.heap.size→n₀≤W.heap.size→J pre W→
   Calls Tryz.prog 202 #[.agg (case9 c),.int .i64 ((9 - n:Nat):Int),v,.int .u16 (S:Nat),.func (.yield l) #[] #[]] W fun e W'=>
    (e=.returned (.bool true)∧∃ ys:List (CaseT a S),ys.map Subtype.val=ext a S n c∧J (pre++ys) W'∧Kept tTc tAs n₀ W W')∨(e=.returned (.bool false)∧∃ ys:List (CaseT a S),ys.map Subtype.val <+: ext a S n c∧Jx (pre++ys) W'):=by
 intro n
 induction n with
 | zero=>
  intro c pre W _ hc hm _ hA hBW hn0 hJp;obtain ⟨A1,c1,A2,c2,rfl,-,-⟩:=hA;have hB0:Below W.heap.size W ((W.alloc (.cells (case9 c) tTc)).alloc (.cells #[.slice A1 a.facts.length c1,.slice A2 a.atoms.length c2] tAs)):=bel;have hJ1:=hJ.nz hJp hB0;have hx:c∈cases a S:=hm.subset (by simp[ext]);obtain ⟨fn,tmps,assign,body,hy,hR⟩:=hY 0 pre ⟨c,hx⟩ _ hJ1 (by simpa[ext] using hm);have hk0:=Kept.nz (T1:=tTc) (T2:=tAs) (n₀:=n₀) hB0 hn0;dsimp only at hy;have hR:=RoundIn.mono hR (R':=fun e W'=>(e=.returned (.bool true)∧J (pre++[⟨c,hx⟩]) W'∧Kept tTc tAs n₀ W W')∨(e=.returned (.bool false)∧Jx (pre++[⟨c,hx⟩]) W')) (fun e W' h=>h.elim (fun h=>Or.inl ⟨h.1,h.2.1,hk0.trans h.2.2⟩) Or.inr);clear hY hJ hk0 hJ1 hB0 hJp hm;refine (callsIn_wide (n:=1)).1 ?_;(refine callsIn_of_wp Tryz.func202 rfl trivial ?_ rfl;simp only[Tryz.ntmps202,List.size_toArray,List.length_cons,List.length_nil,Nat.reduceAdd,Nat.reduceSub,Array.replicate_succ,Array.replicate_zero,List.push_toArray,List.append_toArray,List.nil_append,List.cons_append])
  gi_wp2
  refine hR.mono ?_;rintro e W' (⟨rfl,h1,h2⟩|⟨rfl,h1⟩)
  ·gi_wp2
   go_ret;exact Or.inl ⟨rfl,[⟨c,hx⟩],by simp[ext],h1,h2⟩
  ·gi_wp2
   go_ret;exact Or.inr ⟨rfl,[⟨c,hx⟩],by simp[ext],h1⟩
 | succ n ih=>
  intro c pre W hn hc hm hcl hA hBW hn0 hJp;have hV:=ax hA;obtain ⟨A1,c1,A2,c2,rfl,-,-⟩:=hA;obtain ⟨m,hm8⟩:∃ m,m=8 - n:=⟨_,rfl⟩;have e1:((9 - n:Nat):Int)=(m:Int)+1:=by omega
  rw[show 9 - (n+1)=m from by omega] at hcl ⊢;have hmi:(m:Int)≤8:=by omega
  have hmi9:(m:Int)<9:=by omega
  have hit:jq (m:Int)=true:=by rw[zjA];omega
  have HO:=ax (Asn.valid_ok hv);have IH:=ax ih;have HJ:=ax hJ;have HJP:=ax hJp;have HM:=ax hm;have HCL:=ax hcl;have HM8:=ax hm8;have HT:=ax hT;have HC:=ax hc;have hmg:¬(8<(m:Int)):=by omega
  have hmn:=ax hn;have E1:=ax e1;clear ih hJ hJp hY hm hcl hT hm8 hc hn e1;obtain ⟨W2,hW2⟩:∃ W2,W2=((W.alloc (.cells (case9 c) tTc)).alloc (.cells #[.slice A1 a.facts.length c1,.slice A2 a.atoms.length c2] tAs)):=⟨_,rfl⟩;have k0:Blk W2 W.heap.size tTc (case9 c):=by rw[hW2];exact blks
  have k1:Blk W2 (W.heap.size+1) tAs #[.slice A1 a.facts.length c1,.slice A2 a.atoms.length c2]:=by rw[hW2];exact blks
  have hB:Below W.heap.size W W2:=by rw[hW2];exact bel
  have HW2:=ax hW2;clear hW2;(go_enter Tryz.func202,Tryz.ntmps202);(go_wp2_with fail);refine (c_impl_tHas S (m:Int) _ hS).mono ?_;rintro e W3 ⟨rfl,rfl⟩;rw[hit,Int.toNat_natCast,Bool.true_and,←HW2.o];have lk0:=k0.lt;have lk1:=k1.lt;have rk0:=k0.frozen;clear HW2;cases ht:S.testBit m
  ·have HTS:=ax ht
   have HE:aJ (ext a S (n+1) c=ext a S n (c.set m (-1))):=by
    show _=_
    conv=>lhs;unfold ext
    rw[←HM8.o,ht];rfl
   have k0':=k0.caseSet HC.o m (-1);obtain ⟨p0,p1,p2,p3,p4,p5,p6,p7,p8⟩:=case9_cells k0';have qm:W2.cell? ⟨W.heap.size,m,none⟩=some (.int .i64 (cl c m)):=case_cell (k0.case HC.o) (by rw[HC.o];omega);have qk1:=(k1.far (p:=⟨W.heap.size,m,none⟩) (by simp) (.int .i64 (-1))).cell;have hB3:Below W.heap.size W (W2.setCell ⟨W.heap.size,m,none⟩ (.int .i64 (-1))):=bel;have hz:=hB3.size;clear ht k0 k1 k0' hB;(go_wp2_with fail)
   have ih1:=IH.o (c.set m (-1)) pre _ (by have:=hmn.o;omega) (by simpa using HC.o) (by rw[←HE.o];exact HM.o) (fun j hj hSj=>by
    have:=HM8.o;rw[cl_set HC.o (by omega) _ (by omega)];by_cases ej:j=m
    ·subst ej;rw[HTS.o] at hSj;cases hSj
    ·rw[if_neg (by omega)];exact HCL.o j (by omega) hSj) (hV.o.bz hB3) (Nat.le_trans hBW hz) (Nat.le_trans hn0 hz) (HJ.o.nz HJP.o hB3)
   rw[E1.o] at ih1;refine ih1.mono ?_;clear ih1;rintro e W' (⟨rfl,ys,y1,y2,y3⟩|⟨rfl,ys,y1,y2⟩)
   ·have Y:=ax (⟨y1,y2,y3⟩:_∧_∧_);clear y1 y2 y3;(go_wp2_with fail);go_ret;exact Or.inl ⟨rfl,ys,by rw[HE.o];exact Y.o.1,Y.o.2.1,(Kept.nz hB3 hn0).trans Y.o.2.2⟩
   ·have Y:=ax (⟨y1,y2⟩:_∧_);clear y1 y2;(go_wp2_with fail);go_ret;exact Or.inr ⟨rfl,ys,by rw[HE.o];exact Y.o.1,Y.o.2⟩
  ·have HTS:=ax ht;have HE:=ax (ext_loop a S n c (by rw[←HM8.o];exact ht));clear ht;(go_wp2_with fail)
   go_loopw [11] (fun i wr=>∃ (k:Nat) (d:List Int) (ys:List (CaseT a S)),k≤m+1∧i=.int .i64 k∧aJ (d.length=9)∧aJ (∀ v,d.set m v=c.set m v)∧aJ (ys.map Subtype.val=(List.range k).flatMap (extAt a S n c))∧Blk wr W.heap.size tTc (case9 d)∧Blk wr (W.heap.size+1) tAs #[.slice A1 a.facts.length c1,.slice A2 a.atoms.length c2]∧aJ (J (pre++ys) wr)∧aJ (Kept tTc tAs n₀ W wr)) (fun i _=>9 - (intOf i).toNat)
   case atStart=>exact ⟨0,c,[],Nat.zero_le _,rfl,HC,fun _=>rfl,rfl,k0,k1,by rw[List.append_nil];exact HJ.o.nz HJP.o hB,Kept.nz hB hn0⟩
   case round=>
    clear k0 k1 lk0 lk1 rk0 hB;obtain ⟨k,d,ys,hk,rfl,HDL,HDS,HYS,k0,k1,HJW,HKW⟩:=hrel;have lk0:=k0.lt;have lk1:=k1.lt;have rk0:=k0.frozen;by_cases hlt:k≤m
    ·have hki:(k:Int)≤(m:Int):=by omega
     have hk9:(k:Int)<9:=by omega
     have hkc:wr.cell? ⟨W.heap.size,k,none⟩=some (.int .i64 (cl d k)):=case_cell (k0.case HDL.o) (by rw[HDL.o];omega);have HNX:aJ ((List.range (k+1)).flatMap (extAt a S n c)=(List.range k).flatMap (extAt a S n c)++extAt a S n c k):=by show _=_;rw[List.range_succ,List.flatMap_append];simp
     have hdc:k<m→cl d k=cl c k:=fun h=>by
      have h1:=cl_set HDL.o (t:=m) (by omega) 0 (j:=(k:Int)) (by omega);have h2:=cl_set HC.o (t:=m) (by omega) 0 (j:=(k:Int)) (by omega);rw[if_neg (by omega)] at h1 h2;rw[←h1,←h2,HDS.o]
     have HDC:=ax hdc;clear hdc;by_cases hskip:k<m∧cl c k≠k
     ·have HX:aJ (extAt a S n c k=[]):=by show _=_;rw[extAt,if_pos (by rw[←HM8.o];exact hskip)]
      have hkm:(k:Int)<(m:Int):=by omega
      have hne:(cl d k != (k:Int))=true:=by rw[HDC.o hskip.1];simpa using hskip.2
      clear hskip hki hlt;(go_wp2_with fail)
      go_round
      case rel=>exact ⟨k+1,d,ys,by omega,by go_num,HDL,HDS,by show _=_;rw[HNX.o,HX.o,List.append_nil];exact HYS.o,k0,k1,HJW,HKW⟩
      case measure=>simp[intOf];omega
     ·have hsk2:k<m→(cl d k != (k:Int))=false:=fun h=>by
       rw[HDC.o h]
       cases Int.decEq (cl c k) k with
       | isTrue h=>simp[h]
       | isFalse h'=>exact absurd ⟨h,h'⟩ hskip
      have HX:aJ (extAt a S n c k=if poss a (c.set m k) m then ext a S n (c.set m k) else []):=by
       show _=_;rw[extAt,←HM8.o,if_neg hskip]
      clear hskip;have k0':Blk (wr.setCell ⟨W.heap.size,m,none⟩ (.int .i64 k)) W.heap.size tTc (case9 (c.set m k)):=by rw[←HDS.o k];exact k0.caseSet HDL.o m k
      have k1':=k1.far (p:=⟨W.heap.size,m,none⟩) (by simp) (.int .i64 (k:Int));have qk1:=k1'.cell;have qm:wr.cell? ⟨W.heap.size,m,none⟩=some (.int .i64 (cl d m)):=case_cell (k0.case HDL.o) (by rw[HDL.o];omega);have HKW':=ax (HKW.o.setNew (p:=⟨W.heap.size,m,none⟩) (Nat.le_refl _) hn0 (.int .i64 (k:Int)));have HJW':=ax (HJ.o.set HJW.o k0 hBW m (.int .i64 (k:Int)));have HA':=ax (hV.o.keepB HKW'.o.bz hhi);have hcs:(c.set m (k:Int)).length=9:=by simpa using HC.o
      have HCS:=ax hcs
      have hcl':∀ j:Nat,j≤m→S.testBit j=true→0≤cl (c.set m (k:Int)) j∧cl (c.set m (k:Int)) j≤j:=fun j hj hSj=>by
       rw[cl_set HC.o (by omega) _ (by omega)]
       split
       ·omega
       ·exact HCL.o j (by omega) hSj
      have HCL':=ax hcl'
      have hpo:∀ x∈a.atoms,x.a≤(m:Int)→jq (cl (c.set m (k:Int)) x.a)=true:=fun x hx hxm=>by
       have h0:=(HO.o.2 x hx).1;obtain ⟨t,et⟩:=Int.eq_ofNat_of_zero_le h0.1;have hb:=HT.o x.a (by simp only[mz,List.mem_append,List.mem_flatMap];exact Or.inr ⟨x,hx,by simp[atomT]⟩);rw[et] at hb hxm ⊢;have:=hcl' t (by omega) (by simpa using hb);rw[zjA];omega
      have HPO:=ax hpo;clear hcl' hpo hcs k1;have K1':=ax k1';clear k1';have hwz:W.heap.size≤wr.heap.size:=by omega
      obtain hkm|hkm:k<m∨k=m:=by omega
      case' inl=>have h1:(k:Int)<(m:Int):=by omega
      case' inl=>have h2:=hsk2 hkm
      case' inr=>have h1:¬(k:Int)<(m:Int):=by omega
      all_goals
       clear hkm hsk2;(go_wp2_with fail);refine (c_impl_possible _ a (m:Int) (c.set m (k:Int)) W.heap.size _ HA'.o (k0'.case HCS.o) HCS.o HO.o.1 HO.o.2 HPO.o).mono ?_;rintro e w1 ⟨rfl,hB1⟩;have k0:=k0'.nz hB1;have k1:=K1'.o.nz hB1;replace qk1:=k1.cell;obtain ⟨p0,p1,p2,p3,p4,p5,p6,p7,p8⟩:=case9_cells k0;have hz:=hB1.size;simp only[World.size_setCell] at hz;have HKW1:=ax (HKW'.o.trans (Kept.nz hB1 (by simp only[World.size_setCell];omega)));have HJ1:=ax (HJ.o.nz HJW'.o hB1);have HA1:=ax (hV.o.keepB HKW1.o.bz hhi);clear hB1 qm k0' rk0;cases hps:poss a (c.set m (k:Int)) (m:Int)
       ·have HX2:=ax (show extAt a S n c k=[] by rw[HX.o,hps];rfl);clear hps;(go_wp2_with fail)
        go_round
        case rel=>exact ⟨k+1,c.set m (k:Int),ys,by omega,by go_num,HCS,fun v=>by rw[List.set_set],by show _=_;rw[HNX.o,HX2.o,List.append_nil];exact HYS.o,k0,k1,HJ1,HKW1⟩
        case measure=>simp[intOf];omega
       ·have HX2:=ax (show extAt a S n c k=ext a S n (c.set m (k:Int)) by rw[HX.o,hps];rfl);clear hps;have hk9n:k<9 - n:=by have:=HM8.o;have:=hmn.o;omega
        have ih1:=IH.o (c.set m (k:Int)) (pre++ys) w1 (by have:=hmn.o;omega) HCS.o (by
         refine List.IsPrefix.trans ?_ HM.o;rw[HE.o,List.map_append,HYS.o,List.append_assoc]
         exact (List.prefix_append_right_inj _).2 (range_pre hk9n (by rw[HX2.o];exact List.prefix_rfl))) (fun j hj=>HCL'.o j (by have:=HM8.o;have:=hmn.o;omega)) HA1.o (by omega) (by omega) HJ1.o
        rw[E1.o] at ih1;have IH1:=ax ih1;clear ih1;(go_wp2_with fail);refine IH1.o.mono ?_;rintro e W' (⟨rfl,ys2,y1,y2,y3⟩|⟨rfl,ys2,y1,y2⟩)
        ·have z0:=y3.keep _ _ _ (Or.inl rfl) k0;have z1:=y3.keep _ _ _ (Or.inr rfl) k1;have Y:=ax (⟨y1,y2,y3⟩:_∧_∧_);clear y1 y2 y3 k0 k1 qk1 p0 p1 p2 p3 p4 p5 p6 p7 p8;(go_wp2_with fail)
         go_round
         case rel=>exact ⟨k+1,c.set m (k:Int),ys++ys2,by omega,by go_num,HCS,fun v=>by rw[List.set_set],by show _=_;rw[HNX.o,HX2.o,List.map_append,Y.o.1,HYS.o],z0,z1,by rw[←List.append_assoc];exact Y.o.2.1,HKW1.o.trans Y.o.2.2⟩
         case measure=>simp[intOf];omega
        ·have Y:=ax (⟨y1,y2⟩:_∧_);clear y1 y2 k0 k1 qk1 p0 p1 p2 p3 p4 p5 p6 p7 p8;(go_wp2_with fail);go_ret;refine Or.inr ⟨rfl,ys++ys2,?_,by rw[←List.append_assoc];exact Y.o.2⟩;rw[HE.o,List.map_append,HYS.o];exact range_pre hk9n (by rw[HX2.o];exact Y.o.1)
    ·obtain rfl:k=m+1:=by omega
     (go_wp2_with fail);go_ret;refine Or.inl ⟨rfl,ys,?_,HJW.o,HKW.o⟩;rw[HE.o,HYS.o,show 9 - n=m+1 from by have:=HM8.o;have:=hmn.o;omega]
end
end Go.Proofs.YtjaohekkmlkinaaGreat
