/- A loop over an iterator that keeps state of its own in cells of one type T. No program. -/
import Derived.RangeFuncWrites
import Derived.RangeFuncLeaves
import Derived.RangeFuncBound
import Derived.RangeFuncCalls
import Derived.WalkKit
import Derived.OwnWalkIn
import Derived.TacticsInMore
import Derived.LoopNIn
import Derived.LoopIn
import Derived.OrdersIn
import Derived.Deep.RegionHeld3
import Derived.Test.YtgdfdmjnadnlnaaGreatMLast
import Derived.Deep.RegionHeld
import Derived.BigQuiet
import Derived.Deep.QuietTactic
set_option linter.unusedSimpArgs false
set_option linter.unusedVariables false
set_option maxRecDepth 100000
set_option maxHeartbeats 25600000
namespace Go.Proofs.YtgdfdmjnadnlnaaGreat
section
open Go Go.RowKit
def Turn (T : TypeId) (B : Nat) (W : World) (row : Option Nat) : Prop := ∀ r, row = some r → B ≤ r ∧ ∃ o : Obj, W.heap[r]? = some o ∧ (o.isCells = false ∨ ∃ cs, o = .cells cs T (0, 0))
def OwnT {β : Type} (T : TypeId) (B : Nat) (I : β → World → Prop) : Prop := ∀ s W W' row, I s W → W.grownBy W' row → Turn T B W row → I s W'
def TurnC (T : TypeId) (B : Nat) (W : World) (row : Option Nat) : Prop := ∀ r, row = some r → B ≤ r ∧ ∃ cs, W.heap[r]? = some (.cells cs T (0, 0))
def AbT {β : Type} (T : TypeId) (B : Nat) (J : β → World → Prop) : Prop := ∀ s W W' row, J s W → W.grownBy W' row → TurnC T B W row → J s W'
structure Kept (T1 T2 : TypeId) (n₀ : Nat) (W W' : World) : Prop where
  bz : Below n₀ W W'
  keep : ∀ (g : Nat) (t : TypeId) (cs : Array Value), (t = T1 ∨ t = T2) → Blk W g t cs → Blk W' g t cs
section
variable {T1 T2 T : TypeId} {n₀ B : Nat} {A W W' W2 : World}
theorem Kept.refl (W : World) : Kept T1 T2 n₀ W W := ⟨Below.refl _ _, fun _ _ _ _ h => h⟩
theorem Kept.trans (h : Kept T1 T2 n₀ A W) (k : Kept T1 T2 n₀ W W') : Kept T1 T2 n₀ A W' := ⟨h.bz.trans k.bz, fun g t cs ht hb => k.keep g t cs ht (h.keep g t cs ht hb)⟩
theorem Kept.nz (h : Below W.heap.size W W') (hn : n₀ ≤ W.heap.size) : Kept T1 T2 n₀ W W' := ⟨h.mono hn, fun _ _ _ _ hb => hb.nz h⟩
theorem Kept.alloc (hn : n₀ ≤ W.heap.size) (o : Obj) : Kept T1 T2 n₀ W (W.alloc o) := ⟨(Below.refl _ _).alloc hn _, fun _ _ _ _ hb => hb.alloc o⟩
theorem Kept.set {cs : Array Value} (hk : Blk W B T cs) (hn : n₀ ≤ B) (h1 : T ≠ T1) (h2 : T ≠ T2) (i : Nat) (u : Value) : Kept T1 T2 n₀ W (W.setCell ⟨B, i, none⟩ u) :=
  ⟨(Below.refl _ _).setCell (p := ⟨B, i, none⟩) hn _, fun g t cs ht hb => hb.far (p := ⟨B, i, none⟩) (by
    intro e;have e : g = B := e;subst e;rcases ht with rfl | rfl
    · exact (hb.ne_ hk (fun e => h1 e.symm)) rfl
    · exact (hb.ne_ hk (fun e => h2 e.symm)) rfl) _⟩
theorem Kept.put {l : Nat} {o : Obj} (o' : Obj) (hn : n₀ ≤ l) (hl : W.heap[l]? = some o) (ho : o.isCells = false) : Kept T1 T2 n₀ W (W.putObj l o') :=
  ⟨(Below.refl n₀ W).grown (grownBy_putObj' W l o') (by have := (Array.getElem?_eq_some_iff.1 hl).1; omega) (fun k e => by cases e; omega),
   fun g t cs _ hb => (World.putObj_heap_other (fun e => by subst e; unfold Blk at hb; rw [hl] at hb; cases hb; cases ho)).trans hb⟩
theorem OwnT.put {β : Type} {I : β → World → Prop} (h : OwnT T B I) {s : β} {l : Nat} {o : Obj} (o' : Obj) (hs : I s W) (hB : B ≤ l) (hl : W.heap[l]? = some o) (ho : o.isCells = false) : I s (W.putObj l o') :=
  h s W _ (some l) hs (grownBy_putObj' W l o') (fun r e => by cases e; exact ⟨hB, o, hl, Or.inl ho⟩)
theorem OwnT.alloc {β : Type} {I : β → World → Prop} (h : OwnT T B I) {s : β} (o : Obj) (hs : I s W) : I s (W.alloc o) :=
  h s W _ none hs (World.grownBy_alloc W o none) (fun r e => by cases e)
theorem grown_of_below {row : Option Nat} (h : Below W.heap.size W W') : W.grownBy W' row := ⟨h.os, h.tape, h.output, h.size, fun k hk _ => h.block k hk⟩
theorem AbT.nz {β : Type} {J : β → World → Prop} (h : AbT T B J) {s : β} (hs : J s W) (hb : Below W.heap.size W W') : J s W' := h s W W' none hs (grown_of_below hb) (fun r e => by cases e)
theorem AbT.set {β : Type} {J : β → World → Prop} (h : AbT T B J) {s : β} (hs : J s W) {g : Nat} {cs : Array Value} (hk : Blk W g T cs) (hg : B ≤ g) (i : Nat) (u : Value) : J s (W.setCell ⟨g, i, none⟩ u) :=
  h s W _ (some g) hs ⟨rfl, rfl, rfl, by simp, fun k hk' hne => Below.heap_setCell W ⟨g, i, none⟩ u k (fun e => hne (by rw [e]))⟩ (fun r e => by cases e; exact ⟨hg, cs, hk⟩)

theorem OwnT.and {β : Type} {I I' : β → World → Prop} (h : OwnT T B I) (h' : OwnT T B I') : OwnT T B (fun s W => I s W ∧ I' s W) := fun s W W' row hs hg hr => ⟨h s W W' row hs.1 hg hr, h' s W W' row hs.2 hg hr⟩
theorem Blk.turn {g : Nat} {t : TypeId} {cs : Array Value} {row : Option Nat} (h : Blk W g t cs) (hg : W.grownBy W' row) (hr : Turn T B W row) (ht : t ≠ T ∨ g < B) : Blk W' g t cs :=
  h.grown hg (fun e => by
    obtain ⟨hb, o, ho, hc⟩ := hr g e.symm;unfold Blk at h;rw [h] at ho;cases ho;rcases hc with hc | ⟨cs', hc⟩
    · cases hc
    · injection hc with _ e2
      rcases ht with ht | ht
      · exact ht e2
      · omega)
theorem Below.turn {row : Option Nat} (h : Below n₀ A W) (hg : W.grownBy W' row) (hr : Turn T B W row) (hn : n₀ ≤ B) (hw : n₀ ≤ W.heap.size) : Below n₀ A W' :=
  h.grown hg hw (fun k e => by have := (hr k e).1; omega)
end

def postT {α : Type} (B : Nat) (Kp : World → World → Prop) (I : List α → World → Prop) (Ix : Code → List α → World → Prop) (xs : List α) (W : World) : Exit → Act → World → Prop
  | .normal, _, W' => KeepsFrom B W W' ∧ Kp W W' ∧ I xs W'
  | .ret, _, W' => KeepsFrom B W W' ∧ Ix .ret xs W'
  | .exit id, _, W' => KeepsFrom B W W' ∧ Ix (.exit id) xs W'
  | .goto t, _, W' => KeepsFrom B W W' ∧ Ix (.goto t) xs W'
  | .panic _, _, _ => False
  | .outgrown, _, _ => False
def SeqT {α : Type} (P : Program) (g : Nat) (lb : Array Value) (encs : α → Array Value) (T : TypeId) (Kp : World → World → Prop) (Adm S Sp : List α → Prop) (w : World) : Prop :=
  ∀ (n l : Nat) (J Jx : List α → World → Prop) (W : World), Below w.heap.size w W → AbT T W.heap.size J → AbT T W.heap.size Jx →
    (∀ m pre x W1, J pre W1 → Adm (pre ++ [x]) → YieldAt Fence.wide m P l (encs x) W1 fun e W' =>
      (e = .returned (.bool true) ∧ J (pre ++ [x]) W' ∧ Kp W1 W') ∨ (e = .returned (.bool false) ∧ Jx (pre ++ [x]) W')) →
    J [] W →
    CallsIn Fence.wide n P g (#[.func (.yield l) #[] #[]] ++ lb) W fun e W' => (∃ v, e = .returned v) ∧ ((∃ xs, S xs ∧ J xs W') ∨ (∃ pre, Sp pre ∧ Jx pre W'))

variable {n : Nat} {P : Program}
theorem wp_rangeT {α : Type} {g : Operand} {ps : Array Tmp} {assign body : Code} {Q : Exit → Act → World → Prop} {a : Act} {w : World}
    {gf : Nat} {lb : Array Value} (hg : a.eval g = .func (.func gf) #[] lb) (eg : ∀ args w, (callFunc gf args).run P w = .ok (.enter gf args) w)
    {encs : α → Array Value} {T : TypeId} {Kp : World → World → Prop} {Adm S Sp : List α → Prop} {w0 : World} (hseq : SeqT P gf lb encs T Kp Adm S Sp w0)
    (hKt : ∀ {A B C : World}, Kp A B → Kp B C → Kp A C) (hKb : ∀ (W : World) (l : Nat) (o o' : Obj), w.heap.size ≤ l → W.heap[l]? = some o → o.isCells = false → Kp W (W.putObj l o')) (hb0 : Below w0.heap.size w0 w) (hps : ∀ x, (encs x).size = ps.size)
    (I : List α → World → Prop) (Ix : Code → List α → World → Prop) (hI : OwnT T w.heap.size I) (hIx : ∀ c, OwnT T w.heap.size (Ix c)) (h0 : I [] w)
    (hround : ∀ (l : Nat) (pre : List α) (x : α) (W : World), w.heap.size ≤ l → I pre W → Adm (pre ++ [x]) →
      assign.wpIn (Fence.wide.inRound l) (n - 1 - 1) P (Exit.then (fun a1 W1 => KeepsFrom w.heap.size W W1 ∧ Kp W W1 ∧ ∀ (o o' : Obj), W1.heap[l]? = some o → o.isCells = false →
        body.wpIn (Fence.wide.inRound l) (n - 1 - 1) P (postT w.heap.size Kp I Ix (pre ++ [x]) (W1.putObj l o')) a1 (W1.putObj l o')) (fun _ _ _ => False)) { tmps := (ps.zip (encs x)).foldl (fun t (p, v) => t.setIfInBounds p v) a.tmps, defers := [] } W)
    (hdone : ∀ (D : Nat) (xs : List α) (W : World), w.heap.size ≤ D → S xs → I xs W → W.heap[D]? = some (.deferred (some [])) → Q .normal { a with defers := { target := .collected D, args := #[] } :: a.defers } W)
    (hstop : ∀ (D : Nat) (c : Code) (pre : List α) (W : World), w.heap.size ≤ D → Sp pre → Ix c pre W → W.heap[D]? = some (.deferred (some [])) → c.wpIn Fence.wide n P Q { a with defers := { target := .collected D, args := #[] } :: a.defers } W) :
    (Code.rangeFunc g ps assign body).wpIn Fence.wide n P Q a w := by
  refine wpIn_rangeFunc fun fn hfn => ?_;show ∃ (l : Nat) (mark : List Deferred) (w₁ : World) (d : Deferred) (w₁' : World) (f : FuncId) (args : Array Value) (w₂ : World), (Instr.enterLoop fn a.tmps ps assign body none).run P w = .ok (l, mark) w₁ ∧ _
  let rec_ : LoopState → Option Code → Loop := fun st pe => { state := st, pending := pe, fn, tmps := a.tmps, params := ps, assign, body, defers := w.heap.size }
  let W1 := (w.alloc (.deferred (some []))).alloc (.loop (rec_ .ready none))
  have hL1 : W1.heap[w.heap.size + 1]? = some (.loop (rec_ .ready none)) := by
    have := World.alloc_heap_new (w.alloc (.deferred (some []))) (.loop (rec_ .ready none)); rwa [World.size_alloc] at this
  have hK1 : W1.heap[w.heap.size]? = some (.deferred (some [])) := (Below.heap_alloc _ _ _ (by simp)).trans (World.alloc_heap_new w _);have hs1 : W1.heap.size = w.heap.size + 1 + 1 := by simp [W1]
  have hcy : ∀ {X Y : World} {row : Option Nat}, TurnC T W1.heap.size X row → Turn T w.heap.size X row := fun h r e => by
    obtain ⟨h1, cs, h2⟩ := h r e;exact ⟨by omega, _, h2, Or.inr ⟨cs, rfl⟩⟩
  have hst : ∀ {X Y : World} {row : Option Nat} {k : Nat} {o : Obj}, X.grownBy Y row → TurnC T W1.heap.size X row → X.heap[k]? = some o → o.isCells = false → Y.heap[k]? = some o := fun hg' hr hk ho =>
    (hg'.block _ (Array.getElem?_eq_some_iff.1 hk).1 (fun e => by
      obtain ⟨-, cs, h2⟩ := hr _ e.symm
      rw [hk] at h2; cases h2; cases ho)).trans hk
  refine ⟨w.heap.size + 1, [{ target := .collected w.heap.size, args := #[] }], W1, { target := .fn (.func gf) lb, args := #[.func (.yield (w.heap.size + 1)) #[] #[]] }, W1, gf,
    #[.func (.yield (w.heap.size + 1)) #[] #[]] ++ lb, W1, run_enterLoop_outer _ _ _ _ _, ?_, fun _ _ => trivial, ?_, fun h => (by cases h), ?_⟩
  · simp only [resolve, hg]
    simp [go_sem]
  · simp [invoke, go_sem, eg]
  · refine (hseq (n - 1) (w.heap.size + 1)
      (fun pre W => I pre W ∧ W.heap[w.heap.size + 1]? = some (.loop (rec_ .ready none)) ∧ W.heap[w.heap.size]? = some (.deferred (some [])))
      (fun pre W => ∃ c, Ix c pre W ∧ W.heap[w.heap.size + 1]? = some (.loop (rec_ .done (some c))) ∧ W.heap[w.heap.size]? = some (.deferred (some [])))
      W1 (hb0.trans ((((Below.refl _ w).alloc (Nat.le_refl _) _).alloc (by simp) _).mono hb0.size))
      (fun s X Y row hs hg' hr => ⟨hI s X Y row hs.1 hg' (hcy (Y := Y) hr), hst hg' hr hs.2.1 rfl, hst hg' hr hs.2.2 rfl⟩)
      (fun s X Y row hs hg' hr => by
        obtain ⟨c, hc, hl, hk⟩ := hs
        exact ⟨c, hIx c s X Y row hc hg' (hcy (Y := Y) hr), hst hg' hr hl rfl, hst hg' hr hk rfl⟩)
      ?_ ⟨hI.alloc _ (hI.alloc _ h0), hL1, hK1⟩).mono ?_
    · rintro m pre x W ⟨hi, hl, hk⟩ hadm
      have hlt : w.heap.size + 1 < W.heap.size := (Array.getElem?_eq_some_iff.1 hl).1;have hy := run_yield (P := P) (args := encs x) hl (hps x);refine ⟨fn, _, assign, body, hy, ?_⟩
      have hdep : ∀ {m m' : Nat} {l : Nat} {f : FuncId} {tmps : Array Value} {assign body : Code} {w : World} {R : Ending → World → Prop}, RoundIn Fence.wide m P l f tmps assign body w R → RoundIn Fence.wide m' P l f tmps assign body w R :=
        fun h => ⟨h.1, fun c cs _ => h.2 c cs (room_wide _)⟩
      refine hdep (m := n - 1 - 1) (roundIn_of_wpIn trivial (wpIn_mono (hround (w.heap.size + 1) pre x W (by omega) hi hadm) ?_));rintro e a2 W2 hp
      cases e with
      | normal =>
        obtain ⟨hkf, hkp, hb⟩ := hp;have hl1 := hkf.same _ _ (by omega) hl rfl;have hk1 := hkf.same _ _ (Nat.le_refl _) hk rfl;refine ⟨_, run_beginRound hl1 rfl, ?_⟩;have hlt2 : w.heap.size + 1 < W2.heap.size := (Array.getElem?_eq_some_iff.1 hl1).1;have hl2 : (W2.putObj (w.heap.size + 1) (.loop { rec_ .ready none with state := .busy })).heap[w.heap.size + 1]? = some (.loop { rec_ .ready none with state := .busy }) := World.putObj_heap_same hlt2;have hk2 : (W2.putObj (w.heap.size + 1) (.loop { rec_ .ready none with state := .busy })).heap[w.heap.size]? = some (.deferred (some [])) := (World.putObj_heap_other (by omega)).trans hk1;have hw2 : Kp W2 (W2.putObj (w.heap.size + 1) (.loop { rec_ .ready none with state := .busy })) := hKb _ _ _ _ (by omega) hl1 rfl;refine wpIn_mono (hb _ (.loop { rec_ .ready none with state := .busy }) hl1 rfl) ?_
        have fin : ∀ (jump : Option Code) (W3 : World), KeepsFrom w.heap.size (W2.putObj (w.heap.size + 1) (.loop { rec_ .ready none with state := .busy })) W3 →
            (Instr.endRound (w.heap.size + 1) jump).run P W3 = .ok (.bool jump.isNone) (W3.putObj (w.heap.size + 1) (.loop (rec_ (if jump.isNone then .ready else .done) jump))) ∧
            W3.heap[w.heap.size + 1]? = some (.loop { rec_ .ready none with state := .busy }) ∧
            (W3.putObj (w.heap.size + 1) (.loop (rec_ (if jump.isNone then .ready else .done) jump))).heap[w.heap.size + 1]? = some (.loop (rec_ (if jump.isNone then .ready else .done) jump)) ∧
            (W3.putObj (w.heap.size + 1) (.loop (rec_ (if jump.isNone then .ready else .done) jump))).heap[w.heap.size]? = some (.deferred (some [])) := fun jump W3 hk3 => by
          have hl3 := hk3.same _ _ (by omega) hl2 rfl;exact ⟨run_endRound (P := P) jump hl3, hl3, World.putObj_heap_same (Array.getElem?_eq_some_iff.1 hl3).1, (World.putObj_heap_other (by omega)).trans (hk3.same _ _ (Nat.le_refl _) hk2 rfl)⟩
        rintro e a3 W3 hp
        cases e with
        | normal =>
          obtain ⟨hk3, hkp3, hi3⟩ := hp;obtain ⟨hr, hl3, hl4, hk4⟩ := fin none W3 hk3;exact ⟨_, _, hr, .inl ⟨rfl, ⟨hI.put _ hi3 (by omega) hl3 rfl, hl4, hk4⟩, hKt (hKt (hKt hkp hw2) hkp3) (hKb _ _ _ _ (by omega) hl3 rfl)⟩⟩
        | ret =>
          obtain ⟨hk3, hi3⟩ := hp;obtain ⟨hr, hl3, hl4, hk4⟩ := fin (some .ret) W3 hk3;exact ⟨_, _, hr, .inr ⟨rfl, .ret, (hIx _).put _ hi3 (by omega) hl3 rfl, hl4, hk4⟩⟩
        | exit id =>
          obtain ⟨hk3, hi3⟩ := hp;obtain ⟨hr, hl3, hl4, hk4⟩ := fin (some (.exit id)) W3 hk3;exact ⟨_, _, hr, .inr ⟨rfl, .exit id, (hIx _).put _ hi3 (by omega) hl3 rfl, hl4, hk4⟩⟩
        | goto t =>
          obtain ⟨hk3, hi3⟩ := hp;obtain ⟨hr, hl3, hl4, hk4⟩ := fin (some (.goto t)) W3 hk3;exact ⟨_, _, hr, .inr ⟨rfl, .goto t, (hIx _).put _ hi3 (by omega) hl3 rfl, hl4, hk4⟩⟩
        | panic ch => exact hp.elim
        | outgrown => exact hp.elim
      | ret => exact hp.elim
      | exit id => exact hp.elim
      | goto t => exact hp.elim
      | panic ch => exact hp.elim
      | outgrown => exact hp.elim
    · rintro e W2 ⟨⟨v, rfl⟩, (⟨xs, hS, hi, hl, hk⟩ | ⟨pre, hSp, c, hi, hl, hk⟩)⟩
      · exact ⟨none, _, run_endLoop (P := P) hl (by simp [rec_]), hdone _ xs _ (Nat.le_refl _) hS (hI.put _ hi (by omega) hl rfl) ((World.putObj_heap_other (by omega)).trans hk)⟩
      · exact ⟨some c, _, run_endLoop (P := P) hl (by simp [rec_]), hstop _ c pre _ (Nat.le_refl _) hSp ((hIx c).put _ hi (by omega) hl rfl) ((World.putObj_heap_other (by omega)).trans hk)⟩

/-! ### A region that draws its order, within a round -/
end
section
open Go
section
variable {P:Program} {md:Region.Mode} {ops:Array Oper} {S:World→Prop} {Q:Exit→Act→World→Prop} {I:Array Bool→Act→World→Prop}
def dn (D:Array Bool) (j:Nat):Bool:=D.getD j false
theorem dn_ne {D:Array Bool} {i j:Nat} (h:i≠j):dn (D.setIfInBounds i true) j=dn D j:=getD_set_ne false h
theorem dn_self {D:Array Bool} {i:Nat} (h:D.getD i true=false):dn (D.setIfInBounds i true) i=true:=by
 unfold dn;rcases Nat.lt_or_ge i D.size with h'|h'
 ·simp[h']
 ·simp[Array.getElem?_eq_none h'] at h
theorem dn_un {D:Array Bool} {i:Nat} (h:D.getD i true=false):dn D i=false:=by
 unfold dn;rcases Nat.lt_or_ge i D.size with h'|h'
 ·simp[h'] at h ⊢;exact h
 ·simp[Array.getElem?_eq_none h'] at h
theorem dn_keep {D:Array Bool} {i j:Nat} {p q:Prop} (hij:i≠j) (h:dn D j=true→p) (hpq:p→q):dn (D.setIfInBounds i true) j=true→q:=fun e=>hpq (h (by rwa [dn_ne hij] at e))
def parB (md:Region.Mode) (ops:Array Oper) (H:List Nat) (Dz:Array Bool):Nat→Array Bool→Bool
 | 0,D=>decide (D=Dz)
 | n+1,D=>!(Region.ready md ops D).isEmpty&&(Region.ready md ops D).all fun i=>H.contains i&&parB md ops H Dz n (D.setIfInBounds i true)
def ParSteps (P:Program) (md:Region.Mode) (ops:Array Oper) (Q:Exit→Act→World→Prop) (S:World→Prop) (I:Array Bool→Act→World→Prop) (hs:List Nat):Prop:=
 ∀ i∈hs,∀ D a w,i∈Region.ready md ops D→I D a w→S w→wpOp P ops Q i (fun a' w'=>S w'∧I (D.setIfInBounds i true) a' w') a w
theorem ParSteps.nil:ParSteps P md ops Q S I []:=fun _ h=>by cases h
theorem ParSteps.cons {i:Nat} {o:Oper} {hs:List Nat} (ho:ops[i]? = some o)
  (h:∀ (D:Array Bool) (a:Act) (w:World),D.getD i true=false→(∀ e∈o.after.toList,Region.binds md e=true→dn D e.on=true)→I D a w→S w→
   ∀ K':Act→World→Prop,Shut (∀ a w,S w→I (D.setIfInBounds i true) a w→K' a w)→∀ G:Prop,((if Region.wanted o (yielded ops a.tmps)=true then Oper.wp P o a w K' Q else K' (a.put o.dst undef) w)→G)→G)
  (hs':ParSteps P md ops Q S I hs):ParSteps P md ops Q S I (i :: hs):=fun j hj D a w hr hI hS=>by
 rcases List.mem_cons.1 hj with rfl|hj
 ·obtain ⟨h1,o',ho',h2⟩:=mem_ready.1 hr;obtain rfl:o=o':=Option.some.inj (ho.symm.trans ho');exact wpOp_step ho (fun K' hK=>h D a w h1 (fun e he hb=>h2 e (Array.mem_toList_iff.1 he) hb) hI hS K' (fun a w hS hW=>hK a w ⟨hS,hW⟩) _ id)
 ·exact hs' j hj D a w hr hI hS
theorem wpAnyH_par (H:List Nat) (Dz:Array Bool) {fuel:Nat} {D0:Array Bool} {a0:Act} {w0:World} (n:Nat) (hH:parB md ops H Dz n D0=true) (hS:S w0) (J:Act→Array Bool→Act→World→Prop) (h0:J a0 D0 a0 w0)
  (hstep:ParSteps P md ops Q S (J a0) H) (hend:∀ a w,S w→J a0 Dz a w→wpAnyH P md ops Q S fuel Dz a w):wpAnyH P md ops Q S (fuel+n) D0 a0 w0:=by
 generalize hJ:J a0=I at *;clear hJ
 induction n generalizing D0 a0 w0 with
 | zero=>
  unfold parB at hH;obtain rfl:D0=Dz:=of_decide_eq_true hH;exact hend _ _ hS h0
 | succ n ih=>
  unfold parB at hH;simp only[Bool.and_eq_true,Bool.not_eq_true',List.all_eq_true,List.isEmpty_eq_false_iff,List.contains_iff_mem] at hH;refine wpAnyH_ready (fuel:=fuel+n) rfl hH.1 fun i hi=>?_;have h1:=hH.2 i hi;exact wpOp_mono (fun a' w' h=>⟨h.1,ih h1.2 h.1 h.2⟩) (hstep i h1.1 D0 a0 w0 hi h0 hS)
end
end
section
open Go Go.RowKit Go.Proofs
end
end Go.Proofs.YtgdfdmjnadnlnaaGreat
