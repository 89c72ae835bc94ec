/- Appending a state to a list of states. -/
import Derived.Test.YteogcababfenfaaSteSS
import Derived.Test.YteogcababfenfaaMCasesS
set_option linter.unusedSimpArgs false
set_option linter.unusedVariables false
namespace Go.Proofs.Yteogcababfenfaa
open Go Go.RowKit Go.Proofs
attribute [local go_sem ↓] Go.wp_at_zero Go.wp_at_succ
attribute [local go_sem] Oper.semAt_some

/-- only blocks of one type may have turned -/
structure KT (t : TypeId) (w w' : World) : Prop where
  os : w'.os = w.os
  tape : w'.tape = w.tape
  output : w'.output = w.output
  size : w.heap.size ≤ w'.heap.size
  keep : ∀ (k : Nat) (o : Obj), w.heap[k]? = some o → (∀ cs, o ≠ .cells cs t (0, 0)) → w'.heap[k]? = some o
section
variable {t : TypeId} {w w' w1 : World}
theorem KT.of (h : Below w.heap.size w w') : KT t w w' := ⟨h.os, h.tape, h.output, h.size, fun k o hk _ => (h.block k (Array.getElem?_eq_some_iff.1 hk).1).trans hk⟩
theorem KT.trans (h : KT t w w1) (k : KT t w1 w') : KT t w w' := ⟨k.os.trans h.os, k.tape.trans h.tape, k.output.trans h.output, Nat.le_trans h.size k.size, fun i o hi ho => k.keep i o (h.keep i o hi ho) ho⟩
theorem KT.set (h : KT t w w1) {p : Addr} (hp : w.heap.size ≤ p.block) (u : Value) : KT t w (w1.setCell p u) :=
  ⟨h.os, h.tape, h.output, by have := h.size; simpa using this, fun k o hk ho => (Below.heap_setCell w1 p u k (by have := (Array.getElem?_eq_some_iff.1 hk).1; omega)).trans (h.keep k o hk ho)⟩
theorem KT.app {v : Value} {base n m : Nat} {vs : List Value} (h : w.ownsRow base t m v n vs) (hg : w.grownBy w' v.ownBlock) : KT t w w' :=
  ⟨hg.os, hg.tape, hg.output, hg.size, fun k o hk ho => (hg.block k (Array.getElem?_eq_some_iff.1 hk).1 (fun e => by
    rcases h.2 with ⟨rfl, -⟩ | ⟨g, cap, cur, rfl, -, hh, -⟩
    · cases e
    · have e1 : k = g := by simpa [Value.ownBlock] using e
      subst e1
      rw [hk] at hh
      exact ho cur (Option.some.inj hh))).trans hk⟩
theorem KT.blk (h : KT t w w') {g : Nat} {t' : TypeId} {cs : Array Value} (hb : Blk w g t' cs) (ht : t' ≠ t) : Blk w' g t' cs := h.keep g _ hb fun c e => by injection e with _ e2; exact ht e2
theorem KT.keeps (h : KT t w w') : KeepsOthers w w' := ⟨h.size, fun k o hk ho => h.keep k o hk fun cs e => by subst e; cases ho⟩
theorem KT.kept {T1 T2 : TypeId} {n₀ : Nat} (h : KT t w w') (hb : Below n₀ w w') (h1 : T1 ≠ t) (h2 : T2 ≠ t) : Kept T1 T2 n₀ w w' := ⟨hb, fun g t' cs ht hk => h.blk hk (by rcases ht with rfl | rfl; exact h1; exact h2)⟩
end
theorem slice_one' {v : Value} {xs : List Int} {w : World} {b : Nat} (h : IntsO w b v xs) : v.oneCell' = true := by obtain ⟨A, c, rfl, -⟩ := h.reads; rfl
theorem rw2 {w : World} {g : Nat} {s1 s2 : Value} (h : Blk w g tSt #[s1, s2]) : Rw w g (g + 1) 2 (some ⟨g, 0, none⟩) 1 [s1, s2] :=
  ⟨rfl, fun _ => ⟨g, 0, rfl, Nat.le_refl _, Nat.lt_succ_self _, fun j u hu => by
    match j, hu with
    | 0, hu => simp at hu; subst hu; exact h.cell 0
    | 1, hu => simp at hu; subst hu; exact h.cell 1⟩⟩
--@ []impl.State
section
variable {o : Oper} {a : Act} {K : Act → World → Prop} {Q : Exit → Act → World → Prop} {w w0 : World} {base : Nat} {v : Value} {vs : List Value} {ss : List Ste}
theorem wp_appS2 (s x : Operand) (ho : o.op = .call { callee := .builtin .append, args := #[s, x], argTypes := #[27, 27] })
    (hs : a.eval s = v) (h0 : S2O w0 base v vs ss) (hb0 : Below w0.heap.size w0 w) (hbase : base ≤ w0.heap.size) {g : Nat} {s1 s2 : Value} {t : Ste} (hy : StateO w w0.heap.size (.agg #[s1, s2]) t) (hg : Blk w g tSt #[s1, s2]) (hx : a.eval x = .slice (some ⟨g, 0, none⟩) 1 1) (hl : ss.length + 1 ≤ 1049600)
    (h : ∀ A' c' w', S2O w' base (.slice A' (ss.length + 1) c') (vs ++ [s1, s2]) (ss ++ [t]) → w.grownBy w' v.ownBlock → Below base w w' → K (a.put o.dst (.slice A' (ss.length + 1) c')) w') : o.wp Try.prog a w K Q := by
  have hy' := hy
  obtain ⟨_, _, e, n1, n2, dj⟩ := hy'
  injection e with e
  injection e with e
  injection e with e1 e2
  injection e2 with e2 e3
  subst e1 e2
  refine wp_appL s x 27 ho Try.underlying27 infoSt2 rfl (by decide) (by decide) hs (own_below h0.row hb0) hx (rw2 hg) (by intro u hu; simp at hu; rcases hu with rfl | rfl; exact slice_one' n1; exact slice_one' n2) (by omega) (Nat.le_trans hbase hb0.size) ?_
  intro v' w' h1 h2 h3
  have hS := h0.snoc hb0 hy hbase (by omega) h2 h1
  obtain ⟨A', c', rfl⟩ := hS.form
  simp only [List.length_append, List.length_cons, List.length_nil, Nat.zero_add] at hS ⊢
  exact h A' c' w' hS h2 h3
theorem appS2 {ops : Array Oper} {rest : List Oper} (hgd : o.guard = none) (s x : Operand) (ho : o.op = .call { callee := .builtin .append, args := #[s, x], argTypes := #[27, 27] })
    (hs : a.eval s = v) (h0 : S2O w0 base v vs ss) (hb0 : Below w0.heap.size w0 w) (hbase : base ≤ w0.heap.size) {g : Nat} {s1 s2 : Value} {t : Ste} (hy : StateO w w0.heap.size (.agg #[s1, s2]) t) (hg : Blk w g tSt #[s1, s2]) (hx : a.eval x = .slice (some ⟨g, 0, none⟩) 1 1) (hl : ss.length + 1 ≤ 1049600)
    (h : ∀ A' c' w', S2O w' base (.slice A' (ss.length + 1) c') (vs ++ [s1, s2]) (ss ++ [t]) → w.grownBy w' v.ownBlock → Below base w w' → wpList Try.prog ops Q rest (a.put o.dst (.slice A' (ss.length + 1) c')) w') : wpList Try.prog ops Q (o :: rest) a w := by
  unfold wpList
  rw [if_pos (show Region.wanted o (yielded ops a.tmps) = true by simp [Region.wanted, hgd])]
  exact Or.inl (wp_appS2 s x ho hs h0 hb0 hbase hy hg hx hl h)
end
/-- an operation of a round, from its plain law -/
theorem wpListIn_of {P : Program} {ops : Array Oper} {Q : Exit → Act → World → Prop} {l n : Nat} {o : Oper} {rest : List Oper} {K : Act → World → Prop} {a : Act} {w : World} (hlo : ¬ LetsOut Q) (hg : o.guard = none) (hnd : noDefer o = true) (h : o.wp P a w K Q) (hK : ∀ a w, K a w → wpListIn (Fence.wide.inRound l) n P ops Q rest a w) :
    wpListIn (Fence.wide.inRound l) n P ops Q (o :: rest) a w := by
  unfold wpListIn
  rw [if_pos (show Region.wanted o (yielded ops a.tmps) = true by simp [Region.wanted, hg])]
  have hnd' : ∀ c, o.op ≠ .defer c := fun c hc => by simp [noDefer, hc] at hnd
  refine ⟨fun _ _ => trivial, ?_⟩
  rw [show (Fence.wide.inRound l).round = some l from rfl, Oper.semAt_some l _ o hnd']
  unfold Oper.wp at h
  generalize (execOp a.eval o).run P w = r at *
  cases r with
  | ok x w' =>
    cases x <;> simp only [Oper.upon, Oper.uponIn] at h ⊢ <;>
      first
        | exact hK _ _ h
        | exact ⟨fun h => (by cases h), CallsIn.inRound l (callsIn_wide.2 (Calls.mono h fun e w'' he => by cases e <;> first | exact hK _ _ he | exact he))⟩
        | exact ⟨fun h => (by cases h), rowsIn_wide (Rows.mono h fun _ _ he => hK _ _ he)⟩
  | halt x w' => cases x <;> simp only [Oper.upon, Oper.uponIn] at h ⊢ <;> exact h
--@
end Go.Proofs.Yteogcababfenfaa
