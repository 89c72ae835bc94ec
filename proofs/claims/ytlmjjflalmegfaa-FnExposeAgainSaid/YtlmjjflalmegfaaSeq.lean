/- Contracts: impl's cases as an iterator value; the first case. -/
import Derived.Test.YtlmjjflalmegfaaExt
set_option linter.unusedSimpArgs false
set_option linter.unusedVariables false
namespace Go.Proofs.Ytlmjjflalmegfaa
open Go Go.RowKit Go.Proofs
attribute [local go_sem ↓] Go.wp_at_zero Go.wp_at_succ
attribute [local go_sem] Oper.semAt_some

abbrev tTS : Nat := 71
/-- the terms of a case of a: nil, a's and the further ones F -/
def caseS (a : Asn) (F : Nat) : Nat := tins (tset (termsL a)) 0 ||| F
theorem caseS_lt {a : Asn} {F : Nat} (h : F < 512) : caseS a F < 512 := Nat.or_lt_two_pow (n := 9) (tins_lt (tset_lt _) 0) h
theorem caseS_bit (a : Asn) (F n : Nat) : (caseS a F).testBit n = (decide (isTermB (n : Int) = true ∧ (n : Int) ∈ termsL a) || decide (n = 0) || F.testBit n) := by
  unfold caseS
  rw [Nat.testBit_or, tins_bit, tset_bit]
  congr 2
  rw [decide_eq_decide]
  constructor
  · rintro ⟨_, h⟩; omega
  · intro h; subst h; exact ⟨by decide, rfl⟩
theorem caseS_zero (a : Asn) (F : Nat) : (caseS a F).testBit 0 = true := by rw [caseS_bit]; simp
theorem caseS_terms {a : Asn} (h : a.valid = true) (F : Nat) : ∀ t ∈ termsL a, (caseS a F).testBit t.toNat = true := by
  intro t ht
  have hb := termsL_ok h t ht
  have := isTermB_iff.1 hb
  rw [caseS_bit]
  have e : ((t.toNat : Nat) : Int) = t := by omega
  rw [e]
  simp [hb, ht]
theorem caseS_not {a : Asn} (h : a.valid = true) (F : Nat) : ∀ t : Nat, (caseS a F).testBit t = false → (∀ f ∈ a.facts, f.a ≠ t ∧ f.b ≠ t) ∧ (∀ x ∈ a.atoms, x.a ≠ t ∧ x.b ≠ t) := by
  intro t ht
  have key : (t : Int) ∉ termsL a := fun hm => by
    have := caseS_terms h F _ hm
    rw [Int.toNat_natCast, ht] at this; cases this
  refine ⟨fun f hf => ⟨fun e => key ?_, fun e => key ?_⟩, fun x hx => ⟨fun e => key ?_, fun e => key ?_⟩⟩
  all_goals simp only [termsL, List.mem_append, List.mem_flatMap]
  · exact Or.inl ⟨f, hf, by simp [factT, e]⟩
  · exact Or.inl ⟨f, hf, by simp [factT, e]⟩
  · exact Or.inr ⟨x, hx, by simp [atomT, e]⟩
  · exact Or.inr ⟨x, hx, by simp [atomT, e]⟩
theorem ext_caseS {a : Asn} (h : a.valid = true) (F : Nat) : ext a (caseS a F) 9 zeros = cases a (caseS a F) := ext_cases (Asn.valid_ok h).1 (Asn.valid_ok h).2 (caseS_not h F)

--@ impl.possibleCases$1
set_option maxHeartbeats 1600000 in
theorem c_seq {a : Asn} {F lo hi n₀ gA gT : Nat} {A1 A2 : Option Addr} {d1 d2 : Nat} (w : World) (hv : a.valid = true) (hF : F < 512) (hA : AsnV w lo hi (.agg #[.slice A1 a.facts.length d1, .slice A2 a.atoms.length d2]) a) (hhi : hi ≤ n₀) (hn : n₀ ≤ w.heap.size)
    (kA : Blk w gA tAs #[.slice A1 a.facts.length d1, .slice A2 a.atoms.length d2]) (kT : Blk w gT tTS #[.int .u16 (caseS a F : Nat)]) :
    SeqT (α := CaseT a (caseS a F)) Try.prog 127 #[.pointer (some ⟨gA, 0, none⟩), .pointer (some ⟨gT, 0, none⟩)] (fun x => #[.agg (case9 x.1)]) tTc (Kept tTc tAs n₀) (fun p => p.map Subtype.val <+: cases a (caseS a F)) (fun xs => xs.map Subtype.val = cases a (caseS a F)) (fun pre => pre.map Subtype.val <+: cases a (caseS a F)) w := by
  intro n l J Jx W hW hJ hJx hY h0
  have kA' := kA.next hW
  have kT' := kT.next hW
  have hA' := hA.below hW
  have hz := hW.size
  have hB1 : Below W.heap.size W (W.alloc (.cells (case9 zeros) tTc)) := bel
  have h1 := c_impl_extend hv (caseS_lt hF) (caseS_terms hv F) hhi J Jx hJ hY 9 zeros [] _ (by omega) rfl (by rw [ext_caseS hv]; simp) (fun j hj => by omega) (hA'.below hB1) hB1.size (by have := hB1.size; omega) (hJ.next h0 hB1)
  rw [show ((9 - 9 : Nat) : Int) = 0 from rfl, ext_caseS hv] at h1
  have H1 := Lib.hid h1
  have lA := kA'.lt
  have lT := kT'.lt
  have qA := kA'.cell
  have qT := kT'.cell
  clear h1 hY hJ hJx h0 hA' hA
  refine callsIn_wide.2 ?_
  go_enter Try.func127, Try.ntmps127
  go_wp2_with fail
  refine H1.out.mono ?_
  rintro e W' (⟨rfl, ys, y1, y2, -⟩ | ⟨rfl, ys, y1, y2⟩)
  · have Y := Lib.hid (⟨y1, y2⟩ : _ ∧ _)
    clear y1 y2
    go_wp2_with fail
    go_end0
    exact ⟨⟨_, rfl⟩, .inl ⟨ys, Y.out.1, Y.out.2⟩⟩
  · have Y := Lib.hid (⟨y1, y2⟩ : _ ∧ _)
    clear y1 y2
    go_wp2_with fail
    go_end0
    exact ⟨⟨_, rfl⟩, .inr ⟨ys, Y.out.1, Y.out.2⟩⟩

--@ impl.possibleCases
set_option maxHeartbeats 1600000 in
theorem c_impl_possibleCases {lo hi : Nat} (A1 A2 : Option Addr) (d1 d2 : Nat) (a : Asn) (F : Nat) (w : World) (h : AsnV w lo hi (.agg #[.slice A1 a.facts.length d1, .slice A2 a.atoms.length d2]) a) (hF : F < 512) :
    Calls Try.prog 99 #[.agg #[.slice A1 a.facts.length d1, .slice A2 a.atoms.length d2], .int .u16 (F : Nat)] w fun e w' => ∃ gA gT, e = .returned (.func (.func 127) #[] #[.pointer (some ⟨gA, 0, none⟩), .pointer (some ⟨gT, 0, none⟩)]) ∧
      w.heap.size ≤ gA ∧ w.heap.size ≤ gT ∧ Blk w' gA tAs #[.slice A1 a.facts.length d1, .slice A2 a.atoms.length d2] ∧ Blk w' gT tTS #[.int .u16 (caseS a F : Nat)] ∧ Below w.heap.size w w' := by
  have hV := Lib.hid h
  clear h
  have hT := tset_lt (termsL a)
  have hT2 := tins_lt hT 0
  have hU := u16_or_nat (tins (tset (termsL a)) 0) F (by omega) (by omega)
  go_enter Try.func99, Try.ntmps99
  go_wp2_with fail
  refine (c_impl_termsIn _ a _ (hV.out.below bel)).mono ?_
  rintro e w1 ⟨rfl, hB1⟩
  have k0 : Blk w1 w.heap.size tAs #[.slice A1 a.facts.length d1, .slice A2 a.atoms.length d2] := Blk.next blks hB1
  have hB : Below w.heap.size w w1 := bgo (w := w) bel hB1
  have hz := hB1.size
  simp only [World.size_alloc] at hz
  clear hB1
  go_wp2_with fail
  refine (c_impl_with _ 0 _ hT).mono ?_
  rintro e w2 ⟨rfl, rfl⟩
  go_wp2_with fail
  go_ret
  refine ⟨w.heap.size, w1.heap.size, rfl, Nat.le_refl _, by omega, k0.alloc _, ?_, bel⟩
  exact Blk.new _ _ _

--@ impl.firstCase
theorem head_pre {y : List Int} {L : List (List Int)} (h : [y] <+: L) : L.head?.getD zeros = y ∧ L.isEmpty = false := by
  obtain ⟨zs, rfl⟩ := h
  exact ⟨rfl, rfl⟩
/-- nine cells of one block, stored -/
abbrev set9 (w : World) (g : Nat) (v0 v1 v2 v3 v4 v5 v6 v7 v8 : Value) : World := (((((((((w.setCell ⟨g, 0, none⟩ v0).setCell ⟨g, 1, none⟩ v1).setCell ⟨g, 2, none⟩ v2).setCell ⟨g, 3, none⟩ v3).setCell ⟨g, 4, none⟩ v4).setCell ⟨g, 5, none⟩ v5).setCell ⟨g, 6, none⟩ v6).setCell ⟨g, 7, none⟩ v7).setCell ⟨g, 8, none⟩ v8)
theorem Blk.nine {w : World} {g : Nat} {t : TypeId} {a0 a1 a2 a3 a4 a5 a6 a7 a8 v0 v1 v2 v3 v4 v5 v6 v7 v8 : Value} (h : Blk w g t #[a0, a1, a2, a3, a4, a5, a6, a7, a8]) : Blk (set9 w g v0 v1 v2 v3 v4 v5 v6 v7 v8) g t #[v0, v1, v2, v3, v4, v5, v6, v7, v8] := by
  have h0 := h.set_ 0 v0
  simp only [List.setIfInBounds_toArray, List.set_cons_zero] at h0
  have h1 := h0.set_ 1 v1
  simp only [List.setIfInBounds_toArray, List.set_cons_zero, List.set_cons_succ] at h1
  have h2 := h1.set_ 2 v2
  simp only [List.setIfInBounds_toArray, List.set_cons_zero, List.set_cons_succ] at h2
  have h3 := h2.set_ 3 v3
  simp only [List.setIfInBounds_toArray, List.set_cons_zero, List.set_cons_succ] at h3
  have h4 := h3.set_ 4 v4
  simp only [List.setIfInBounds_toArray, List.set_cons_zero, List.set_cons_succ] at h4
  have h5 := h4.set_ 5 v5
  simp only [List.setIfInBounds_toArray, List.set_cons_zero, List.set_cons_succ] at h5
  have h6 := h5.set_ 6 v6
  simp only [List.setIfInBounds_toArray, List.set_cons_zero, List.set_cons_succ] at h6
  have h7 := h6.set_ 7 v7
  simp only [List.setIfInBounds_toArray, List.set_cons_zero, List.set_cons_succ] at h7
  have h8 := h7.set_ 8 v8
  simp only [List.setIfInBounds_toArray, List.set_cons_zero, List.set_cons_succ] at h8
  exact h8
theorem Blk.nineFar {w : World} {g g2 : Nat} {t : TypeId} {cs : Array Value} {v0 v1 v2 v3 v4 v5 v6 v7 v8 : Value} (h : Blk w g2 t cs) (hn : g2 ≠ g) : Blk (set9 w g v0 v1 v2 v3 v4 v5 v6 v7 v8) g2 t cs :=
  ((((((((h.far (p := ⟨g, 0, none⟩) hn v0).far (p := ⟨g, 1, none⟩) hn v1).far (p := ⟨g, 2, none⟩) hn v2).far (p := ⟨g, 3, none⟩) hn v3).far (p := ⟨g, 4, none⟩) hn v4).far (p := ⟨g, 5, none⟩) hn v5).far (p := ⟨g, 6, none⟩) hn v6).far (p := ⟨g, 7, none⟩) hn v7).far (p := ⟨g, 8, none⟩) hn v8
theorem below9 {w w0 : World} {B g : Nat} {v0 v1 v2 v3 v4 v5 v6 v7 v8 : Value} (h : Below B w0 w) (hn : B ≤ g) : Below B w0 (set9 w g v0 v1 v2 v3 v4 v5 v6 v7 v8) :=
  ((((((((h.setCell (p := ⟨g, 0, none⟩) hn v0).setCell (p := ⟨g, 1, none⟩) hn v1).setCell (p := ⟨g, 2, none⟩) hn v2).setCell (p := ⟨g, 3, none⟩) hn v3).setCell (p := ⟨g, 4, none⟩) hn v4).setCell (p := ⟨g, 5, none⟩) hn v5).setCell (p := ⟨g, 6, none⟩) hn v6).setCell (p := ⟨g, 7, none⟩) hn v7).setCell (p := ⟨g, 8, none⟩) hn v8
theorem keeps9 {w : World} {g : Nat} {v0 v1 v2 v3 v4 v5 v6 v7 v8 : Value} : KeepsOthers w (set9 w g v0 v1 v2 v3 v4 v5 v6 v7 v8) :=
  ((((((((KeepsOthers.setCell _ _ _).trans (KeepsOthers.setCell _ _ _)).trans (KeepsOthers.setCell _ _ _)).trans (KeepsOthers.setCell _ _ _)).trans (KeepsOthers.setCell _ _ _)).trans (KeepsOthers.setCell _ _ _)).trans (KeepsOthers.setCell _ _ _)).trans (KeepsOthers.setCell _ _ _)).trans (KeepsOthers.setCell _ _ _)
theorem Kept.putl {T1 T2 : TypeId} {n₀ B : Nat} (hn : n₀ ≤ B) (W : World) (l : Nat) (o o' : Obj) (hl : B ≤ l) (h : W.heap[l]? = some o) (hc : o.isCells = false) : Kept T1 T2 n₀ W (W.putObj l o') := Kept.put o' (by omega) h hc
theorem Blk.putl {W : World} {g l : Nat} {t : TypeId} {cs : Array Value} {o : Obj} (o' : Obj) (hb : Blk W g t cs) (hl : W.heap[l]? = some o) (ho : o.isCells = false) : Blk (W.putObj l o') g t cs :=
  (World.putObj_heap_other (fun e => by subst e; unfold Blk at hb; rw [hl] at hb; cases hb; cases ho)).trans hb
set_option maxRecDepth 100000 in
set_option maxHeartbeats 3200000 in
theorem c_impl_firstCase {lo hi : Nat} (v : Value) (a : Asn) (w : World) (h : AsnV w lo hi v a) (hhi : hi ≤ w.heap.size) (hv : a.valid = true) :
    Calls Try.prog 62 #[v] w fun e w' => e = .returned (.tuple #[.agg (case9 ((cases a (caseS a 0)).head?.getD zeros)), .bool (!(cases a (caseS a 0)).isEmpty)]) ∧ Below w.heap.size w w' := by
  have hV := Lib.hid h
  obtain ⟨A1, c1, A2, c2, rfl, -, -⟩ := h
  refine (callsIn_wide (n := 3)).1 ?_
  (refine callsIn_of_wp_marks Try.func62 rfl trivial ?_ rfl; simp only [Try.ntmps62, List.size_toArray, List.length_cons, List.length_nil, Nat.reduceAdd, Nat.reduceSub, Array.replicate_succ, Array.replicate_zero, List.push_toArray, List.append_toArray, List.nil_append, List.cons_append])
  gi_wp2_with fail
  refine ⟨trivial, (callsIn_wide.2 (c_impl_possibleCases A1 A2 c1 c2 a 0 _ (hV.out.below bel) (by decide))).mono ?_⟩
  rintro e w1 ⟨gA, gT, rfl, hA, hT, kA, kT, hB1⟩
  have kR0 : Blk w1 (w.heap.size + 1) tTc #[.int .i64 0, .int .i64 0, .int .i64 0, .int .i64 0, .int .i64 0, .int .i64 0, .int .i64 0, .int .i64 0, .int .i64 0] := Blk.next blks hB1
  have kR : Blk w1 (w.heap.size + 1) tTc (case9 zeros) := kR0
  clear kR0
  have kO : Blk w1 (w.heap.size + 1 + 1) 4 #[.bool false] := Blk.next blks hB1
  have hB : Below w.heap.size w w1 := bgo (w := w) bel hB1
  have hz := hB1.size
  simp only [World.size_alloc] at hz hA hT
  have hAw := hV.out.below hB
  clear hB1
  gi_wp2_with fail
  refine wp_rangeT (gf := 127) (lb := #[.pointer (some ⟨gA, 0, none⟩), .pointer (some ⟨gT, 0, none⟩)]) rfl (enters_of Try.func127 (by kernel_rfl) rfl)
    (c_seq (n₀ := w.heap.size) w1 hv (by decide) hAw hhi (by omega) kA kT) (fun h k => h.trans k) (Kept.putl (by omega)) (Below.refl _ _) (fun _ => rfl)
    (fun pre W => pre = [] ∧ Blk W (w.heap.size + 1) tTc (case9 zeros) ∧ Blk W (w.heap.size + 1 + 1) 4 #[.bool false] ∧ Below w.heap.size w W)
    (fun c pre W => ∃ x, c = .ret ∧ pre = [x] ∧ Blk W (w.heap.size + 1) tTc (case9 x.1) ∧ Blk W (w.heap.size + 1 + 1) 4 #[.bool true] ∧ Below w.heap.size w W)
    (fun s X Y row hs hg hr => ⟨hs.1, hs.2.1.turn hg hr (Or.inr (by omega)), hs.2.2.1.turn hg hr (Or.inr (by omega)), Below.turn hs.2.2.2 hg hr (by omega) hs.2.2.2.size⟩)
    (fun c s X Y row hs hg hr => by
      obtain ⟨x, e1, e2, k1, k2, k3⟩ := hs
      exact ⟨x, e1, e2, k1.turn hg hr (Or.inr (by omega)), k2.turn hg hr (Or.inr (by omega)), Below.turn k3 hg hr (by omega) k3.size⟩)
    ⟨rfl, kR, kO, hB⟩ ?round ?done ?stop
  case round =>
    rintro l pre x W hl ⟨rfl, kR, kO, hB⟩ -
    have hwz := hB.size
    gi_wp2
    refine ⟨(KeepsOthers.alloc _ _).from _, Kept.alloc (by omega) _, fun o o' ho hc => ?_⟩
    have kX := (Blk.new W tTc (case9 x.1)).putl o' ho hc
    have lO := kO.lt
    replace kR := (kR.alloc (.cells (case9 x.1) tTc)).putl o' ho hc
    replace kO := (kO.alloc (.cells (case9 x.1) tTc)).putl o' ho hc
    have hB' := (bbox hB (.cells (case9 x.1) tTc)).trans (Kept.put (T1 := tTc) (T2 := tAs) (n₀ := w.heap.size) o' (by omega) ho hc).below
    clear ho
    obtain ⟨V, hVe⟩ : ∃ V, V = (W.alloc (.cells (case9 x.1) tTc)).putObj l o' := ⟨_, rfl⟩
    rw [← hVe] at kX kR kO hB' ⊢
    clear hVe hB
    obtain ⟨p0, p1, p2, p3, p4, p5, p6, p7, p8⟩ := case9_cells kX
    obtain ⟨q0, q1, q2, q3, q4, q5, q6, q7, q8⟩ := case9_cells kR
    have rR := kR.frozen
    have qO := kO.cell 0
    have rO := kO.frozen
    gi_wp2
    refine ⟨(keeps9.trans (KeepsOthers.setCell _ _ _)).from _, x, rfl, rfl, ?_, ?_, ?_⟩
    · exact (Blk.nine kR).far (p := ⟨w.heap.size + 1 + 1, 0, none⟩) (by simp) _
    · exact (kO.nineFar (by omega)).set_ 0 (.bool true)
    · exact (below9 hB' (by omega)).setCell (p := ⟨w.heap.size + 1 + 1, 0, none⟩) (by simp only; omega) _
  case done =>
    rintro D ys W hD hS ⟨rfl, kR, kO, hB⟩ hK
    have E : cases a (caseS a 0) = [] := hS.symm
    obtain ⟨q0, q1, q2, q3, q4, q5, q6, q7, q8⟩ := case9_cells kR
    have rR := kR.frozen
    have qO := kO.cell 0
    have rO := kO.frozen
    have lO := kO.lt
    have lR := kR.lt
    gi_wp2
    have zR := (Blk.nine (v0 := .int .i64 0) (v1 := .int .i64 0) (v2 := .int .i64 0) (v3 := .int .i64 0) (v4 := .int .i64 0) (v5 := .int .i64 0) (v6 := .int .i64 0) (v7 := .int .i64 0) (v8 := .int .i64 0) kR).far (p := ⟨w.heap.size + 1 + 1, 0, none⟩) (by simp) (.bool false)
    have zO := (kO.nineFar (g := w.heap.size + 1) (v0 := .int .i64 0) (v1 := .int .i64 0) (v2 := .int .i64 0) (v3 := .int .i64 0) (v4 := .int .i64 0) (v5 := .int .i64 0) (v6 := .int .i64 0) (v7 := .int .i64 0) (v8 := .int .i64 0) (by omega)).set_ 0 (.bool false)
    have zB := (below9 (g := w.heap.size + 1) (v0 := .int .i64 0) (v1 := .int .i64 0) (v2 := .int .i64 0) (v3 := .int .i64 0) (v4 := .int .i64 0) (v5 := .int .i64 0) (v6 := .int .i64 0) (v7 := .int .i64 0) (v8 := .int .i64 0) hB (by omega)).setCell (p := ⟨w.heap.size + 1 + 1, 0, none⟩) (by simp only; omega) (.bool false)
    have zK := ((keeps9 (w := W) (g := w.heap.size + 1) (v0 := .int .i64 0) (v1 := .int .i64 0) (v2 := .int .i64 0) (v3 := .int .i64 0) (v4 := .int .i64 0) (v5 := .int .i64 0) (v6 := .int .i64 0) (v7 := .int .i64 0) (v8 := .int .i64 0)).trans (KeepsOthers.setCell _ ⟨w.heap.size + 1 + 1, 0, none⟩ (.bool false))).same D _ hK rfl
    obtain ⟨V, hVe⟩ : ∃ V, V = ((set9 W (w.heap.size + 1) (.int .i64 0) (.int .i64 0) (.int .i64 0) (.int .i64 0) (.int .i64 0) (.int .i64 0) (.int .i64 0) (.int .i64 0) (.int .i64 0)).setCell ⟨w.heap.size + 1 + 1, 0, none⟩ (.bool false)) := ⟨_, rfl⟩
    rw [← hVe] at zR zO zB zK ⊢
    refine ⟨by simp, .inl ⟨_, _, rfl, run_takeDeferred zK, ?_⟩⟩
    have yR : Blk _ _ _ (case9 zeros) := zR.putl (.deferred none) zK rfl
    have yO := zO.putl (.deferred none) zK rfl
    obtain ⟨p0, p1, p2, p3, p4, p5, p6, p7, p8⟩ := case9_cells yR
    have pO := yO.cell 0
    refine ⟨.tuple #[.agg (case9 zeros), .bool false], ?_, by rw [E]; rfl, zB.trans (belowK_b (w := w) (Nat.le_refl _) V D _ _ (by omega) zK rfl rfl)⟩
    simp [results, Try.f62, go_sem, p0, p1, p2, p3, p4, p5, p6, p7, p8, pO]
  case stop =>
    rintro D c pre W hD hS ⟨x, rfl, rfl, kR, kO, hB⟩ hK
    obtain ⟨q0, q1, q2, q3, q4, q5, q6, q7, q8⟩ := case9_cells kR
    have qO := kO.cell 0
    have lO := kO.lt
    have lR := kR.lt
    gi_wp2
    refine ⟨by simp, .inl ⟨_, _, rfl, run_takeDeferred hK, ?_⟩⟩
    have yR := kR.putl (.deferred none) hK rfl
    have yO := kO.putl (.deferred none) hK rfl
    obtain ⟨p0, p1, p2, p3, p4, p5, p6, p7, p8⟩ := case9_cells yR
    have pO := yO.cell 0
    have E := head_pre hS
    refine ⟨.tuple #[.agg (case9 x.1), .bool true], ?_, by rw [E.1, E.2]; rfl, hB.trans (belowK_b (w := w) (Nat.le_refl _) W D _ _ (by omega) hK rfl rfl)⟩
    simp [results, Try.f62, go_sem, p0, p1, p2, p3, p4, p5, p6, p7, p8, pO]

--@ impl.Consistent
set_option maxHeartbeats 1600000 in
theorem c_impl_Consistent {lo hi : Nat} (v : Value) (a : Asn) (w : World) (h : AsnV w lo hi v a) (hhi : hi ≤ w.heap.size) :
    Calls Try.prog 81 #[v] w fun e w' => e = .returned (.bool (a.valid && !(cases a (caseS a 0)).isEmpty)) ∧ Below w.heap.size w w' := by
  have hV := Lib.hid h
  obtain ⟨A1, c1, A2, c2, rfl, -, -⟩ := h
  go_enter Try.func81, Try.ntmps81
  go_wp2_with fail
  refine (c_impl_AssertionValid _ a _ (hV.out.below bel)).mono ?_
  rintro e w1 ⟨rfl, hB1⟩
  have k0 : Blk w1 w.heap.size tAs #[.slice A1 a.facts.length c1, .slice A2 a.atoms.length c2] := Blk.next blks hB1
  have hB : Below w.heap.size w w1 := bgo (w := w) bel hB1
  have hz := hB1.size
  simp only [World.size_alloc] at hz
  clear hB1
  have q0 := k0.cell
  have l0 := k0.lt
  cases hv : a.valid
  · go_wp2_with fail
    go_ret
    exact ⟨ret_bool (by simp [hv]), hB⟩
  · have HV := Lib.hid hv
    go_wp2_with fail
    refine (c_impl_firstCase _ a _ (hV.out.below hB) (by omega) HV.out).mono ?_
    rintro e w2 ⟨rfl, hB2⟩
    go_wp2_with fail
    go_ret
    exact ⟨ret_bool (by simp [hv]), bbox (bgo hB hB2) _⟩
end Go.Proofs.Ytlmjjflalmegfaa
