/- Exposing cells: the helpers of spec. -/
import Derived.Test.YtlmjjflalmegfaaWoS
import Derived.Test.YtlmjjflalmegfaaMDrawC
import Derived.Test.YtlmjjflalmegfaaImpS
set_option linter.unusedSimpArgs false
set_option linter.unusedVariables false
namespace Go.Proofs.Ytlmjjflalmegfaa
open Go Go.RowKit Go.Proofs
attribute [local go_sem ↓] Go.wp_at_zero Go.wp_at_succ

--@ spec.l10Equal
set_option maxRecDepth 100000 in
set_option maxHeartbeats 1600000 in
theorem c_l10Equal {lo hi : Nat} (v : Value) (a : Asn) (x y : Int) (w : World) (h : AsnV w lo hi v a) : Calls Try.prog 73 #[v, .int .i64 x, .int .i64 y] w fun e w' => e = .returned (.bool (impB a ⟨true, x, y⟩)) ∧ Below w.heap.size w w' := by
  have hV := Lib.hid h
  obtain ⟨A1, c1, A2, c2, rfl, -⟩ := h
  go_enter Try.func73, Try.ntmps73
  go_wp2_with fail
  refine (c_spec_Implies _ a ⟨true, x, y⟩ _ (hV.out.below bel)).mono ?_
  rintro e w1 ⟨rfl, hB1⟩
  have hB := bgo (w := w) bel hB1
  go_wp2_with fail
  go_ret
  exact ⟨rfl, hB⟩
--@ spec.l10Front
set_option maxRecDepth 100000 in
set_option maxHeartbeats 1600000 in
theorem c_l10Front {lo hi : Nat} (v : Value) (a : Asn) (x : Atm) (i : Nat) (w : World) (h : AsnV w lo hi v a) (hv : a.valid = true) (hi' : i < a.atoms.length) :
    Calls Try.prog 74 #[v, .agg #[.int .i64 x.kind, .int .i64 x.a, .int .i64 x.b], .int .i64 i] w fun e w' => ∃ F d G g, e = .returned (.agg #[.slice F a.facts.length d, .slice G a.atoms.length g]) ∧ AsnO w' w.heap.size (.agg #[.slice F a.facts.length d, .slice G a.atoms.length g]) ⟨a.facts, [x] ++ withoutL a.atoms i⟩ ∧ Below w.heap.size w w' := by
  have hV := Lib.hid h
  obtain ⟨A1, c1, A2, c2, rfl, -⟩ := h
  have hvl := valid_len hv
  have hwl : ([x] ++ withoutL a.atoms i).length = a.atoms.length := by have := withoutL_len hi'; simp; omega
  have HW := Lib.hid hwl
  have HE := Lib.hid (wo_one hi')
  clear hv hwl
  go_enter Try.func74, Try.ntmps74
  have kr : Blk (((w.alloc (.cells #[.slice A1 a.facts.length c1, .slice A2 a.atoms.length c2] tAs)).alloc (.cells #[.int .i64 x.kind, .int .i64 x.a, .int .i64 x.b] tA)).alloc (.cells #[.slice none 0 0, .slice none 0 0] tAs)) (w.heap.size + 2) tAs #[.slice none 0 0, .slice none 0 0] := blks
  go_wp2_with fail
  refine (c_l6WithoutF _ a i i x _ (hV.out.below bel) (by omega) (by omega)).mono ?_
  rw [HE.out]
  rintro e w1 ⟨r, rfl, o, hB1⟩
  have hB := bgo (w := w) bel hB1
  replace kr := kr.next hB1
  clear hB1
  obtain ⟨fv, av, rfl, o1, o2⟩ := o
  obtain ⟨F, d, rfl, -⟩ := o1.reads
  obtain ⟨G, g, rfl, -⟩ := o2.reads
  simp only [HW.out] at o2 ⊢
  have O1 := Lib.hid (o1.lower (base' := w.heap.size) (by simp; omega))
  have O2 := Lib.hid (o2.lower (base' := w.heap.size) (by simp; omega))
  clear o1 o2
  (replace qkr := kr.cell; replace rkr := kr.frozen; replace lkr := kr.lt)
  go_wp2_with fail
  refine bodyPost_ret (v := .agg #[.slice F a.facts.length d, .slice G a.atoms.length g]) (by simp [results, Try.results74, go_sem, qkr]) rfl ⟨F, d, G, g, rfl, ⟨_, _, rfl, ?_, ?_⟩, bel⟩
  · exact (O1.out.setT kr (by decide) 0 _).setT (kr.set_ 0 _) (by decide) 1 _
  · exact (O2.out.setT kr (by decide) 0 _).setT (kr.set_ 0 _) (by decide) 1 _
--@ spec.l10Know
set_option maxRecDepth 100000 in
set_option maxHeartbeats 3200000 in
theorem c_l10Know {lo hi : Nat} (v : Value) (a : Asn) (x t : Int) (w : World) (h : AsnV w lo hi v a) (hl : a.facts.length ≤ 1000) :
    Calls Try.prog 75 #[v, .int .i64 x, .int .i64 t] w fun e w' => ∃ F d G g, e = .returned (.agg #[.slice F (a.facts.length + 1) d, .slice G a.atoms.length g]) ∧ AsnO w' w.heap.size (.agg #[.slice F (a.facts.length + 1) d, .slice G a.atoms.length g]) ⟨a.facts ++ [⟨true, x, t⟩], a.atoms⟩ ∧ Below w.heap.size w w' := by
  have hV := Lib.hid h
  obtain ⟨A1, c1, A2, c2, rfl, -⟩ := h
  go_enter Try.func75, Try.ntmps75
  have kr : Blk ((w.alloc (.cells #[.slice A1 a.facts.length c1, .slice A2 a.atoms.length c2] tAs)).alloc (.cells #[.slice none 0 0, .slice none 0 0] tAs)) (w.heap.size + 1) tAs #[.slice none 0 0, .slice none 0 0] := blks
  go_wp2_with fail
  refine (c_l3Copy _ a _ (hV.out.below bel)).mono ?_
  rintro e w1 ⟨r, rfl, o, hB1⟩
  have hB := bgo (w := w) bel hB1
  replace kr := kr.next hB1
  have hs1 : w.heap.size + 2 ≤ w1.heap.size := by have := hB1.size; simp at this; omega
  clear hB1
  obtain ⟨fv, av, rfl, o1, o2⟩ := o
  obtain ⟨F, d, rfl, -⟩ := o1.reads
  obtain ⟨G, g, rfl, -⟩ := o2.reads
  have O1 := Lib.hid (o1.lower (base' := w.heap.size) (by simp; omega))
  have O2 := Lib.hid (o2.lower (base' := w.heap.size) (by simp; omega))
  have HB := Lib.hid hB
  clear o1 o2 hB
  go_upto_region 2 with fail
  have ko : Blk (w1.alloc (.cells #[.slice F a.facts.length d, .slice G a.atoms.length g] tAs)) w1.heap.size tAs #[.slice F a.facts.length d, .slice G a.atoms.length g] := Blk.new _ _ _
  replace kr := kr.alloc (.cells #[.slice F a.facts.length d, .slice G a.atoms.length g] tAs)
  replace O1 := Lib.hid (O1.out.below (bbox (Below.refl _ _) (.cells #[.slice F a.facts.length d, .slice G a.atoms.length g] tAs)))
  replace O2 := Lib.hid (O2.out.below (bbox (Below.refl _ _) (.cells #[.slice F a.facts.length d, .slice G a.atoms.length g] tAs)))
  replace HB := Lib.hid (bbox HB.out (.cells #[.slice F a.facts.length d, .slice G a.atoms.length g] tAs))
  have hsw : w1.heap.size < (w1.alloc (.cells #[.slice F a.facts.length d, .slice G a.atoms.length g] tAs)).heap.size := by simp
  generalize (w1.alloc (.cells #[.slice F a.facts.length d, .slice G a.atoms.length g] tAs)) = W at ko kr O1 O2 HB hsw ⊢
  obtain ⟨y, hy⟩ : ∃ y, y = w1.heap.size := ⟨_, rfl⟩
  rw [← hy] at ko hs1 hsw ⊢
  clear hy
  (replace qko := ko.cell; replace rko := ko.frozen; replace lko := ko.lt; replace qkr := kr.cell; replace rkr := kr.frozen; replace lkr := kr.lt)
  go_wp2_with (at_builtin; refine appFL (ys := [⟨true, x, t⟩]) (base := w.heap.size) rfl _ _ rfl rfl (O1.out.below bel) rfl (FactsV.one (f := ⟨true, x, t⟩) (Blk.new W tF _)) (by simp; omega) (by simp; omega) ?_; intro A6 c6 w6 o6 hg6 hB6; have kO := O1.out.below (w' := W.alloc (.cells #[.bool true, .int .i64 x, .int .i64 t] tF)) bel; have ko6 := Blk.grownO (hg := hg6) (ko.alloc _) kO.1 (by decide); have kr6 := Blk.grownO (hg := hg6) (kr.alloc _) kO.1 (by decide); have O26 : Hid (AtomsO w6 w.heap.size (.slice G a.atoms.length g) a.atoms) := Lib.hid ⟨own_grownO (O2.out.below (w' := W.alloc (.cells #[.bool true, .int .i64 x, .int .i64 t] tF)) bel).1 kO.1 hg6 (by decide), O2.out.2⟩; have HB6 : Hid (Below w.heap.size w w6) := Lib.hid ((bbox HB.out _).trans hB6); have O16 := Lib.hid o6; clear hB6 hg6 o6 kO qko rko lko qkr rkr lkr; (replace qko6 := ko6.cell; replace rko6 := ko6.frozen; replace lko6 := ko6.lt; replace qkr6 := kr6.cell; replace rkr6 := kr6.frozen; replace lkr6 := kr6.lt))
  simp only [List.length_append, List.length_cons, List.length_nil, Nat.zero_add] at O16 ⊢
  refine bodyPost_ret (v := .agg #[.slice A6 (a.facts.length + 1) c6, .slice G a.atoms.length g]) (by simp [results, Try.results75, go_sem, qkr6]) rfl ⟨A6, c6, G, g, rfl, ⟨_, _, rfl, ?_, ?_⟩, ?_⟩
  · have kr7 := kr6.far (p := ⟨y, 0, none⟩) (by simp only; omega) (.slice A6 (a.facts.length + 1) c6)
    exact ((O16.out.setT ko6 (by decide) 0 _).setT kr7 (by decide) 0 _).setT (kr7.set_ 0 _) (by decide) 1 _
  · have kr7 := kr6.far (p := ⟨y, 0, none⟩) (by simp only; omega) (.slice A6 (a.facts.length + 1) c6)
    exact ((O26.out.setT ko6 (by decide) 0 _).setT kr7 (by decide) 0 _).setT (kr7.set_ 0 _) (by decide) 1 _
  · exact ((HB6.out.setCell (p := ⟨y, 0, none⟩) (by simp only; omega) _).setCell (p := ⟨w.heap.size + 1, 0, none⟩) (by simp only; omega) _).setCell (p := ⟨w.heap.size + 1, 1, none⟩) (by simp only; omega) _
--@ spec.l10New
set_option maxRecDepth 100000 in
set_option maxHeartbeats 3200000 in
theorem c_l10New {lo hi lo' hi' : Nat} (v : Value) (a : Asn) (B : Option Addr) (c K : Nat) (w : World) (h : AsnV w lo hi v a) (h' : BoolsV w lo' hi' B (flagsOf K)) (hv : a.valid = true) :
    Calls Try.prog 116 #[v, .slice B 9 c] w fun e w' => e = .returned (.tuple #[.int .i64 (unusedI (tset (termsL a) ||| K)), .bool (newT (tset (termsL a) ||| K)).isSome]) ∧ Below w.heap.size w w' := by
  have hV := Lib.hid h
  have HT := Lib.hid (termsL_ok hv)
  have h'' := Lib.hid h'
  obtain ⟨pb, ob, rfl, lpb⟩ := flags_addr h'
  obtain ⟨A1, c1, A2, c2, rfl, h1, h2⟩ := h
  clear hv h1 h2
  go_enter Try.func116, Try.ntmps116
  go_wp2_with fail
  refine (c_spec_l3Terms _ a _ (hV.out.below bel) HT.out).mono ?_
  rintro e w1 ⟨r, rfl, oT, hB1⟩
  have hB := bgo (w := w) bel hB1
  have fC := h''.out.below hB
  generalize hTe : tset (termsL a) = T at oT
  have HTE := Lib.hid hTe
  clear hTe
  obtain ⟨Tb, ct, rfl, fT⟩ := oT.reads
  rw [flagsOf_length]
  obtain ⟨pt, ot, rfl, lpt⟩ := flags_addr fT
  clear hB1 oT h' h''
  go_wp2_with fail
  go_loop [7] (fun i => ∃ k : Nat, 5 ≤ k ∧ k ≤ 9 ∧ i = .int .i64 k ∧ Hid (∀ j, 5 ≤ j → j < k → (T ||| K).testBit j = true)) (fun i => 10 - (intOf i).toNat)
  case atStart => exact ⟨5, by omega, by omega, rfl, Lib.hid fun j h1 h2 => by omega⟩
  case round =>
    obtain ⟨k, h5, h9, rfl, HA⟩ := hrel
    by_cases hlt : k < 9
    · have hki : (k : Int) ≤ 8 := by omega
      have f1 := flags_at fT (m := k) (by omega)
      have f2 := flags_at fC (m := k) (by omega)
      have k9 : (k : Int) < 9 := by omega
      have HBit : Hid ((T ||| K).testBit k = (T.testBit k || K.testBit k)) := Lib.hid (Nat.testBit_or ..)
      have HN : Hid ((T ||| K).testBit k = true → ∀ j, 5 ≤ j → j < k + 1 → (T ||| K).testBit j = true) := Lib.hid fun hb j h1 h2 => by
        by_cases e : j = k
        · rw [e]; exact hb
        · exact HA.out j h1 (by omega)
      cases ht : T.testBit k
      · cases hc : K.testBit k
        · have E := Lib.hid (newT_yes h5 (by omega) HA.out (by rw [HBit.out, ht, hc]; rfl))
          rw [ht] at f1
          rw [hc] at f2
          clear ht hc HA HN HBit
          go_wp2_with fail
          go_ret2
          exact ⟨by unfold unusedI; rw [HTE.out, E.out]; rfl, hB⟩
        · have HN2 := Lib.hid (HN.out (by rw [HBit.out, ht, hc]; rfl))
          rw [ht] at f1
          rw [hc] at f2
          clear ht hc HA HN HBit
          go_wp2_with fail
          go_round
          case rel => exact ⟨k + 1, by omega, by omega, by go_num, HN2⟩
          case measure => simp [intOf]; omega
      · have HN2 := Lib.hid (HN.out (by rw [HBit.out, ht]; rfl))
        rw [ht] at f1
        clear ht HA HN HBit
        go_wp2_with fail
        go_round
        case rel => exact ⟨k + 1, by omega, by omega, by go_num, HN2⟩
        case measure => simp [intOf]; omega
    · obtain rfl : k = 9 := by omega
      have E := Lib.hid (newT_no (S := T ||| K) fun j h1 h2 => HA.out j h1 (by omega))
      go_wp2_with fail
      go_ret2
      exact ⟨by unfold unusedI; rw [HTE.out, E.out]; rfl, hB⟩
--@
end Go.Proofs.Ytlmjjflalmegfaa
