/- Symbolic execution: impl.forget. -/
import Derived.Test.YtlmjjflalmegfaaGreatSymP
import Derived.Test.YtlmjjflalmegfaaGreatRepl
set_option linter.unusedSimpArgs false
set_option linter.unusedVariables false
namespace Go.Proofs.YtlmjjflalmegfaaGreat
open Go Go.RowKit Go.Proofs
attribute [local go_sem ↓] Go.wp_at_zero Go.wp_at_succ

abbrev tFg : Nat := 128
theorem forget_has {a : Asn} {x : Int} {K : Nat} (h : (tset (termsL a)).testBit x.toNat = false) : forgetF a x K = some (a, x) := by unfold forgetF; rw [h]; rfl
theorem forget_none {a : Asn} {x : Int} {K : Nat} (h : (tset (termsL a)).testBit x.toNat = true) (hn : newT (tset (termsL a) ||| K) = none) : forgetF a x K = none := by unfold forgetF; rw [h, hn]; rfl
theorem forget_some {a : Asn} {x : Int} {K n : Nat} (h : (tset (termsL a)).testBit x.toNat = true) (hn : newT (tset (termsL a) ||| K) = some n) : forgetF a x K = some (substA x (n : Int) a, (n : Int)) := by unfold forgetF; rw [h, hn]; rfl
theorem AsnO.setT4 {w : World} {base : Nat} {v : Value} {a : Asn} (h : AsnO w base v a) {g : Nat} {cs : Array Value} (hk : Blk w g tFg cs) (u0 u1 u2 u3 : Value) : AsnO ((((w.setCell ⟨g, 0, none⟩ u0).setCell ⟨g, 1, none⟩ u1).setCell ⟨g, 2, none⟩ u2).setCell ⟨g, 3, none⟩ u3) base v a := by
  obtain ⟨fv, av, e, p1, p2⟩ := h
  have k1 := hk.set_ 0 u0
  have k2 := k1.set_ 1 u1
  have k3 := k2.set_ 2 u2
  exact ⟨fv, av, e, (((p1.setT hk (by decide) _ _).setT k1 (by decide) _ _).setT k2 (by decide) _ _).setT k3 (by decide) _ _, (((p2.setT hk (by decide) _ _).setT k1 (by decide) _ _).setT k2 (by decide) _ _).setT k3 (by decide) _ _⟩
/-- what impl.forget returns -/
def FgR (w : World) (base : Nat) (x : Int) (o : Option (Asn × Int)) (e : Ending) : Prop := match o with
  | none => e = .returned (.tuple #[.agg #[.slice none 0 0, .slice none 0 0, .int .i64 0, .int .i64 0], .bool false])
  | some (b, p) => ∃ F f G g, e = .returned (.tuple #[.agg #[.slice F b.facts.length f, .slice G b.atoms.length g, .int .i64 x, .int .i64 p], .bool true]) ∧ AsnO w base (.agg #[.slice F b.facts.length f, .slice G b.atoms.length g]) b
--@ impl.forget
set_option maxRecDepth 100000 in
set_option maxHeartbeats 1600000 in
theorem c_impl_forget {lo hi : Nat} (v : Value) (a : Asn) (x : Int) (K : Nat) (w : World) (h : AsnV w lo hi v a) (hK : K < 512) (hx : isTermB x = true) :
    Calls Tryz.prog 86 #[v, .int .i64 x, .int .u16 K] w fun e w' => FgR w' w.heap.size x (forgetF a x K) e ∧ Below w.heap.size w w' := by
  have hV := Lib.hid h
  obtain ⟨A1, c1, A2, c2, rfl, -, -⟩ := h
  have HT := Lib.hid (tset_lt (termsL a))
  go_enter Tryz.func86, Tryz.ntmps86
  have k0 : Blk ((w.alloc (.cells #[.slice A1 a.facts.length c1, .slice A2 a.atoms.length c2] tAs)).alloc (.cells #[.slice none 0 0, .slice none 0 0, .int .i64 0, .int .i64 0] tFg)) w.heap.size tAs #[.slice A1 a.facts.length c1, .slice A2 a.atoms.length c2] := blks
  have k6 : Blk ((w.alloc (.cells #[.slice A1 a.facts.length c1, .slice A2 a.atoms.length c2] tAs)).alloc (.cells #[.slice none 0 0, .slice none 0 0, .int .i64 0, .int .i64 0] tFg)) (w.heap.size + 1) tFg #[.slice none 0 0, .slice none 0 0, .int .i64 0, .int .i64 0] := blks
  go_wp2_with fail
  refine (c_impl_termsIn _ a _ (hV.out.below bel)).mono ?_
  rintro e w1 ⟨rfl, hB1⟩
  have hB := bgo (w := w) bel hB1
  replace k0 := k0.next hB1
  replace k6 := k6.next hB1
  clear hB1
  go_wp2_with fail
  refine (c_impl_tHas _ x _ HT.out).mono ?_
  rintro e w2 ⟨rfl, rfl⟩
  rw [hx, Bool.true_and]
  have hz := hB.size
  cases hb : (tset (termsL a)).testBit x.toNat
  · have E := Lib.hid (forget_has (K := K) hb)
    clear hb
    (replace qk0 := k0.cell; replace rk0 := k0.frozen; replace lk0 := k0.lt)
    go_wp2_with fail
    refine (c_impl_copyAssertion _ a _ (hV.out.below bel)).mono ?_
    rintro e w3 ⟨r, rfl, oC, hB3⟩
    obtain ⟨F, f, G, g, rfl⟩ := oC.I.form
    have OC := Lib.hid oC
    (replace hB := bgo hB hB3; replace k6 := k6.next hB3)
    clear oC hB3 k0 qk0 rk0 lk0
    (replace qk6 := k6.cell; replace rk6 := k6.frozen; replace lk6 := k6.lt)
    go_wp2_with fail
    have z6 := k6.cell
    refine bodyPost_ret (v := .tuple #[.agg #[.slice F a.facts.length f, .slice G a.atoms.length g, .int .i64 x, .int .i64 x], .bool true]) (by simp [results, Tryz.results86, go_sem, z6]) rfl ⟨?_, ?_⟩
    · rw [E.out]
      refine ⟨F, f, G, g, rfl, ?_⟩
      exact (AsnO.setT4 OC.out k6 _ _ _ _).lower (by omega)
    · exact bel
  · have HBT := Lib.hid hb
    clear hb
    (replace qk0 := k0.cell; replace rk0 := k0.frozen; replace lk0 := k0.lt)
    go_wp2_with fail
    refine (c_impl_newVariable _ a K _ (hV.out.below bel) hK).mono ?_
    rintro e w3 ⟨rfl, hB3⟩
    (replace hB := bgo hB hB3; replace k0 := k0.next hB3; replace qk0 := k0.cell; replace rk0 := k0.frozen; replace lk0 := k0.lt; replace k6 := k6.next hB3)
    clear hB3
    have hz3 := hB.size
    cases hn : newT (tset (termsL a) ||| K) with
    | none =>
      have E := Lib.hid (forget_none HBT.out hn)
      clear hn
      (replace qk6 := k6.cell; replace rk6 := k6.frozen; replace lk6 := k6.lt)
      go_wp2_with fail
      refine bodyPost_ret (v := .tuple #[.agg #[.slice none 0 0, .slice none 0 0, .int .i64 0, .int .i64 0], .bool false]) (by simp [results, Tryz.results86, go_sem, qk6]) rfl ⟨?_, ?_⟩
      · rw [E.out]; rfl
      · exact bel
    | some n =>
      have E := Lib.hid (forget_some HBT.out hn)
      have EN : unusedI (tset (termsL a) ||| K) = (n : Int) := by unfold unusedI; rw [hn]
      rw [EN]
      clear hn EN
      go_wp2_with fail
      refine (c_impl_replaceIn _ a x (n : Int) _ (hV.out.below bel)).mono ?_
      rintro e w4 ⟨r, rfl, oC, hB4⟩
      obtain ⟨F, f, G, g, rfl⟩ := oC.I.form
      have OC := Lib.hid oC
      (replace hB := bgo hB hB4; replace k6 := k6.next hB4)
      clear oC hB4 k0 qk0 rk0 lk0
      (replace qk6 := k6.cell; replace rk6 := k6.frozen; replace lk6 := k6.lt)
      go_wp2_with fail
      refine bodyPost_ret (v := .tuple #[.agg #[.slice F (substA x (n : Int) a).facts.length f, .slice G (substA x (n : Int) a).atoms.length g, .int .i64 x, .int .i64 n], .bool true]) (by simp [results, Tryz.results86, go_sem, qk6]) rfl ⟨?_, ?_⟩
      · rw [E.out]
        refine ⟨F, f, G, g, rfl, ?_⟩
        exact (AsnO.setT4 OC.out k6 _ _ _ _).lower (by omega)
      · exact bel
--@
end Go.Proofs.YtlmjjflalmegfaaGreat
