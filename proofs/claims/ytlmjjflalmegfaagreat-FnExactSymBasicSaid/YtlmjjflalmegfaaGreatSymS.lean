/- Symbolic execution: spec.l10Forget. -/
import Derived.Test.YtlmjjflalmegfaaGreatSymJ
import Derived.Test.YtlmjjflalmegfaaGreatMOpnU
import Derived.Test.YtlmjjflalmegfaaGreatSubst
set_option linter.unusedSimpArgs false
set_option linter.unusedVariables false
namespace Go.Proofs.YtlmjjflalmegfaaGreat
open Go Go.RowKit Go.Proofs
attribute [local go_sem ↓] Go.wp_at_zero Go.wp_at_succ

theorem AsnV.mono1 {w : World} {lo hi : Nat} {v : Value} {a : Asn} (h : AsnV w lo hi v a) (hh : hi ≤ w.heap.size) : AsnV w 0 w.heap.size v a := h.mono0 hh
theorem AsnV.setT2 {w : World} {lo hi : Nat} {v : Value} {a : Asn} (h : AsnV w lo hi v a) {p : Addr} (hp : hi ≤ p.block) {q : Addr} (hq : hi ≤ q.block) (hh : hi ≤ w.heap.size) (u u' : Value) : AsnV ((w.setCell p u).setCell q u') lo hi v a := by
  obtain ⟨A1, c1, A2, c2, e, h1, h2⟩ := h
  exact ⟨A1, c1, A2, c2, e, h1.keepB (((Below.refl hi w).setCell hp u).setCell hq u') (Nat.le_refl _), h2.keepB (((Below.refl hi w).setCell hp u).setCell hq u') (Nat.le_refl _)⟩
--@ spec.l10Forget
set_option maxRecDepth 100000 in
set_option maxHeartbeats 3200000 in
theorem c_l10Forget {lo hi lo' hi' : Nat} (v : Value) (a : Asn) (x : Int) (Bf : Option Addr) (cf K : Nat) (w : World) (h : AsnV w lo hi v a) (hhi : hi ≤ w.heap.size) (h' : BoolsV w lo' hi' Bf (flagsOf K)) (hv : a.valid = true) (hx : isTermB x = true) :
    Calls Tryz.prog 80 #[v, .int .i64 x, .slice Bf 9 cf] w fun e w' => ∃ F f G g b p, e = .returned (.tuple #[.agg #[.slice F b.facts.length f, .slice G b.atoms.length g], .int .i64 p, .bool (forgetF a x K).isSome]) ∧ AsnV w' 0 w'.heap.size (.agg #[.slice F b.facts.length f, .slice G b.atoms.length g]) b ∧ b.facts.length = a.facts.length ∧ b.atoms.length = a.atoms.length ∧ (∀ q, forgetF a x K = some q → q = (b, p)) ∧ Below w.heap.size w w' := by
  have hV := Lib.hid h
  have HV := Lib.hid hv
  have HT := Lib.hid (termsL_ok hv)
  have HF := Lib.hid h'
  have hx8 := isTermB_iff.1 hx
  obtain ⟨m, rfl⟩ := Int.eq_ofNat_of_zero_le hx8.1
  obtain ⟨A1, c1, A2, c2, rfl, -, -⟩ := h
  have E0 : (m : Int).toNat = m := Int.toNat_natCast m
  have HE1 : Hid ((tset (termsL a)).testBit m = false → forgetF a (m : Int) K = some (a, (m : Int))) := Lib.hid fun hb => forget_has (by rw [E0]; exact hb)
  have HE2 : Hid ((tset (termsL a)).testBit m = true → newT (tset (termsL a) ||| K) = none → forgetF a (m : Int) K = none) := Lib.hid fun hb hn => forget_none (by rw [E0]; exact hb) hn
  have HE3 : Hid ((tset (termsL a)).testBit m = true → ∀ n, newT (tset (termsL a) ||| K) = some n → forgetF a (m : Int) K = some (substA (m : Int) (n : Int) a, (n : Int))) := Lib.hid fun hb n hn => forget_some (by rw [E0]; exact hb) hn
  clear hv h' E0
  go_enter Tryz.func80, Tryz.ntmps80
  have k3 : Blk ((w.alloc (.cells #[.slice A1 a.facts.length c1, .slice A2 a.atoms.length c2] tAs)).alloc (.cells #[.slice none 0 0, .slice none 0 0] tAs)) w.heap.size tAs #[.slice A1 a.facts.length c1, .slice A2 a.atoms.length c2] := blks
  have k6 : Blk ((w.alloc (.cells #[.slice A1 a.facts.length c1, .slice A2 a.atoms.length c2] tAs)).alloc (.cells #[.slice none 0 0, .slice none 0 0] tAs)) (w.heap.size + 1) tAs #[.slice none 0 0, .slice none 0 0] := blks
  go_wp2_with fail
  refine (c_spec_l3Terms _ a _ (hV.out.below bel) HT.out).mono ?_
  rintro e w1 ⟨r, rfl, oT, hB1⟩
  have hB := bgo (w := w) bel hB1
  replace k3 := k3.next hB1
  replace k6 := k6.next hB1
  have hz := hB1.size
  simp only [World.size_alloc] at hz
  obtain ⟨Tb, ct, rfl, fT⟩ := oT.reads
  rw [flagsOf_length]
  obtain ⟨pt, ot, rfl, lpt⟩ := flags_addr fT
  have f1 := flags_at fT (m := m) (by omega)
  have k9 : (m : Int) < 9 := by omega
  clear hB1 oT hx
  cases hb : (tset (termsL a)).testBit m
  · have E := Lib.hid (HE1.out hb)
    rw [hb] at f1
    clear hb HE1 HE2 HE3
    (replace qk3 := k3.cell; replace rk3 := k3.frozen; replace lk3 := k3.lt; replace qk6 := k6.cell; replace rk6 := k6.frozen; replace lk6 := k6.lt)
    go_wp2_with fail
    have z6 := ((k6.set_ 0 (.slice A1 a.facts.length c1)).set_ 1 (.slice A2 a.atoms.length c2)).cell
    refine bodyPost_ret (v := .tuple #[.agg #[.slice A1 a.facts.length c1, .slice A2 a.atoms.length c2], .int .i64 m, .bool true]) (by simp [results, Tryz.results80, go_sem, z6]) rfl ⟨A1, c1, A2, c2, a, m, by rw [E.out]; rfl, ?_, rfl, rfl, ?_, ?_⟩
    · exact AsnV.mono1 (AsnV.setT2 (hV.out.below hB) (by simp only; omega) (by simp only; omega) (by omega) _ _) (by simp; omega)
    · intro q hq; rw [E.out] at hq; exact (Option.some.inj hq).symm
    · exact bel
  · have HBT := Lib.hid hb
    rw [hb] at f1
    clear hb HE1
    (replace qk3 := k3.cell; replace rk3 := k3.frozen; replace lk3 := k3.lt; replace qk6 := k6.cell; replace rk6 := k6.frozen; replace lk6 := k6.lt)
    go_wp2_with fail
    refine (c_l10New _ a Bf cf K _ (hV.out.below hB) (HF.out.below hB) HV.out).mono ?_
    rintro e w3 ⟨rfl, hB3⟩
    clear f1
    (replace hB := bgo hB hB3; replace k3 := k3.next hB3; replace qk3 := k3.cell; replace rk3 := k3.frozen; replace lk3 := k3.lt; replace k6 := k6.next hB3; replace qk6 := k6.cell; replace rk6 := k6.frozen; replace lk6 := k6.lt)
    have hz3 := hB3.size
    clear hB3
    obtain ⟨U, hU⟩ : ∃ U, U = unusedI (tset (termsL a) ||| K) := ⟨_, rfl⟩
    rw [← hU]
    have HS : Hid ((newT (tset (termsL a) ||| K)).isSome = (forgetF a (m : Int) K).isSome ∧ ∀ q, forgetF a (m : Int) K = some q → q = (substA (m : Int) U a, U)) := Lib.hid (by
      cases hn : newT (tset (termsL a) ||| K) with
      | none => rw [HE2.out HBT.out hn]; exact ⟨rfl, fun q hq => by cases hq⟩
      | some n =>
        have e : U = (n : Int) := by rw [hU]; unfold unusedI; rw [hn]
        rw [HE3.out HBT.out n hn, e]
        exact ⟨rfl, fun q hq => (Option.some.inj hq).symm⟩)
    rw [HS.out.1]
    generalize hs : (forgetF a (m : Int) K).isSome = sm
    replace hs := Lib.hid hs
    clear hU HE2 HE3 HBT
    go_wp2_with fail
    refine (c_spec_l3Subst _ a (m : Int) U _ (hV.out.below hB)).mono ?_
    rintro e w4 ⟨r, rfl, oC, hB4⟩
    obtain ⟨F, f, G, g, rfl⟩ := oC.I.form
    have OC := Lib.hid oC
    (replace hB := bgo hB hB4; replace k6 := k6.next hB4; replace qk6 := k6.cell; replace rk6 := k6.frozen; replace lk6 := k6.lt)
    have hz4 := hB4.size
    clear oC hB4 k3 qk3 rk3 lk3
    go_wp2_with fail
    have z6 := ((k6.set_ 0 (.slice F (substA (m : Int) U a).facts.length f)).set_ 1 (.slice G (substA (m : Int) U a).atoms.length g)).cell
    refine bodyPost_ret (v := .tuple #[.agg #[.slice F (substA (m : Int) U a).facts.length f, .slice G (substA (m : Int) U a).atoms.length g], .int .i64 U, .bool sm]) (by simp [results, Tryz.results80, go_sem, z6]) rfl ⟨F, f, G, g, substA (m : Int) U a, U, by rw [hs.out], ?_, by simp [substA], by simp [substA], HS.out.2, ?_⟩
    · exact (AsnO.setT2 OC.out k6 _ _).reads.mono1 (Nat.le_refl _)
    · exact bel
--@
end Go.Proofs.YtlmjjflalmegfaaGreat
