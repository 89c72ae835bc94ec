/- Exposing cells: spec.ExposeCell. -/
import Derived.Test.YtlmjjflalmegfaaOpnO
set_option linter.unusedSimpArgs false
set_option linter.unusedVariables false
namespace Go.Proofs.Ytlmjjflalmegfaa
open Go Go.RowKit Go.Proofs
attribute [local go_sem ↓] Go.wp_at_zero Go.wp_at_succ

theorem BoolsO.readsI9 {w : World} {base : Nat} {A : Option Addr} {n c : Nat} {fs : List Bool} (h : BoolsO w base (.slice A n c) fs) : BoolsV w base w.heap.size A fs := by
  obtain ⟨A', c', e, h1⟩ := h.reads
  injection e with e1 e2 e3
  subst e1
  exact h1
theorem AsnI.readsC {w : World} {lo hi : Nat} {v : Value} {x : Asn} (h : AsnI w lo hi v x) : AsnC w lo w.heap.size v x := by
  obtain ⟨fv, av, e, h1, h2⟩ := h; exact AsnO.C ⟨fv, av, e, h1.1, h2.1⟩
--@ spec.ExposeCell
set_option maxRecDepth 100000 in
set_option maxHeartbeats 3200000 in
theorem c_spec_ExposeCell {lo hi lo' hi' : Nat} (v : Value) (a : Asn) (t : Int) (A : Option Addr) (c : Nat) (ks : List Int) (w : World) (h : AsnC w lo hi v a) (hk : IntsV w lo' hi' A ks) :
    Calls Try.prog 7 #[v, .int .i64 t, .slice A ks.length c] w fun e w' => ∃ r, e = .returned (.tuple #[r, .bool (exposeR a t ks).isSome]) ∧ AsnsR w' w.heap.size r ((exposeR a t ks).getD []) ∧ Below w.heap.size w w' := by
  have hV := Lib.hid h
  obtain ⟨A1, c1, A2, c2, rfl, -⟩ := h
  have HK := Lib.hid hk
  have HOK := Lib.hid (exposeR_ok (a := a) (t := t) (ks := ks))
  have HD : Hid (exposeR a t ks = if a.valid && isTermB t then exposeF 7 a t (tset ks) else none) := rfl
  have HE0 : Hid (totA [] ≤ 16777216) := Lib.hid (by simp [totA, totR, rowsA])
  clear hk
  go_enter Try.func7, Try.ntmps7
  have k0 : Blk (w.alloc (.cells #[.slice A1 a.facts.length c1, .slice A2 a.atoms.length c2] tAs)) w.heap.size tAs #[.slice A1 a.facts.length c1, .slice A2 a.atoms.length c2] := blks
  go_wp2_with fail
  refine (c_spec_AssertionValid _ a _ (hV.out.V.below bel)).mono ?_
  rintro e w1 ⟨rfl, hB1⟩
  have HB := Lib.hid (bgo (w := w) bel hB1)
  replace k0 := k0.next hB1
  have hz1 := HB.out.size
  clear hB1
  cases hv : a.valid
  · have E : Hid (exposeR a t ks = none) := Lib.hid (by rw [HD.out, hv]; rfl)
    clear hv
    go_wp2_with fail
    go_ret2
    exact ⟨_, by rw [E.out]; rfl, by rw [E.out]; exact ⟨⟨[], (A2O.empty w1 rfl).lower hz1⟩, HE0.out⟩, bbox HB.out _⟩
  have HV := Lib.hid hv
  clear hv
  go_wp2_with fail
  refine (c_spec_l1Is t _).mono ?_
  rintro e w1 ⟨rfl, rfl⟩
  cases ht : isTermB t
  · have E : Hid (exposeR a t ks = none) := Lib.hid (by rw [HD.out, ht, Bool.and_false]; rfl)
    clear ht
    go_wp2_with fail
    go_ret2
    exact ⟨_, by rw [E.out]; rfl, by rw [E.out]; exact ⟨⟨[], (A2O.empty w1 rfl).lower hz1⟩, HE0.out⟩, bbox HB.out _⟩
  have E : Hid (exposeR a t ks = exposeF 7 a t (tset ks)) := Lib.hid (by rw [HD.out, HV.out, ht]; rfl)
  have HTI : Hid (tins (tset ks) t = tset ks ||| 1 <<< t.toNat) := Lib.hid (by rw [tins, if_pos ht])
  have htt := isTermB_iff.1 ht
  obtain ⟨m, rfl⟩ := Int.eq_ofNat_of_zero_le htt.1
  clear ht HD
  rw [E.out] at HOK
  have hvl := valid_len HV.out
  have hm8 : m ≤ 8 := by omega
  have hmi : (m : Int) < 9 := by omega
  clear htt
  go_wp2_with fail
  refine (c_spec_l10Busy A c ks _ (HK.out.below HB.out)).mono ?_
  rintro e w2 ⟨r, rfl, oT, hB2⟩
  obtain ⟨Tb, ct, rfl, -⟩ := oT.reads
  rw [flagsOf_length] at oT ⊢
  obtain ⟨g, cur, -, rfl, hg, kg, hc, hset⟩ := oT.openI (k := m) (by rw [flagsOf_length]; omega)
  have HST := Lib.hid (hset true)
  have HB2 := Lib.hid (bgo HB.out hB2)
  replace k0 := k0.next hB2
  have hz2 := hB2.size
  clear hB2 HB hset oT
  (replace qkg := kg.cell; replace rkg := kg.frozen; replace lkg := kg.lt)
  go_upto_region 5 with fail
  have HFL : Hid (BoolsO (w2.setCell ⟨g, m, none⟩ (.bool true)) w1.heap.size (.slice (some ⟨g, 0, none⟩) 9 ct) (flagsOf (tins (tset ks) (m : Int)))) := Lib.hid (by
    have := HST.out
    rw [flagsOf_set] at this
    rw [HTI.out]
    simpa using this)
  have k02 := k0.far (p := ⟨g, m, none⟩) (k0.ne_ kg (by decide)) (.bool true)
  have HB3 := Lib.hid (HB2.out.setCell (p := ⟨g, m, none⟩) (by simp only; omega) (.bool true))
  have hz3 : w.heap.size ≤ (w2.setCell ⟨g, m, none⟩ (.bool true)).heap.size := HB3.out.size
  clear qkg rkg lkg kg HST HB2 k0 hc
  generalize (w2.setCell ⟨g, m, none⟩ (.bool true)) = W at HFL k02 HB3 hz3 ⊢
  (replace qk02 := k02.cell; replace rk02 := k02.frozen; replace lk02 := k02.lt)
  go_wp2_with fail
  refine (c_l10Open 7 (Nat.le_refl _) a (m : Int) (tset ks) lo hi _ _ _ _ ct _ (hV.out.below HB3.out) (BoolsO.readsI9 HFL.out) (by omega) (by omega)).mono ?_
  rintro e w4 ⟨r, vs, l, rfl, oR, -, hRR, hB4⟩
  obtain ⟨R1, r1, rfl⟩ := oR.form
  have OR := Lib.hid oR
  have HB4 := Lib.hid (bgo HB3.out hB4)
  have hz4 := HB4.out.size
  clear oR hB4 qk02 rk02 lk02
  rcases hRR with he | he
  · rw [he]
    have E2 := Lib.hid (E.out.trans he)
    clear he
    go_wp2_with fail
    go_ret2
    exact ⟨_, by rw [E2.out]; rfl, by rw [E2.out]; exact ⟨⟨[], (A2O.empty w4 rfl).lower hz4⟩, HE0.out⟩, bbox HB4.out _⟩
  · rw [he]
    have E2 := Lib.hid (E.out.trans he)
    rw [he] at HOK
    clear he
    go_wp2_with fail
    go_ret2
    exact ⟨_, by rw [E2.out]; rfl, by rw [E2.out]; exact ⟨⟨vs, OR.out.lower (by omega)⟩, HOK.out.2⟩, HB4.out⟩
--@
end Go.Proofs.Ytlmjjflalmegfaa
