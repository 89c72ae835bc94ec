/- Exposing cells: impl.expose by its parts. -/
import Derived.Test.YtlmjjflalmegfaaExpP
import Derived.Test.YtlmjjflalmegfaaAsnSS
import Derived.Test.YtlmjjflalmegfaaSeq
set_option linter.unusedSimpArgs false
set_option linter.unusedVariables false
namespace Go.Proofs.Ytlmjjflalmegfaa
open Go Go.RowKit Go.Proofs
attribute [local go_sem ↓] Go.wp_at_zero Go.wp_at_succ

/-- what exposing a list at its first atom gives -/
def listF (n : Nat) (a : Asn) (x : Atm) (i : Nat) (t : Int) (K : Nat) : Option (List Asn) :=
  match newT (tset (termsL a) ||| tins K t) with
  | none => none
  | some m => match exposeF n (emptyX a x i) t K with
    | none => none
    | some l1 => match exposeF n (fullX a x i (m : Int)) t K with
      | none => none
      | some l2 => some (l1 ++ l2)
theorem expose_bad {n : Nat} {a : Asn} {t : Int} {K : Nat} (h : a.valid = false) : exposeF n a t K = none := by
  cases n with
  | zero => rfl
  | succ n => simp [exposeF, h]
theorem expose_no {n : Nat} {a : Asn} {t : Int} {K : Nat} (h : a.valid = true) (hc : consB a = false) : exposeF (n + 1) a t K = some [] := by simp [exposeF, h, hc]
theorem expose_cell {n : Nat} {a : Asn} {t : Int} {K i : Nat} {x : Atm} (h : a.valid = true) (hc : consB a = true) (hf : findK a 1 t = some i) (hx : a.atoms[i]? = some x) : exposeF (n + 1) a t K = if (cellX a x i t).valid then some [cellX a x i t] else none := by
  simp [exposeF, h, hc, hf, hx]
theorem expose_none {n : Nat} {a : Asn} {t : Int} {K : Nat} (h : a.valid = true) (hc : consB a = true) (hf : findK a 1 t = none) (hg : findK a 2 t = none) : exposeF (n + 1) a t K = none := by simp [exposeF, h, hc, hf, hg]
theorem expose_list {n : Nat} {a : Asn} {t : Int} {K i : Nat} {x : Atm} (h : a.valid = true) (hc : consB a = true) (hf : findK a 1 t = none) (hg : findK a 2 t = some i) (hx : a.atoms[i]? = some x) : exposeF (n + 1) a t K = listF n a x i t K := by
  simp only [exposeF, h, hc, hf, hg, hx, listF, Option.getD_some]; rfl
theorem expose_ok : ∀ {n : Nat} {a : Asn} {t : Int} {K : Nat} {l : List Asn}, exposeF n a t K = some l → l.length ≤ 2 ^ n ∧ ∀ b ∈ l, b.valid = true
  | 0, _, _, _, _, h => by cases h
  | n + 1, a, t, K, l, h => by
    unfold exposeF at h
    split at h
    · cases h
    · split at h
      · obtain rfl := Option.some.inj h; simp
      · split at h
        · split at h
          · rename_i hv
            obtain rfl := Option.some.inj h
            refine ⟨by simp; exact Nat.one_le_two_pow, fun b hb => ?_⟩
            obtain rfl := List.mem_singleton.1 hb
            exact hv
          · cases h
        · split at h
          · cases h
          · split at h
            · cases h
            · split at h
              · cases h
              · split at h
                · cases h
                · rename_i e1 _ _ e2
                  obtain rfl := Option.some.inj h
                  have h1 := expose_ok e1
                  have h2 := expose_ok e2
                  refine ⟨by rw [List.length_append, Nat.pow_succ]; omega, fun b hb => ?_⟩
                  rcases List.mem_append.1 hb with hb | hb
                  · exact h1.2 b hb
                  · exact h2.2 b hb
--@ impl.expose
/-- the contract of impl.expose at one assertion -/
def ExpC (n : Nat) (a : Asn) (t : Int) (K : Nat) : Prop := ∀ (lo hi : Nat) (v : Value) (w : World), AsnC w lo hi v a → hi ≤ w.heap.size → a.valid = true →
  Calls Try.prog 40 #[v, .int .i64 t, .int .u16 K] w fun e w' => ∃ r vs, e = .returned (.tuple #[r, .bool (exposeF n a t K).isSome]) ∧ A2O w' w.heap.size r vs ((exposeF n a t K).getD []) ∧ Below w.heap.size w w'
--@ impl.exposeListAt
/-- .. and of impl.exposeListAt -/
def ExpL (n : Nat) (a : Asn) (x : Atm) (i : Nat) (t : Int) (K : Nat) : Prop := ∀ (lo hi : Nat) (v : Value) (w : World), AsnC w lo hi v a → hi ≤ w.heap.size →
  Calls Try.prog 84 #[v, .int .i64 i, .int .i64 t, .int .u16 K] w fun e w' => ∃ r vs, e = .returned (.tuple #[r, .bool (listF n a x i t K).isSome]) ∧ A2O w' w.heap.size r vs ((listF n a x i t K).getD []) ∧ Below w.heap.size w w'
--@ impl.expose
set_option maxRecDepth 100000 in
set_option maxHeartbeats 3200000 in
theorem c_expose_step (n : Nat) (a : Asn) (t : Int) (K : Nat) (HL : ∀ i x, findK a 1 t = none → findK a 2 t = some i → a.atoms[i]? = some x → x.kind = 2 → impB a ⟨true, x.a, t⟩ = true → ExpL n a x i t K) : ExpC (n + 1) a t K := by
  intro lo hi v w h hhi hv
  have hV := Lib.hid h
  obtain ⟨A1, c1, A2, c2, rfl, -⟩ := h
  have HLL := Lib.hid HL
  have hvl := valid_len hv
  have HV := Lib.hid hv
  clear HL hv
  go_enter Try.func40, Try.ntmps40
  have k0 : Blk (w.alloc (.cells #[.slice A1 a.facts.length c1, .slice A2 a.atoms.length c2] tAs)) w.heap.size tAs #[.slice A1 a.facts.length c1, .slice A2 a.atoms.length c2] := blks
  go_wp2_with fail
  refine (c_impl_Consistent _ a _ (hV.out.V.below bel) (by simp; omega)).mono ?_
  rintro e w1 ⟨rfl, hB1⟩
  rw [show (a.valid && !(cases a (caseS a 0)).isEmpty) = consB a from rfl]
  have hB := bgo (w := w) bel hB1
  replace k0 := k0.next hB1
  clear hB1
  have hz1 := hB.size
  cases hc : consB a
  · have E := Lib.hid (expose_no (n := n) (t := t) (K := K) HV.out hc)
    clear hc
    go_wp2_with fail
    go_ret2
    exact ⟨_, _, by rw [E.out]; rfl, by rw [E.out]; exact A2O.nil _ _, hB⟩
  have HC := Lib.hid hc
  clear hc
  (replace qk0 := k0.cell; replace rk0 := k0.frozen; replace lk0 := k0.lt)
  go_wp2_with fail
  refine (c_impl_firstAtomAt _ a 1 t _ (hV.out.V.below bel) (by omega)).mono ?_
  rintro e w2 ⟨rfl, hB2⟩
  (replace hB := bgo hB hB2; replace k0 := k0.next hB2; replace qk0 := k0.cell; replace rk0 := k0.frozen; replace lk0 := k0.lt)
  clear hB2
  have hz2 := hB.size
  cases hf : findK a 1 t
  case some i =>
    obtain ⟨x, hx, -, -, hil⟩ := find_some hf
    have E := Lib.hid (expose_cell (n := n) (K := K) HV.out HC.out hf hx)
    have EI : findI a 1 t = (i : Int) := by unfold findI; rw [hf]
    rw [EI]
    have hxe : a.atoms[i] = x := by rw [List.getElem?_eq_getElem hil] at hx; exact Option.some.inj hx
    clear hf hx EI
    go_wp2_with fail
    refine (c_impl_exposeCellAt _ a i t _ (hV.out.below bel) hil (by omega)).mono ?_
    rw [hxe]
    rintro e w3 ⟨r, rfl, oC, hB3⟩
    (replace hB := bgo hB hB3; replace k0 := k0.next hB3)
    clear hB3 hxe
    have OC := Lib.hid oC
    obtain ⟨F3, f3, G3, g3, rfl, -⟩ := oC.C
    have hz3 := hB.size
    clear qk0 rk0 lk0
    cases hcv : (cellX a x i t).valid
    · have E2 : Hid (exposeF (n + 1) a t K = none) := Lib.hid (by rw [E.out, hcv]; rfl)
      clear hcv
      go_wp2_with fail
      go_ret2
      exact ⟨_, _, by rw [E2.out]; rfl, by rw [E2.out]; exact A2O.nil _ _, bel⟩
    · have E2 : Hid (exposeF (n + 1) a t K = some [cellX a x i t]) := Lib.hid (by rw [E.out, hcv]; rfl)
      clear hcv
      go_wp2_with fail
      go_ret2
      refine ⟨.slice (some ⟨w3.heap.size + 1, 0, none⟩) 1 1, [.slice F3 (cellX a x i t).facts.length f3, .slice G3 (cellX a x i t).atoms.length g3], by rw [E2.out]; rfl, ?_, bel⟩
      rw [E2.out]
      refine A2O.one (Blk.newE ?_) ?_ (AsnO.below (AsnO.lower OC.out (by omega)) bel)
      · simp
      · omega
  have HF1 := Lib.hid hf
  have EI : findI a 1 t = 0 := by unfold findI; rw [hf]
  rw [EI]
  clear hf EI
  go_wp2_with fail
  refine (c_impl_firstAtomAt _ a 2 t _ (hV.out.V.below bel) (by omega)).mono ?_
  rintro e w3 ⟨rfl, hB3⟩
  (replace hB := bgo hB hB3; replace k0 := k0.next hB3; replace qk0 := k0.cell; replace rk0 := k0.frozen; replace lk0 := k0.lt)
  clear hB3
  have hz3 := hB.size
  cases hg : findK a 2 t
  case none =>
    have E := Lib.hid (expose_none (n := n) (K := K) HV.out HC.out HF1.out hg)
    clear hg
    go_wp2_with fail
    go_ret2
    exact ⟨_, _, by rw [E.out]; rfl, by rw [E.out]; exact A2O.nil _ _, hB⟩
  case some i =>
    obtain ⟨x, hx, hk2, himp, hil⟩ := find_some hg
    have E := Lib.hid (expose_list (n := n) (K := K) HV.out HC.out HF1.out hg hx)
    have EI : findI a 2 t = (i : Int) := by unfold findI; rw [hg]
    rw [EI]
    have HX := Lib.hid (HLL.out i x HF1.out hg hx hk2 himp)
    clear hg hx EI hk2 himp
    go_wp2_with fail
    refine (HX.out lo hi _ _ (hV.out.below bel) (by omega)).mono ?_
    rintro e w4 ⟨r, vs, rfl, oR, hB4⟩
    have OR := Lib.hid oR
    obtain ⟨R1, r1, rfl⟩ := oR.form
    clear oR
    (replace hB := bgo hB hB4)
    go_wp2_with fail
    go_ret2
    refine ⟨_, vs, by rw [E.out]; rfl, ?_, bel⟩
    rw [E.out]
    exact OR.out.lower (by omega)
--@
end Go.Proofs.Ytlmjjflalmegfaa
