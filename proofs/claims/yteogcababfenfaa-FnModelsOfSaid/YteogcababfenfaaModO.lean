/- Contracts: the model of an assertion (both); equal states. -/
import Derived.Test.YteogcababfenfaaModS
import Derived.Test.YteogcababfenfaaCons
import Derived.Test.YteogcababfenfaaStSame
set_option linter.unusedSimpArgs false
set_option linter.unusedVariables false
namespace Go.Proofs.Yteogcababfenfaa
open Go Go.RowKit Go.Proofs
attribute [local go_sem ↓] Go.wp_at_zero Go.wp_at_succ

/-- ModelOf's state: empty where there is none -/
def modelR (a : Asn) : Ste := if consB a then modelL a else ⟨[], []⟩
theorem modelR_no {a : Asn} (h : consB a = false) : modelR a = ⟨[], []⟩ := by unfold modelR; rw [h]; rfl
theorem modelR_yes {a : Asn} (h : consB a = true) : modelR a = modS a ((cases a (caseS a 0)).head?.getD zeros) := by unfold modelR; rw [h, if_pos rfl]; rfl
theorem stateO_none (w : World) (b : Nat) : StateO w b (.agg #[.slice none 0 0, .slice none 0 0]) ⟨[], []⟩ := ⟨_, _, rfl, IntsO.nil _ _, IntsO.nil _ _, fun g h => by simp [Value.ownBlock] at h⟩
theorem head_mem {a : Asn} {S : Nat} (h : (cases a S).isEmpty = false) : (cases a S).head?.getD zeros ∈ cases a S := by
  cases hc : cases a S with
  | nil => rw [hc] at h; cases h
  | cons c cs => exact List.mem_cons_self
theorem firstI_head {L : List (List Int)} (h : L.isEmpty = false) : firstI L = L.head?.getD zeros := by
  cases L with
  | nil => cases h
  | cons c cs => rfl
theorem StateO.setR {w : World} {b : Nat} {v : Value} {s : Ste} {t : TypeId} (h : StateO w b v s) {g : Nat} {cs : Array Value} (k : Blk w g t cs) (ht : t ≠ tI) (v0 v1 : Value) : StateO ((w.setCell ⟨g, 0, none⟩ v0).setCell ⟨g, 1, none⟩ v1) b v s := by
  obtain ⟨fv, av, e, h1, h2, h3⟩ := h
  exact ⟨fv, av, e, (h1.setT k ht 0 _).setT (k.set_ 0 _) ht 1 _, (h2.setT k ht 0 _).setT (k.set_ 0 _) ht 1 _, h3⟩

--@ impl.ModelOf
set_option maxRecDepth 100000 in
set_option maxHeartbeats 3200000 in
theorem c_impl_ModelOf {lo hi : Nat} (v : Value) (a : Asn) (w : World) (h : AsnV w lo hi v a) (hhi : hi ≤ w.heap.size) :
    Calls Try.prog 36 #[v] w fun e w' => ∃ r, e = .returned (.tuple #[r, .bool (consB a)]) ∧ StateO w' w.heap.size r (modelR a) ∧ Below w.heap.size w w' := by
  have hV := Lib.hid h
  obtain ⟨A1, c1, A2, c2, rfl, -, -⟩ := h
  go_enter Try.func36, Try.ntmps36
  have k0 : Blk ((w.alloc (.cells #[.slice A1 a.facts.length c1, .slice A2 a.atoms.length c2] tAs)).alloc (.cells #[.slice none 0 0, .slice none 0 0] tSt)) w.heap.size tAs #[.slice A1 a.facts.length c1, .slice A2 a.atoms.length c2] := blks
  have k2 : Blk ((w.alloc (.cells #[.slice A1 a.facts.length c1, .slice A2 a.atoms.length c2] tAs)).alloc (.cells #[.slice none 0 0, .slice none 0 0] tSt)) (w.heap.size + 1) tSt #[.slice none 0 0, .slice none 0 0] := blks
  go_wp2_with fail
  refine (c_impl_AssertionValid _ a _ (hV.out.below bel)).mono ?_
  rintro e w1 ⟨rfl, hB1⟩
  have hB : Below w.heap.size w w1 := bgo (w := w) bel hB1
  replace k0 := k0.next hB1
  replace k2 := k2.next hB1
  have hz := hB1.size
  simp only [World.size_alloc] at hz
  clear hB1
  (replace qk0 := k0.cell; replace rk0 := k0.frozen; replace lk0 := k0.lt; replace qk2 := k2.cell; replace rk2 := k2.frozen; replace lk2 := k2.lt)
  cases hv : a.valid
  · have HC : Hid (consB a = false) := by show _ = _; unfold consB; rw [hv]; rfl
    clear hv
    go_wp2_with fail
    refine bodyPost_ret (v := .tuple #[.agg #[.slice none 0 0, .slice none 0 0], .bool false]) (by simp [results, Try.results36, go_sem, qk2, lk2]) rfl ⟨_, by rw [HC.out], by rw [modelR_no HC.out]; exact stateO_none _ _, ?_⟩
    exact (hB.setCell (p := ⟨w.heap.size + 1, 0, none⟩) (by simp only; omega) _).setCell (p := ⟨w.heap.size + 1, 1, none⟩) (by simp only; omega) _
  have HV := Lib.hid hv
  have HCE : Hid (consB a = !(cases a (caseS a 0)).isEmpty) := by show _ = _; unfold consB; rw [hv]; rfl
  clear hv
  go_wp2_with fail
  refine (c_impl_firstCase _ a _ (hV.out.below hB) (by omega) HV.out).mono ?_
  rintro e w2 ⟨rfl, hB2⟩
  obtain ⟨c, hc⟩ : ∃ c, c = (cases a (caseS a 0)).head?.getD zeros := ⟨_, rfl⟩
  have HCC := Lib.hid hc
  rw [← hc]
  replace hB := bgo hB hB2
  replace k0 := k0.next hB2
  replace k2 := k2.next hB2
  have HB2 := Lib.hid (bbox hB (.cells (case9 c) tTc))
  have hz2 := hB2.size
  have hne2 : w.heap.size ≠ w2.heap.size := by omega
  have hne3 : w.heap.size + 1 ≠ w2.heap.size := by omega
  have hB0 := hB
  clear hc hB2 hB
  (replace qk0 := k0.cell; replace rk0 := k0.frozen; replace lk0 := k0.lt; replace qk2 := k2.cell; replace rk2 := k2.frozen; replace lk2 := k2.lt)
  cases he : (cases a (caseS a 0)).isEmpty
  · have HC : Hid (consB a = true) := by show _ = _; rw [HCE.out, he]; rfl
    have HMEM : Hid (c ∈ cases a (caseS a 0)) := by show _ ∈ _; rw [HCC.out]; exact head_mem he
    have HR : Hid (modelR a = modS a c) := by show _ = _; rw [modelR_yes HC.out, HCC.out]
    clear he HCE HCC
    go_wp2_with fail
    refine (c_impl_caseState _ a (caseS a 0) c (w2.alloc (.cells (case9 c) tTc)) (hV.out.below HB2.out) HV.out (caseS_zero a 0) (caseS_terms HV.out 0) HMEM.out).mono ?_
    rintro e w6 ⟨r6, rfl, o6, hB6⟩
    rw [World.size_alloc] at o6
    obtain ⟨fv, av, rfl, oV, oH, dj⟩ := id o6
    obtain ⟨X1, d1, rfl, -⟩ := oV.reads
    obtain ⟨X2, d2, rfl, -⟩ := oH.reads
    have O6 := Lib.hid o6
    have HB6 := Lib.hid (bgo HB2.out hB6)
    replace k2 := (k2.alloc (.cells (case9 c) tTc)).next hB6
    clear o6 oV oH dj hB6 k0 qk0 rk0 lk0
    (replace qk2 := k2.cell; replace rk2 := k2.frozen; replace lk2 := k2.lt)
    go_wp2_with fail
    refine bodyPost_ret (v := .tuple #[.agg #[.slice X1 (modS a c).values.length d1, .slice X2 (modS a c).heap.length d2], .bool true]) (by simp [results, Try.results36, go_sem, qk2, lk2]) rfl ⟨_, by rw [HC.out], by rw [HR.out]; exact (O6.out.setR k2 (by decide) _ _).lower (by omega), ?_⟩
    exact (HB6.out.setCell (p := ⟨w.heap.size + 1, 0, none⟩) (by simp only; omega) _).setCell (p := ⟨w.heap.size + 1, 1, none⟩) (by simp only; omega) _
  · have HC : Hid (consB a = false) := by show _ = _; rw [HCE.out, he]; rfl
    clear he HCE HCC
    go_wp2_with fail
    refine bodyPost_ret (v := .tuple #[.agg #[.slice none 0 0, .slice none 0 0], .bool false]) (by simp [results, Try.results36, go_sem, qk2, lk2]) rfl ⟨_, by rw [HC.out], by rw [modelR_no HC.out]; exact stateO_none _ _, ?_⟩
    exact (((hB0.setCell (p := ⟨w.heap.size + 1, 0, none⟩) (by simp only; omega) _).setCell (p := ⟨w.heap.size + 1, 1, none⟩) (by simp only; omega) _)).alloc (by simp; omega) _

--@ spec.ModelOf
--@
end Go.Proofs.Yteogcababfenfaa
