/- 'laws.FnHoldsMore' returns true for all bytes that can be read. -/
import Derived.Test.YtdhllcejahdjfaaDrawY
import Derived.Test.YtdhllcejahdjfaaCellsD
import Derived.Test.YtdhllcejahdjfaaHolds
import Derived.Test.YtdhllcejahdjfaaSlInts
import Derived.Deep.RegionHeld3
set_option linter.unusedSimpArgs false
set_option linter.unusedVariables false
namespace Go.Proofs.Ytdhllcejahdjfaa
open Go Go.RowKit Go.Proofs
attribute [local go_sem ↓] Go.wp_at_zero Go.wp_at_succ

--@ laws.FnHoldsMore
theorem StateO.tight {w : World} {b : Nat} {v : Value} {s : Ste} (h : StateO w b v s) : StateV w 0 w.heap.size v s := by
  obtain ⟨fv, av, rfl, h1, h2, -⟩ := h
  obtain ⟨A, c, rfl, r1⟩ := h1.reads
  obtain ⟨B, d, rfl, r2⟩ := h2.reads
  exact ⟨A, c, B, d, rfl, r1.mono (Nat.zero_le _) (Nat.le_refl _), r2.mono (Nat.zero_le _) (Nat.le_refl _)⟩
theorem AsnO.tightH {w : World} {b : Nat} {v : Value} {a : Asn} (h : AsnO w b v a) : AsnV w 0 w.heap.size v a := (AsnO.reads h).mono (Nat.zero_le _) (Nat.le_refl _)
theorem c_slIntsT {lo hi lo' hi' : Nat} (A A' : Option Addr) (c c' : Nat) (fs : List Int) (w : World) (h : IntsV w lo hi A fs) (h' : IntsV w lo' hi' A' fs) : Calls Try.prog 24 #[.slice A fs.length c, .slice A' fs.length c'] w fun e w' => e = .returned (.bool true) ∧ Below w.heap.size w w' := by
  have := c_slInts A A' c c' fs fs w h h'
  rwa [decide_eq_true (Eq.refl fs)] at this
theorem hp_some {s : Ste} {a : Asn} {out : List Int} (h : partOf s a = some out) : (holdsPart s a).isSome = true ∧ (holdsPart s a).getD [] = cellsL (bitsOf out) 8 := by
  unfold holdsPart; rw [h]; exact ⟨rfl, rfl⟩
theorem hp_none {s : Ste} {a : Asn} (h : partOf s a = none) : (holdsPart s a).isSome = false ∧ (holdsPart s a).getD [] = [] := by
  unfold holdsPart; rw [h]; exact ⟨rfl, rfl⟩
theorem set_valid {s : Ste} (h : s.valid = true) {k : Nat} {v : Int} (hv : 0 ≤ v ∧ v ≤ 8) : (⟨s.values, s.heap.set k v⟩ : Ste).valid = true := by
  simp only [Ste.valid, Bool.and_eq_true, decide_eq_true_eq, List.length_set] at h ⊢
  refine ⟨h.1, h.2.1, ?_⟩
  rw [List.all_eq_true]
  intro x hx
  rcases List.mem_or_eq_of_mem_set hx with hx | rfl
  · exact List.all_eq_true.1 h.2.2 x hx
  · simp [cellB, valB]; omega
theorem set_alloc {s : Ste} (h : s.valid = true) {k : Nat} (hk : k < 8) {v : Int} (hv : 0 ≤ v) : allocB (s.heap.set k v) ((k : Int) + 1) = true := by
  have hl := (Ste.valid_len h).2
  unfold allocB cont
  rw [if_pos (by simp only [addrB, decide_eq_true_eq]; omega), show ((k : Int) + 1 - 1).toNat = k from by omega, List.getElem?_set_self (by omega)]
  simpa using hv
set_option maxRecDepth 100000 in
set_option maxHeartbeats 6400000 in
theorem c_FnHoldsMore (v : Value) (A : Option Addr × Nat × Nat) (v2 : Value) (A2 : Option Addr × Nat × Nat) (w : World) (h : v = .slice A.1 A.2.1 A.2.2 ∧ BytesR w A.1 A.2.1 A.2.2) (h2 : v2 = .slice A2.1 A2.2.1 A2.2.2 ∧ BytesR w A2.1 A2.2.1 A2.2.2) : Calls Try.prog 4 #[v, v2] w fun e w' => e = .returned (.bool true) ∧ Below w.heap.size w w' := by
  obtain ⟨A, n, c⟩ := A
  obtain ⟨rfl, hR⟩ := h
  simp only at hR ⊢
  have HR := Lib.hid hR
  clear hR
  obtain ⟨A2, n2, c2⟩ := A2
  obtain ⟨rfl, hR2⟩ := h2
  simp only at hR2 ⊢
  have HR2 := Lib.hid hR2
  clear hR2
  by_cases hn : 1048576 < n
  · have hni : (1048576 : Int) < (n : Int) := by omega
    clear hn
    go_enter Try.func4, Try.ntmps4
    go_wp2_with fail
    go_ret
    exact ⟨rfl, (by repeat (first | (with_reducible exact Below.refl _ _) | (with_reducible assumption) | (with_reducible apply bbox) | ((with_reducible apply Below.setCell); (case hp => (first | exact Nat.le_refl _ | (simp; done) | (simp; omega) | (simp only; omega) | omega))) | (with_reducible apply Below.drew) | (with_reducible apply below_drewN)))⟩
  have hni : ¬ (1048576 : Int) < (n : Int) := by omega
  clear hn
  by_cases hn2 : 1048576 < n2
  · have hni2 : (1048576 : Int) < (n2 : Int) := by omega
    clear hn2
    go_enter Try.func4, Try.ntmps4
    go_wp2_with fail
    go_ret
    exact ⟨rfl, (by repeat (first | (with_reducible exact Below.refl _ _) | (with_reducible assumption) | (with_reducible apply bbox) | ((with_reducible apply Below.setCell); (case hp => (first | exact Nat.le_refl _ | (simp; done) | (simp; omega) | (simp only; omega) | omega))) | (with_reducible apply Below.drew) | (with_reducible apply below_drewN)))⟩
  have hni2 : ¬ (1048576 : Int) < (n2 : Int) := by omega
  go_enter Try.func4, Try.ntmps4
  go_wp2_with fail
  refine (c_DrawHoldsPart A n c _ HR.out).mono ?_
  rintro e w1 ⟨r1, r2, s, a, rfl, os, oa, hB1⟩
  have HB1 := Lib.hid hB1
  have hsv := os.tight
  have hav := oa.tightH
  obtain ⟨SA, sc, SB, sd, rfl, -, -⟩ := id hsv
  obtain ⟨F, e1, G, e2, rfl, -, -⟩ := id hav
  have HSV := Lib.hid hsv
  have HAV := Lib.hid hav
  clear hB1 os oa hsv hav hni
  obtain ⟨ks, ka⟩ := blk2 w1 tSt 26 #[.slice SA s.values.length sc, .slice SB s.heap.length sd] #[.slice F a.facts.length e1, .slice G a.atoms.length e2]
  have hBx : Below w1.heap.size w1 ((w1.alloc (.cells #[.slice SA s.values.length sc, .slice SB s.heap.length sd] tSt)).alloc (.cells #[.slice F a.facts.length e1, .slice G a.atoms.length e2] 26)) := bbox (bbox (Below.refl _ _) _) _
  have HSV2 := Lib.hid (HSV.out.below hBx)
  have HAV2 := Lib.hid (HAV.out.below hBx)
  have HBw2 := Lib.hid (bgo HB1.out hBx)
  have lks := ks.lt
  have lka := ka.lt
  obtain ⟨b, hb⟩ : ∃ b, b = (holdsPart s a).isSome := ⟨_, rfl⟩
  obtain ⟨L, hL⟩ : ∃ L, L = (holdsPart s a).getD [] := ⟨_, rfl⟩
  have HBE := Lib.hid hb
  have HLE := Lib.hid hL
  have HI : Hid (∀ W : World, Below w1.heap.size w1 W → Calls Try.prog 22 #[.agg #[.slice SA s.values.length sc, .slice SB s.heap.length sd], .agg #[.slice F a.facts.length e1, .slice G a.atoms.length e2]] W fun e w' => ∃ r, e = .returned (.tuple #[r, .bool b]) ∧ IntsO w' W.heap.size r L ∧ Below W.heap.size W w') := fun W hW => by
    rw [hb, hL]; exact c_impl_HoldsPart _ _ s a W (HSV.out.below hW) (HAV.out.below hW)
  have HS : Hid (∀ W : World, Below w1.heap.size w1 W → Calls Try.prog 23 #[.agg #[.slice SA s.values.length sc, .slice SB s.heap.length sd], .agg #[.slice F a.facts.length e1, .slice G a.atoms.length e2]] W fun e w' => ∃ r, e = .returned (.tuple #[r, .bool b]) ∧ IntsO w' W.heap.size r L ∧ Below W.heap.size W w') := fun W hW => by
    rw [hb, hL]; exact c_spec_HoldsPart _ _ s a W (HSV.out.below hW) (HAV.out.below hW)
  have HBX := Lib.hid hBx
  clear hb hL hBx
  go_wp2_with fail
  generalize ((w1.alloc (.cells #[.slice SA s.values.length sc, .slice SB s.heap.length sd] tSt)).alloc (.cells #[.slice F a.facts.length e1, .slice G a.atoms.length e2] 26)) = W2 at ks ka HSV2 HAV2 HBw2 HBX lks lka ⊢
  refine (HI.out _ HBX.out).mono ?_
  rintro e w3 ⟨r3, rfl, o3, hB3⟩
  obtain ⟨A3, c3, rfl, f3⟩ := o3.reads
  have HL3 := Lib.hid f3
  have HB3 : Hid (Below w1.heap.size w1 w3) := bgo HBX.out hB3
  replace ks := ks.next hB3
  replace ka := ka.next hB3
  clear o3 f3 hB3 HSV2 HAV2 HBw2 HBX
  (replace qks := ks.cell; replace rks := ks.frozen; replace lks := ks.lt; replace qka := ka.cell; replace rka := ka.frozen; replace lka := ka.lt)
  go_wp2_with fail
  refine (HS.out _ HB3.out).mono ?_
  rintro e w4 ⟨r4, rfl, o4, hB4⟩
  obtain ⟨A4, c4, rfl, f4⟩ := o4.reads
  have HL4 := Lib.hid f4
  have HL34 := Lib.hid (HL3.out.below hB4)
  have HB4 : Hid (Below w1.heap.size w1 w4) := bgo HB3.out hB4
  replace ks := ks.next hB4
  replace ka := ka.next hB4
  clear o4 f4 hB4 HL3 HB3 HI HS
  (replace qks := ks.cell; replace rks := ks.frozen; replace lks := ks.lt; replace qka := ka.cell; replace rka := ka.frozen; replace lka := ka.lt)
  have hne : (b != b) = false := by cases b <;> rfl
  have heq : (b == b) = true := by cases b <;> rfl
  go_wp2_with fail
  refine (c_slIntsT A3 A4 c3 c4 L _ HL34.out HL4.out).mono ?_
  rintro e w5 ⟨rfl, hB5⟩
  have HB5 : Hid (Below w1.heap.size w1 w5) := bgo HB4.out hB5
  have HL35 := Lib.hid (HL34.out.below hB5)
  have HL45 := Lib.hid (HL4.out.below hB5)
  replace ks := ks.next hB5
  replace ka := ka.next hB5
  clear hB5 HL34 HL4 HB4
  (replace qks := ks.cell; replace rks := ks.frozen; replace lks := ks.lt; replace qka := ka.cell; replace rka := ka.frozen; replace lka := ka.lt)
  cases hp : partOf s a with
  | none =>
    obtain rfl : b = false := by rw [HBE.out]; exact (hp_none hp).1
    clear hp HBE HLE
    go_wp2_with fail
    refine (c_slIntsT A3 A4 c3 c4 L _ HL35.out HL45.out).mono ?_
    rintro e w6 ⟨rfl, hB6⟩
    go_wp2_with fail
    go_ret
    exact ⟨rfl, bgo HB1.out (bgo HB5.out hB6)⟩
  | some out =>
  obtain rfl : b = true := by rw [HBE.out]; exact (hp_some hp).1
  obtain rfl : L = cellsL (bitsOf out) 8 := by rw [HLE.out]; exact (hp_some hp).2
  have HP := Lib.hid hp
  have HSP := Lib.hid (partOf_spec hp)
  have HVAL := Lib.hid (partOf_some.1 hp).1
  have HLL := Lib.hid (cellsL_length (bitsOf out) 8)
  clear hp HBE HLE hne heq
  go_wp2_with fail
  refine (c_impl_AllocCell _ s _ (HSV.out.below HB5.out)).mono ?_
  rintro e w6 ⟨r6, nn, b6, rfl, h6, hB6⟩
  have HB6 : Hid (Below w1.heap.size w1 w6) := bgo HB5.out hB6
  have HL36 := Lib.hid (HL35.out.below hB6)
  replace ks := ks.next hB6
  replace ka := ka.next hB6
  clear hB6 HL35 HL45
  (replace qks := ks.cell; replace rks := ks.frozen; replace lks := ks.lt; replace qka := ka.cell; replace rka := ka.frozen; replace lka := ka.lt)
  rcases h6 with ⟨rfl, rfl⟩ | ⟨rfl, -, k, hk, rfl, hfree, o6⟩
  · go_wp2_with fail
    go_ret
    exact ⟨rfl, bgo HB1.out (bbox HB6.out _)⟩
  have HFR := Lib.hid hfree
  have hxv := o6.tight
  obtain ⟨XA, xc, XB, xd, rfl, -, -⟩ := id hxv
  simp only [List.length_set] at hxv ⊢
  have HXV := Lib.hid hxv
  clear hxv o6 hfree
  have HUV : Hid (valB ((n2 : Int) % 9) = true) := by
    show valB _ = true
    simp only [valB, decide_eq_true_eq]
    omega
  have HSX := Lib.hid (set_valid HVAL.out (k := k) (v := 0) (by omega))
  have HAX := Lib.hid (set_alloc HVAL.out hk (v := 0) (by omega))
  have HML : Hid (partOf ⟨s.values, s.heap.set k ((n2 : Int) % 9)⟩ a = some out ∧ holdsF ⟨s.values, s.heap.set k ((n2 : Int) % 9)⟩ a = false) := by
    have h1 := more_law HP.out (n := (k : Int) + 1) (v := (n2 : Int) % 9) (by simp only [addrB, decide_eq_true_eq]; omega) HFR.out (by omega)
    rw [show ((k : Int) + 1 - 1).toNat = k from by omega] at h1
    exact h1
  have kx := Blk.new w6 tSt #[.slice XA s.values.length xc, .slice XB s.heap.length xd]
  have HBy : Hid (Below w6.heap.size w6 (w6.alloc (.cells #[.slice XA s.values.length xc, .slice XB s.heap.length xd] tSt))) := bbox (Below.refl _ _) _
  have HXV2 := Lib.hid (HXV.out.below HBy.out)
  have HL37 := Lib.hid (HL36.out.below HBy.out)
  have HB7 := Lib.hid (bgo HB6.out HBy.out)
  replace ks := ks.alloc (.cells #[.slice XA s.values.length xc, .slice XB s.heap.length xd] tSt)
  replace ka := ka.alloc (.cells #[.slice XA s.values.length xc, .slice XB s.heap.length xd] tSt)
  clear HXV HL36 HB6 HFR
  go_wp2_with fail
  generalize (w6.alloc (.cells #[.slice XA s.values.length xc, .slice XB s.heap.length xd] tSt)) = W6 at ks ka kx HXV2 HL37 HB7 HBy ⊢
  refine (c_impl_WriteCell _ ⟨s.values, s.heap.set k 0⟩ k ((n2 : Int) % 9) _ HXV2.out HSX.out hk HAX.out HUV.out).mono ?_
  rintro e w7 ⟨r7, rfl, o7, hB7⟩
  simp only [List.set_set] at o7
  have HB8 : Hid (Below w1.heap.size w1 w7) := bgo HB7.out hB7
  have HL38 := Lib.hid (HL37.out.below hB7)
  replace ks := ks.next hB7
  replace ka := ka.next hB7
  obtain ⟨y, hy⟩ : ∃ y : Ste, y = ⟨s.values, s.heap.set k ((n2 : Int) % 9)⟩ := ⟨_, rfl⟩
  rw [← hy] at o7 HML
  have hyv := o7.tight
  obtain ⟨YA, yc, YB, yd, rfl, -, -⟩ := id hyv
  have HYV := Lib.hid hyv
  clear o7 hyv hy hB7 HL37 HB7 HBy kx HXV2
  have ky := Blk.new w7 tSt #[.slice YA y.values.length yc, .slice YB y.heap.length yd]
  have hBz : Below w7.heap.size w7 (w7.alloc (.cells #[.slice YA y.values.length yc, .slice YB y.heap.length yd] tSt)) := bbox (Below.refl _ _) _
  have HYV2 := Lib.hid (HYV.out.below hBz)
  have HL39 := Lib.hid (HL38.out.below hBz)
  have HB9 := Lib.hid (bgo HB8.out hBz)
  replace ks := ks.alloc (.cells #[.slice YA y.values.length yc, .slice YB y.heap.length yd] tSt)
  replace ka := ka.alloc (.cells #[.slice YA y.values.length yc, .slice YB y.heap.length yd] tSt)
  have lka9 := ka.lt
  clear hBz HYV HL38 HB8 qks rks lks qka rka lka
  (replace qka := ka.cell; replace rka := ka.frozen; replace lka := ka.lt)
  go_wp2_with fail
  generalize (w7.alloc (.cells #[.slice YA y.values.length yc, .slice YB y.heap.length yd] tSt)) = W7 at ks ka ky HYV2 HL39 HB9 lka9 qka rka lka ⊢
  refine (c_impl_HoldsPart _ _ y a _ HYV2.out (HAV.out.below HB9.out)).mono ?_
  rintro e w8 ⟨r8, rfl, o8, hB8⟩
  rw [(hp_some HML.out.1).1]
  rw [(hp_some HML.out.1).2] at o8
  obtain ⟨A8, c8, rfl, f8⟩ := o8.reads
  have HL8 := Lib.hid f8
  have HL310 := Lib.hid (HL39.out.below hB8)
  have HYV3 := Lib.hid (HYV2.out.below hB8)
  have HB10 := Lib.hid (bgo HB9.out hB8)
  replace ka := ka.next hB8
  replace ky := ky.next hB8
  clear o8 f8 hB8 HL39 HYV2 HB9 ks qka rka lka
  (replace qka := ka.cell; replace rka := ka.frozen; replace lka := ka.lt; replace qky := ky.cell; replace rky := ky.frozen; replace lky := ky.lt)
  go_wp2_with fail
  refine (c_slIntsT A8 A3 c8 c3 _ _ HL8.out HL310.out).mono ?_
  rintro e w9 ⟨rfl, hB9⟩
  have HYV4 := Lib.hid (HYV3.out.below hB9)
  have HB11 := Lib.hid (bgo HB10.out hB9)
  replace ka := ka.next hB9
  replace ky := ky.next hB9
  clear hB9 HYV3 HB10 HL8 HL310
  (replace qka := ka.cell; replace rka := ka.frozen; replace lka := ka.lt; replace qky := ky.cell; replace rky := ky.frozen; replace lky := ky.lt)
  go_wp2_with fail
  refine (c_impl_Holds _ _ y a _ HYV4.out (HAV.out.below HB11.out)).mono ?_
  rintro e w10 ⟨rfl, hB10⟩
  rw [HML.out.2]
  have HB12 := Lib.hid (bgo HB1.out (bgo HB11.out hB10))
  clear hB10
  go_wp2_with fail
  go_ret
  exact ⟨rfl, HB12.out⟩
end Go.Proofs.Ytdhllcejahdjfaa
