/- 'laws.FnHoldsStar' returns true for all bytes that can be read. -/
import Derived.Test.YtdhllcejahdjfaaDrawY
import Derived.Test.YtdhllcejahdjfaaCellsD
import Derived.Test.YtdhllcejahdjfaaHolds
import Derived.Test.YtdhllcejahdjfaaHoldsB
import Derived.Test.YtdhllcejahdjfaaSlInts
import Derived.Deep.RegionHeld3
set_option linter.unusedSimpArgs false
set_option linter.unusedVariables false
namespace Go.Proofs.Ytdhllcejahdjfaa
open Go Go.RowKit Go.Proofs
attribute [local go_sem ↓] Go.wp_at_zero Go.wp_at_succ

--@ laws.FnHoldsStar
theorem StateO.tight {w : World} {b : Nat} {v : Value} {s : Ste} (h : StateO w b v s) : StateV w 0 w.heap.size v s := by
  obtain ⟨fv, av, rfl, h1, h2, -⟩ := h
  obtain ⟨A, c, rfl, r1⟩ := h1.reads
  obtain ⟨B, d, rfl, r2⟩ := h2.reads
  exact ⟨A, c, B, d, rfl, r1.mono (Nat.zero_le _) (Nat.le_refl _), r2.mono (Nat.zero_le _) (Nat.le_refl _)⟩
theorem AsnO.tightH {w : World} {b : Nat} {v : Value} {a : Asn} (h : AsnO w b v a) : AsnV w 0 w.heap.size v a := (AsnO.reads h).mono (Nat.zero_le _) (Nat.le_refl _)
theorem c_slIntsT {lo hi lo' hi' : Nat} (A A' : Option Addr) (c c' : Nat) (fs : List Int) (w : World) (h : IntsV w lo hi A fs) (h' : IntsV w lo' hi' A' fs) : Calls Try.prog 24 #[.slice A fs.length c, .slice A' fs.length c'] w fun e w' => e = .returned (.bool true) ∧ Below w.heap.size w w' := by
  have := c_slInts A A' c c' fs fs w h h'
  rwa [decide_eq_true (Eq.refl fs)] at this
theorem hp_some {s : Ste} {a : Asn} {out : List Int} (h : partOf s a = some out) : (holdsPart s a).isSome = true ∧ (holdsPart s a).getD [] = cellsL (bitsOf out) 8 := by
  unfold holdsPart; rw [h]; exact ⟨rfl, rfl⟩
theorem hp_none {s : Ste} {a : Asn} (h : partOf s a = none) : (holdsPart s a).isSome = false ∧ (holdsPart s a).getD [] = [] := by
  unfold holdsPart; rw [h]; exact ⟨rfl, rfl⟩
theorem BytesR.belowW {w w' : World} {A : Option Addr} {n c : Nat} (h : BytesR w A n c) (hb : Below w.heap.size w w') : BytesR w' A n c := by
  obtain ⟨bs, h1, h2, h3⟩ := h
  exact ⟨bs, h1, (h2.below hb).mono (Nat.le_refl _) hb.size, h3⟩
set_option maxRecDepth 100000 in
set_option maxHeartbeats 6400000 in
theorem c_FnHoldsStar (v : Value) (A : Option Addr × Nat × Nat) (v2 : Value) (A2 : Option Addr × Nat × Nat) (w : World) (h : v = .slice A.1 A.2.1 A.2.2 ∧ BytesR w A.1 A.2.1 A.2.2) (h2 : v2 = .slice A2.1 A2.2.1 A2.2.2 ∧ BytesR w A2.1 A2.2.1 A2.2.2) : Calls Try.prog 6 #[v, v2] w fun e w' => e = .returned (.bool true) ∧ Below w.heap.size w w' := by
  obtain ⟨A, n, c⟩ := A
  obtain ⟨rfl, hR⟩ := h
  simp only at hR ⊢
  have HR := Lib.hid hR
  clear hR
  obtain ⟨A2, n2, c2⟩ := A2
  obtain ⟨rfl, hR2⟩ := h2
  simp only at hR2 ⊢
  have HR2 := Lib.hid hR2
  clear hR2
  by_cases hn : 1048576 < n
  · have hni : (1048576 : Int) < (n : Int) := by omega
    clear hn
    go_enter Try.func6, Try.ntmps6
    go_wp2_with fail
    go_ret
    exact ⟨rfl, (by repeat (first | (with_reducible exact Below.refl _ _) | (with_reducible assumption) | (with_reducible apply bbox) | ((with_reducible apply Below.setCell); (case hp => (first | exact Nat.le_refl _ | (simp; done) | (simp; omega) | (simp only; omega) | omega))) | (with_reducible apply Below.drew) | (with_reducible apply below_drewN)))⟩
  have hni : ¬ (1048576 : Int) < (n : Int) := by omega
  clear hn
  by_cases hn2 : 1048576 < n2
  · have hni2 : (1048576 : Int) < (n2 : Int) := by omega
    clear hn2
    go_enter Try.func6, Try.ntmps6
    go_wp2_with fail
    go_ret
    exact ⟨rfl, (by repeat (first | (with_reducible exact Below.refl _ _) | (with_reducible assumption) | (with_reducible apply bbox) | ((with_reducible apply Below.setCell); (case hp => (first | exact Nat.le_refl _ | (simp; done) | (simp; omega) | (simp only; omega) | omega))) | (with_reducible apply Below.drew) | (with_reducible apply below_drewN)))⟩
  have hni2 : ¬ (1048576 : Int) < (n2 : Int) := by omega
  go_enter Try.func6, Try.ntmps6
  go_wp2_with fail
  refine (c_DrawHolds A n c _ HR.out).mono ?_
  rintro e w1 ⟨r1, r2, s, a, rfl, os, oa, hB1⟩
  have HB1 := Lib.hid hB1
  have hsv := os.tight
  have hav := oa.tightH
  obtain ⟨SA, sc, SB, sd, rfl, -, -⟩ := id hsv
  obtain ⟨F, e1, G, e2, rfl, -, -⟩ := id hav
  have HSV := Lib.hid hsv
  have HAV := Lib.hid hav
  clear hB1 os oa hsv hav hni
  obtain ⟨ks, ka⟩ := blk2 w1 tSt 26 #[.slice SA s.values.length sc, .slice SB s.heap.length sd] #[.slice F a.facts.length e1, .slice G a.atoms.length e2]
  have hBx : Below w1.heap.size w1 ((w1.alloc (.cells #[.slice SA s.values.length sc, .slice SB s.heap.length sd] tSt)).alloc (.cells #[.slice F a.facts.length e1, .slice G a.atoms.length e2] 26)) := bbox (bbox (Below.refl _ _) _) _
  have HSV2 := Lib.hid (HSV.out.below hBx)
  have HAV2 := Lib.hid (HAV.out.below hBx)
  have HBw2 := Lib.hid (bgo HB1.out hBx)
  have lks := ks.lt
  have lka := ka.lt
  go_wp2_with fail
  generalize ((w1.alloc (.cells #[.slice SA s.values.length sc, .slice SB s.heap.length sd] tSt)).alloc (.cells #[.slice F a.facts.length e1, .slice G a.atoms.length e2] 26)) = W2 at ks ka HSV2 HAV2 HBw2 hBx lks lka ⊢
  have HBX := Lib.hid hBx
  have HR2' := Lib.hid (HR2.out.belowW HBw2.out)
  clear hBx HR2 HSV2 HAV2
  refine (c_DrawHolds A2 n2 c2 _ HR2'.out).mono ?_
  rintro e w3 ⟨r3, r4, s', b, rfl, os, ob, hB3⟩
  have hsv := os.tight
  have hbv := ob.tightH
  obtain ⟨TA, tc, TB, td, rfl, -, -⟩ := id hsv
  obtain ⟨F2, f1, G2, f2, rfl, -, -⟩ := id hbv
  have HBV := Lib.hid hbv
  have HB3 : Hid (Below w1.heap.size w1 w3) := bgo HBX.out hB3
  replace ks := ks.next hB3
  replace ka := ka.next hB3
  clear hB3 os ob hsv hbv HBX HR2' HBw2
  have hBy : Below w3.heap.size w3 ((w3.alloc (.cells #[.slice TA s'.values.length tc, .slice TB s'.heap.length td] tSt)).alloc (.cells #[.slice F2 b.facts.length f1, .slice G2 b.atoms.length f2] 26)) := bbox (bbox (Below.refl _ _) _) _
  obtain ⟨-, kb⟩ := blk2 w3 tSt 26 #[.slice TA s'.values.length tc, .slice TB s'.heap.length td] #[.slice F2 b.facts.length f1, .slice G2 b.atoms.length f2]
  have HBV2 := Lib.hid (HBV.out.below hBy)
  have HB4 := Lib.hid (bgo HB3.out hBy)
  replace ks := ks.next hBy
  replace ka := ka.next hBy
  have lks4 := ks.lt
  have lka4 := ka.lt
  have lkb4 := kb.lt
  clear hBy HBV HB3
  (replace qks := ks.cell; replace rks := ks.frozen; replace lks := ks.lt; replace qka := ka.cell; replace rka := ka.frozen; replace lka := ka.lt; replace qkb := kb.cell; replace rkb := kb.frozen; replace lkb := kb.lt)
  go_wp2_with fail
  generalize ((w3.alloc (.cells #[.slice TA s'.values.length tc, .slice TB s'.heap.length td] tSt)).alloc (.cells #[.slice F2 b.facts.length f1, .slice G2 b.atoms.length f2] 26)) = W4 at ks ka kb HBV2 HB4 lks4 lka4 lkb4 qks rks lks qka rka lka qkb rkb lkb ⊢
  refine (c_impl_Holds _ _ s a _ (HSV.out.below HB4.out) (HAV.out.below HB4.out)).mono ?_
  rintro e w5 ⟨rfl, hB5⟩
  have HB5 := Lib.hid (bgo HB4.out hB5)
  have HBV5 := Lib.hid (HBV2.out.below hB5)
  replace ks := ks.next hB5
  replace ka := ka.next hB5
  replace kb := kb.next hB5
  clear hB5 HBV2 HB4
  (replace qks := ks.cell; replace rks := ks.frozen; replace lks := ks.lt; replace qka := ka.cell; replace rka := ka.frozen; replace lka := ka.lt; replace qkb := kb.cell; replace rkb := kb.frozen; replace lkb := kb.lt)
  go_wp2_with fail
  obtain ⟨fin, hfin⟩ : ∃ fin, fin = (starF a b).isSome := ⟨_, rfl⟩
  obtain ⟨C, hC⟩ : ∃ C, C = (starF a b).getD ⟨[], []⟩ := ⟨_, rfl⟩
  have HFIN := Lib.hid hfin
  have HCC := Lib.hid hC
  have hst := c_impl_Star (.agg #[.slice F a.facts.length e1, .slice G a.atoms.length e2]) (.agg #[.slice F2 b.facts.length f1, .slice G2 b.atoms.length f2]) a b w5 (HAV.out.below HB5.out) HBV5.out
  rw [← hfin, ← hC] at hst
  have HST := Lib.hid hst
  clear hst hfin hC
  refine HST.out.mono ?_
  rintro e w6 ⟨r6, rfl, o6, hB6⟩
  have hcv := o6.tightH
  obtain ⟨F3, g1, G3, g2, rfl, -, -⟩ := id hcv
  have HCV := Lib.hid hcv
  have HB6 := Lib.hid (bgo HB5.out hB6)
  have HBV6 := Lib.hid (HBV5.out.below hB6)
  replace ks := ks.next hB6
  replace ka := ka.next hB6
  replace kb := kb.next hB6
  clear hB6 HBV5 HB5 o6 hcv HST
  have kc := Blk.new w6 26 #[.slice F3 C.facts.length g1, .slice G3 C.atoms.length g2]
  have hBz : Below w6.heap.size w6 (w6.alloc (.cells #[.slice F3 C.facts.length g1, .slice G3 C.atoms.length g2] 26)) := bbox (Below.refl _ _) _
  have HCV2 := Lib.hid (HCV.out.below hBz)
  have HBV7 := Lib.hid (HBV6.out.below hBz)
  have HB7 := Lib.hid (bgo HB6.out hBz)
  have lk0 := ks.lt
  have lk1 := ka.lt
  have lk2 := kb.lt
  replace ks := ks.next hBz
  replace ka := ka.next hBz
  replace kb := kb.next hBz
  clear hBz HCV HBV6 HB6
  (replace qks := ks.cell; replace rks := ks.frozen; replace lks := ks.lt; replace qka := ka.cell; replace rka := ka.frozen; replace lka := ka.lt; replace qkb := kb.cell; replace rkb := kb.frozen; replace lkb := kb.lt; replace qkc := kc.cell; replace rkc := kc.frozen; replace lkc := kc.lt)
  go_wp2_with fail
  generalize (w6.alloc (.cells #[.slice F3 C.facts.length g1, .slice G3 C.atoms.length g2] 26)) = W7 at ks ka kb kc HCV2 HBV7 HB7 qks rks lks qka rka lka qkb rkb lkb qkc rkc lkc ⊢
  refine (c_spec_Holds _ _ s a _ (HSV.out.below HB7.out) (HAV.out.below HB7.out)).mono ?_
  rintro e w8 ⟨rfl, hB8⟩
  have HB8 := Lib.hid (bgo HB7.out hB8)
  have HBV8 := Lib.hid (HBV7.out.below hB8)
  have HCV8 := Lib.hid (HCV2.out.below hB8)
  replace ks := ks.next hB8
  replace ka := ka.next hB8
  replace kb := kb.next hB8
  replace kc := kc.next hB8
  clear hB8 HBV7 HCV2 HB7
  (replace qks := ks.cell; replace rks := ks.frozen; replace lks := ks.lt; replace qka := ka.cell; replace rka := ka.frozen; replace lka := ka.lt; replace qkb := kb.cell; replace rkb := kb.frozen; replace lkb := kb.lt; replace qkc := kc.cell; replace rkc := kc.frozen; replace lkc := kc.lt)
  have hne : (holdsF s a != holdsF s a) = false := by simp
  have heq : (holdsF s a == holdsF s a) = true := by simp
  cases fin
  · clear HFIN HCC
    go_wp2_with fail
    refine (c_spec_Holds _ _ s a _ (HSV.out.below HB8.out) (HAV.out.below HB8.out)).mono ?_
    rintro e w9 ⟨rfl, hB9⟩
    go_wp2_with fail
    go_ret
    exact ⟨rfl, bgo HB1.out (bgo HB8.out hB9)⟩
  have HSC : Hid (starF a b = some C) := by
    show _ = _
    rw [HCC.out]
    have h1 := HFIN.out
    cases hs : starF a b with
    | none => rw [hs] at h1; cases h1
    | some c' => rfl
  clear HFIN HCC heq
  obtain ⟨bb, hbb⟩ : ∃ bb, bb = (holdsPart s a).isSome := ⟨_, rfl⟩
  obtain ⟨L, hL⟩ : ∃ L, L = (holdsPart s a).getD [] := ⟨_, rfl⟩
  have HBE := Lib.hid hbb
  have HLE := Lib.hid hL
  have hhp := c_impl_HoldsPart (.agg #[.slice SA s.values.length sc, .slice SB s.heap.length sd]) (.agg #[.slice F a.facts.length e1, .slice G a.atoms.length e2]) s a w8 (HSV.out.below HB8.out) (HAV.out.below HB8.out)
  rw [← hbb, ← hL] at hhp
  have HHP := Lib.hid hhp
  clear hhp hbb hL
  go_wp2_with fail
  refine HHP.out.mono ?_
  rintro e w9 ⟨r9, rfl, o9, hB9⟩
  obtain ⟨A9, c9, rfl, f9⟩ := o9.reads
  have HL9 := Lib.hid f9
  have HB9 := Lib.hid (bgo HB8.out hB9)
  have HBV9 := Lib.hid (HBV8.out.below hB9)
  have HCV9 := Lib.hid (HCV8.out.below hB9)
  replace ks := ks.next hB9
  replace ka := ka.next hB9
  replace kb := kb.next hB9
  replace kc := kc.next hB9
  clear o9 f9 hB9 HBV8 HCV8 HB8 HHP hne
  (replace qks := ks.cell; replace rks := ks.frozen; replace lks := ks.lt; replace qka := ka.cell; replace rka := ka.frozen; replace lka := ka.lt; replace qkb := kb.cell; replace rkb := kb.frozen; replace lkb := kb.lt; replace qkc := kc.cell; replace rkc := kc.frozen; replace lkc := kc.lt)
  cases hp : partOf s a with
  | none =>
    obtain rfl : bb = false := by rw [HBE.out]; exact (hp_none hp).1
    have HX := Lib.hid (star_none HSC.out hp)
    clear hp HBE HLE
    go_wp2_with fail
    refine (c_impl_Holds _ _ s C _ (HSV.out.below HB9.out) HCV9.out).mono ?_
    rintro e w10 ⟨rfl, hB10⟩
    rw [HX.out]
    go_wp2_with fail
    go_ret
    exact ⟨rfl, bgo HB1.out (bgo HB9.out hB10)⟩
  | some out =>
  obtain rfl : bb = true := by rw [HBE.out]; exact (hp_some hp).1
  have HM : Hid (∀ x, x ∈ L ↔ x ∈ out) := fun x => by rw [HLE.out, (hp_some hp).2]; exact cells_mem (fun c hc => ((partOf_spec hp).2 c hc).1)
  have HND : Hid (L.Nodup) := by show L.Nodup; rw [HLE.out, (hp_some hp).2]; exact cellsL_nodup _
  have HAL : Hid (∀ c ∈ L, allocB s.heap c = true) := fun c hc => ((partOf_spec hp).2 c ((HM.out c).1 hc)).2
  have HVAL := Lib.hid (partOf_some.1 hp).1
  have HLL : Hid (L.length ≤ 8) := by show _ ≤ _; rw [HLE.out, (hp_some hp).2]; exact cellsL_length _ 8
  obtain ⟨own, hown⟩ : ∃ own, own = keepS s fun x => decide (x ∈ L) := ⟨_, rfl⟩
  obtain ⟨rest, hrest⟩ : ∃ rest, rest = keepS s fun x => !decide (x ∈ L) := ⟨_, rfl⟩
  have HOW : Hid (holdsF own a = true) := by
    show _ = _
    rw [hown]
    exact keep_holds hp (fun c hc => decide_eq_true ((HM.out c).2 hc)) (fun c hc _ => (HM.out c).1 (of_decide_eq_true hc))
  have HRE : Hid (holdsF s C = holdsF rest b) := by
    show _ = _
    rw [hrest]
    refine star_law HSC.out hp fun x _ => ?_
    rw [Bool.not_eq_true', decide_eq_false_iff_not, HM.out x]
  have HOX := Lib.hid hown
  have HRX := Lib.hid hrest
  clear hown hrest hp HBE HLE HM HSC
  go_wp2_with fail
  refine (c_impl_DropCells _ s A9 c9 L _ (HSV.out.below HB9.out) HL9.out HVAL.out HAL.out HND.out).mono ?_
  rintro e w10 ⟨r10, rfl, o10, hB10⟩
  rw [← HRX.out] at o10
  have hrv := o10.tight
  obtain ⟨RA, rc, RB, rd, rfl, -, -⟩ := id hrv
  have HRV := Lib.hid hrv
  have HB10 := Lib.hid (bgo HB9.out hB10)
  have HBV10 := Lib.hid (HBV9.out.below hB10)
  have HCV10 := Lib.hid (HCV9.out.below hB10)
  have HL10 := Lib.hid (HL9.out.below hB10)
  replace ks := ks.next hB10
  replace ka := ka.next hB10
  replace kb := kb.next hB10
  replace kc := kc.next hB10
  clear o10 hrv hB10 HBV9 HCV9 HB9 HL9
  have kr := Blk.new w10 tSt #[.slice RA rest.values.length rc, .slice RB rest.heap.length rd]
  have hBt : Below w10.heap.size w10 (w10.alloc (.cells #[.slice RA rest.values.length rc, .slice RB rest.heap.length rd] tSt)) := bbox (Below.refl _ _) _
  have HRV2 := Lib.hid (HRV.out.below hBt)
  have HB11 := Lib.hid (bgo HB10.out hBt)
  have HBV11 := Lib.hid (HBV10.out.below hBt)
  have HCV11 := Lib.hid (HCV10.out.below hBt)
  have HL11 := Lib.hid (HL10.out.below hBt)
  replace ks := ks.next hBt
  replace ka := ka.next hBt
  replace kb := kb.next hBt
  replace kc := kc.next hBt
  clear hBt HRV HB10 HBV10 HCV10 HL10
  (replace qks := ks.cell; replace rks := ks.frozen; replace lks := ks.lt; replace qka := ka.cell; replace rka := ka.frozen; replace lka := ka.lt; replace qkb := kb.cell; replace rkb := kb.frozen; replace lkb := kb.lt; replace qkc := kc.cell; replace rkc := kc.frozen; replace lkc := kc.lt; replace qkr := kr.cell; replace rkr := kr.frozen; replace lkr := kr.lt)
  go_wp2_with fail
  generalize (w10.alloc (.cells #[.slice RA rest.values.length rc, .slice RB rest.heap.length rd] tSt)) = W11 at ks ka kb kc kr HRV2 HB11 HBV11 HCV11 HL11 qks rks lks qka rka lka qkb rkb lkb qkc rkc lkc qkr rkr lkr ⊢
  refine (c_impl_KeepCells _ s A9 c9 L _ (HSV.out.below HB11.out) HL11.out HVAL.out HAL.out HND.out).mono ?_
  rintro e w12 ⟨r12, rfl, o12, hB12⟩
  rw [← HOX.out] at o12
  have hov := o12.tight
  obtain ⟨OA, oc, OB, od, rfl, -, -⟩ := id hov
  have HOV := Lib.hid hov
  have HB12 := Lib.hid (bgo HB11.out hB12)
  have HBV12 := Lib.hid (HBV11.out.below hB12)
  have HCV12 := Lib.hid (HCV11.out.below hB12)
  have HRV12 := Lib.hid (HRV2.out.below hB12)
  replace ks := ks.next hB12
  replace ka := ka.next hB12
  replace kb := kb.next hB12
  replace kc := kc.next hB12
  replace kr := kr.next hB12
  clear o12 hov hB12 HBV11 HCV11 HB11 HL11 HRV2
  have ko := Blk.new w12 tSt #[.slice OA own.values.length oc, .slice OB own.heap.length od]
  have hBt : Below w12.heap.size w12 (w12.alloc (.cells #[.slice OA own.values.length oc, .slice OB own.heap.length od] tSt)) := bbox (Below.refl _ _) _
  have HOV2 := Lib.hid (HOV.out.below hBt)
  have HB13 := Lib.hid (bgo HB12.out hBt)
  have HBV13 := Lib.hid (HBV12.out.below hBt)
  have HCV13 := Lib.hid (HCV12.out.below hBt)
  have HRV13 := Lib.hid (HRV12.out.below hBt)
  replace ks := ks.next hBt
  replace ka := ka.next hBt
  replace kb := kb.next hBt
  replace kc := kc.next hBt
  replace kr := kr.next hBt
  clear hBt HOV HB12 HBV12 HCV12 HRV12
  (replace qks := ks.cell; replace rks := ks.frozen; replace lks := ks.lt; replace qka := ka.cell; replace rka := ka.frozen; replace lka := ka.lt; replace qkb := kb.cell; replace rkb := kb.frozen; replace lkb := kb.lt; replace qkc := kc.cell; replace rkc := kc.frozen; replace lkc := kc.lt; replace qkr := kr.cell; replace rkr := kr.frozen; replace lkr := kr.lt; replace qko := ko.cell; replace rko := ko.frozen; replace lko := ko.lt)
  go_wp2_with fail
  generalize (w12.alloc (.cells #[.slice OA own.values.length oc, .slice OB own.heap.length od] tSt)) = W13 at ks ka kb kc kr ko HOV2 HB13 HBV13 HCV13 HRV13 qks rks lks qka rka lka qkb rkb lkb qkc rkc lkc qkr rkr lkr qko rko lko ⊢
  refine (c_impl_Holds _ _ own a _ HOV2.out (HAV.out.below HB13.out)).mono ?_
  rintro e w14 ⟨rfl, hB14⟩
  rw [HOW.out]
  have HB14 := Lib.hid (bgo HB13.out hB14)
  have HBV14 := Lib.hid (HBV13.out.below hB14)
  have HCV14 := Lib.hid (HCV13.out.below hB14)
  have HRV14 := Lib.hid (HRV13.out.below hB14)
  replace ks := ks.next hB14
  replace kb := kb.next hB14
  replace kc := kc.next hB14
  replace kr := kr.next hB14
  clear hB14 HBV13 HCV13 HRV13 HB13 ko qko rko lko ka qka rka lka
  (replace qks := ks.cell; replace rks := ks.frozen; replace lks := ks.lt; replace qkb := kb.cell; replace rkb := kb.frozen; replace lkb := kb.lt; replace qkc := kc.cell; replace rkc := kc.frozen; replace lkc := kc.lt; replace qkr := kr.cell; replace rkr := kr.frozen; replace lkr := kr.lt)
  go_wp2_with fail
  refine (c_impl_Holds _ _ s C _ (HSV.out.below HB14.out) HCV14.out).mono ?_
  rintro e w15 ⟨rfl, hB15⟩
  rw [HRE.out]
  have HB15 := Lib.hid (bgo HB14.out hB15)
  have HBV15 := Lib.hid (HBV14.out.below hB15)
  have HCV15 := Lib.hid (HCV14.out.below hB15)
  have HRV15 := Lib.hid (HRV14.out.below hB15)
  replace ks := ks.next hB15
  replace kb := kb.next hB15
  replace kc := kc.next hB15
  replace kr := kr.next hB15
  clear hB15 HBV14 HCV14 HRV14 HB14
  (replace qks := ks.cell; replace rks := ks.frozen; replace lks := ks.lt; replace qkb := kb.cell; replace rkb := kb.frozen; replace lkb := kb.lt; replace qkc := kc.cell; replace rkc := kc.frozen; replace lkc := kc.lt; replace qkr := kr.cell; replace rkr := kr.frozen; replace lkr := kr.lt)
  cases hX : holdsF rest b
  · have HX := Lib.hid hX
    clear hX
    go_wp2_with fail
    refine (c_impl_Holds _ _ rest b _ HRV15.out HBV15.out).mono ?_
    rintro e w16 ⟨rfl, hB16⟩
    rw [HX.out]
    have HB16 := Lib.hid (bgo HB15.out hB16)
    have HCV16 := Lib.hid (HCV15.out.below hB16)
    replace ks := ks.next hB16
    replace kc := kc.next hB16
    clear hB16 HCV15 HB15 kb kr qkb rkb lkb qkr rkr lkr
    (replace qks := ks.cell; replace rks := ks.frozen; replace lks := ks.lt; replace qkc := kc.cell; replace rkc := kc.frozen; replace lkc := kc.lt)
    go_wp2_with fail
    refine (c_impl_Holds _ _ s C _ (HSV.out.below HB16.out) HCV16.out).mono ?_
    rintro e w17 ⟨rfl, hB17⟩
    rw [HRE.out, HX.out]
    go_wp2_with fail
    go_ret
    exact ⟨rfl, bgo HB1.out (bgo HB16.out hB17)⟩
  · have HX := Lib.hid hX
    clear hX
    go_wp2_with fail
    refine (c_impl_Holds _ _ s C _ (HSV.out.below HB15.out) HCV15.out).mono ?_
    rintro e w16 ⟨rfl, hB16⟩
    rw [HRE.out, HX.out]
    have HB16 := Lib.hid (bgo HB15.out hB16)
    have HBV16 := Lib.hid (HBV15.out.below hB16)
    have HRV16 := Lib.hid (HRV15.out.below hB16)
    replace kb := kb.next hB16
    replace kr := kr.next hB16
    clear hB16 HB15 ks kc qks rks lks qkc rkc lkc
    (replace qkb := kb.cell; replace rkb := kb.frozen; replace lkb := kb.lt; replace qkr := kr.cell; replace rkr := kr.frozen; replace lkr := kr.lt)
    go_wp2_with fail
    refine (c_impl_Holds _ _ rest b _ HRV16.out HBV16.out).mono ?_
    rintro e w17 ⟨rfl, hB17⟩
    rw [HX.out]
    go_wp2_with fail
    go_ret
    exact ⟨rfl, bgo HB1.out (bgo HB16.out hB17)⟩
end Go.Proofs.Ytdhllcejahdjfaa
