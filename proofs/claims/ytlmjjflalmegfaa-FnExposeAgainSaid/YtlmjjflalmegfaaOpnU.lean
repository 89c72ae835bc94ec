/- Exposing cells: spec.l10Unfold. -/
import Derived.Test.YtlmjjflalmegfaaOpnS
import Derived.Deep.DeepCutAuto
set_option linter.unusedSimpArgs false
set_option linter.unusedVariables false
namespace Go.Proofs.Ytlmjjflalmegfaa
open Go Go.RowKit Go.Proofs
attribute [local go_sem ↓] Go.wp_at_zero Go.wp_at_succ

theorem AsnO.parts {w : World} {b : Nat} {f g : Value} {a : Asn} (h : AsnO w b (.agg #[f, g]) a) : FactsO w b f a.facts ∧ AtomsO w b g a.atoms := by
  obtain ⟨_, _, e, h1, h2⟩ := h
  injection e with e
  injection e with e
  injection e with e1 e2
  injection e2 with e2 e3
  subst e1 e2
  exact ⟨h1, h2⟩
section
variable {ops : Array Oper} {o : Oper} {a : Act} {K : Act → World → Prop} {Q : Exit → Act → World → Prop} {E : Prop} {w : World} {base lo hi c n m : Nat} {v : Value} {A : Option Addr}
theorem stepALm (hgd : o.guard = none) (s x : Operand) (ho : o.op = .call { callee := .builtin .append, args := #[s, x], argTypes := #[32, 32] })
    {xs ys zs : List Atm} (hs : a.eval s = v) (hown : AtomsO w base v xs) (hx : a.eval x = .slice A m c) (hm : m = ys.length) (hR : AtomsV w lo hi A ys) (hz : zs = xs ++ ys) (hn : n = zs.length) (hl : n ≤ 1049600) (hb : base ≤ w.heap.size)
    (h : ∀ A' c' w', AtomsO w' base (.slice A' n c') zs → w.grownBy w' v.ownBlock → Below base w w' → K (a.put o.dst (.slice A' n c')) w') : if Region.wanted o (yielded ops a.tmps) = true then Oper.wp Try.prog o a w K Q else E := by
  subst hm hz hn
  refine stepAL hgd s x ho hs hown hx hR (by rwa [List.length_append] at hl) hb h
end
--@ spec.l10Open
/-- the contract of spec.l10Open at one assertion -/
def OpC (n : Nat) (a : Asn) (t : Int) (K : Nat) : Prop := ∀ (lo hi lo' hi' : Nat) (v : Value) (B : Option Addr) (c : Nat) (w : World), AsnC w lo hi v a → BoolsV w lo' hi' B (flagsOf (tins K t)) → a.facts.length ≤ 1000 → a.atoms.length ≤ 1000 →
  Calls Try.prog 35 #[v, .int .i64 t, .slice B 9 c, .int .i64 (n : Int)] w fun e w' => ∃ r vs l, e = .returned (.tuple #[r, .bool (exposeF n a t K).isSome]) ∧ A2O w' w.heap.size r vs l ∧ l.length ≤ 2 ^ n ∧ (exposeF n a t K = none ∨ exposeF n a t K = some l) ∧ Below w.heap.size w w'
--@ spec.l10Unfold
/-- .. and of spec.l10Unfold -/
def UnC (n : Nat) (a : Asn) (x : Atm) (i : Nat) (t : Int) (K : Nat) : Prop := ∀ (lo hi lo' hi' : Nat) (v : Value) (B : Option Addr) (c : Nat) (w : World), AsnC w lo hi v a → BoolsV w lo' hi' B (flagsOf (tins K t)) →
  Calls Try.prog 76 #[v, .int .i64 t, .slice B 9 c, .int .i64 ((n : Int) + 1), .int .i64 i] w fun e w' => ∃ r vs l, e = .returned (.tuple #[r, .bool (listF n a x i t K).isSome]) ∧ A2O w' w.heap.size r vs l ∧ l.length ≤ 2 ^ (n + 1) ∧ (listF n a x i t K = none ∨ listF n a x i t K = some l) ∧ Below w.heap.size w w'
set_option maxRecDepth 100000 in
set_option maxHeartbeats 12800000 in
theorem c_l10Unfold (n : Nat) (a : Asn) (x : Atm) (i : Nat) (t : Int) (Ks : Nat) (hv : a.valid = true) (hx : a.atoms[i]? = some x) (hn : n ≤ 6)
    (HE : OpC n (emptyX a x i) t Ks) (HF : ∀ m : Nat, OpC n (fullX a x i (m : Int)) t Ks) : UnC n a x i t Ks := by
  intro lo hi0 lo' hi' v B cB w h hB0
  have hV := Lib.hid h
  have HFL := Lib.hid hB0
  obtain ⟨A1, c1, A2, c2, rfl, h1, h2, hcap⟩ := h
  have hvl := valid_len hv
  have HVa := Lib.hid hv
  obtain ⟨hi, hxe⟩ := List.getElem?_eq_some_iff.1 hx
  have hwl := withoutL_len hi
  obtain ⟨b, o, rfl, -⟩ := h2.at hi
  have HV2 := Lib.hid h2
  have hii : (i : Int) < (a.atoms.length : Int) := by omega
  have hw : IntKind.i64.wrap ((i : Int) + 1) = (i : Int) + 1 := IntWalk.i64_in _ (by omega)
  have hs1 := sliceAh b o a.atoms.length c2 i (by omega)
  obtain ⟨A', hs2, hA'⟩ := sliceAl b o a.atoms.length c2 (i + 1) (by omega) hcap
  push_cast at hs2
  have hT := Lib.hid (h2.take_ (k := i) (by omega))
  have hD : Hid (AtomsV w lo _ A' (a.atoms.drop (i + 1))) := Lib.hid (by
    by_cases hlt : i + 1 < a.atoms.length
    · rw [hA' (by omega)]
      exact h2.drop_ (by omega)
    · rw [List.drop_eq_nil_of_le (by omega)]
      exact Rd.nil _ _ _ _ _)
  have HL1 : Hid ((a.atoms.take i).length = i) := Lib.hid (by rw [List.length_take]; omega)
  have HL2 : Hid ((a.atoms.drop (i + 1)).length = a.atoms.length - (i + 1)) := Lib.hid List.length_drop
  have HHi := Lib.hid hi
  have HEH := Lib.hid HE
  have HFH := Lib.hid HF
  have HN := Lib.hid (Nat.pow_le_pow_right (show 0 < 2 from by decide) hn)
  have HX := Lib.hid hxe
  clear h1 h2 HE HF hx hv hB0 hA' hxe
  go_enter Try.func76, Try.ntmps76
  have k0 : Blk (w.alloc (.cells #[.slice A1 a.facts.length c1, .slice (some ⟨b, o, none⟩) a.atoms.length c2] tAs)) w.heap.size tAs #[.slice A1 a.facts.length c1, .slice (some ⟨b, o, none⟩) a.atoms.length c2] := blks
  have hs1' := Lib.hid hs1
  have hs2' := Lib.hid hs2
  have hw' := Lib.hid hw
  clear hs1 hs2 hw
  go_wp2_with fail
  refine (c_l10New _ a B cB (tins Ks t) _ (hV.out.V.below bel) (HFL.out.below bel) HVa.out).mono ?_
  rintro e w1 ⟨rfl, hB1⟩
  have HB := Lib.hid (bgo (w := w) bel hB1)
  replace k0 := k0.next hB1
  have hz1 : w.heap.size + 1 ≤ w1.heap.size := by have := hB1.size; simp at this; omega
  clear hB1
  cases hnt : newT (tset (termsL a) ||| tins Ks t)
  case none =>
    have E := Lib.hid (list_none (n := n) (x := x) (i := i) hnt)
    clear hnt
    go_wp2_with fail
    go_ret2
    exact ⟨_, [], [], by rw [E.out]; rfl, (A2O.empty w1 rfl).lower (by omega), Nat.zero_le _, .inl E.out, bbox HB.out _⟩
  case some m =>
    have EI : unusedI (tset (termsL a) ||| tins Ks t) = (m : Int) := by unfold unusedI; rw [hnt]
    rw [EI]
    clear EI
    have HNT := Lib.hid hnt
    clear hnt
    (replace qk0 := k0.cell; replace rk0 := k0.frozen; replace lk0 := k0.lt)
    obtain ⟨b', o', hbo, g0, g1, g2⟩ := (HV2.out.below HB.out).at HHi.out
    injection hbo with hbo
    injection hbo with hb1 hb2
    subst hb1 hb2
    rw [HX.out] at g0 g1 g2
    go_upto_region 5 with fail
    clear qk0 rk0 lk0 g0 g1 g2
    have hbq := bbox (Below.refl w1.heap.size w1) (.cells #[.int .i64 x.kind, .int .i64 x.a, .int .i64 x.b] tA)
    have kx : Blk (w1.alloc (.cells #[.int .i64 x.kind, .int .i64 x.a, .int .i64 x.b] tA)) w1.heap.size tA #[.int .i64 x.kind, .int .i64 x.a, .int .i64 x.b] := Blk.new _ _ _
    replace k0 := k0.next hbq
    replace HB := Lib.hid (bgo HB.out hbq)
    have hzw : (w1.alloc (.cells #[.int .i64 x.kind, .int .i64 x.a, .int .i64 x.b] tA)).heap.size = w1.heap.size + 1 := by simp
    clear hbq
    generalize w1.alloc (.cells #[.int .i64 x.kind, .int .i64 x.a, .int .i64 x.b] tA) = W1 at k0 kx HB hzw ⊢
    obtain ⟨yx, hyx⟩ : ∃ y, y = w1.heap.size := ⟨_, rfl⟩
    rw [← hyx] at kx hzw ⊢
    have hyw : w.heap.size < yx := by omega
    clear hyx hz1
    (replace qk0 := k0.cell; replace rk0 := k0.frozen; replace lk0 := k0.lt)
    go_wp2_with fail
    refine (c_l3Copy _ a _ (hV.out.V.below HB.out)).mono ?_
    rintro e w2 ⟨r, rfl, oc, hB2⟩
    obtain ⟨fv, av, rfl, o1, o2⟩ := oc
    obtain ⟨F, d, rfl, -⟩ := o1.reads
    obtain ⟨G, g, rfl, -⟩ := o2.reads
    have O1 := Lib.hid (o1.lower (base' := w.heap.size) (by omega))
    clear o1 o2
    replace k0 := k0.next hB2
    replace kx := kx.next hB2
    replace HB := Lib.hid (bgo HB.out hB2)
    have hz2 := hB2.size
    clear hB2 qk0 rk0 lk0
    go_upto_region 6 with fail
    have hbq := bbox (Below.refl w2.heap.size w2) (.cells #[.slice F a.facts.length d, .slice G a.atoms.length g] tAs)
    have kE : Blk (w2.alloc (.cells #[.slice F a.facts.length d, .slice G a.atoms.length g] tAs)) w2.heap.size tAs #[.slice F a.facts.length d, .slice G a.atoms.length g] := Blk.new _ _ _
    replace k0 := k0.next hbq
    replace kx := kx.next hbq
    replace O1 := Lib.hid (O1.out.below hbq)
    replace HB := Lib.hid (bgo HB.out hbq)
    have hz3 : (w2.alloc (.cells #[.slice F a.facts.length d, .slice G a.atoms.length g] tAs)).heap.size = w2.heap.size + 1 := by simp
    clear hbq
    generalize (w2.alloc (.cells #[.slice F a.facts.length d, .slice G a.atoms.length g] tAs)) = W2 at k0 kx kE O1 HB hz3 ⊢
    obtain ⟨yE, hyE⟩ : ∃ y, y = w2.heap.size := ⟨_, rfl⟩
    rw [← hyE] at kE hz3 ⊢
    have hyE2 : yx < yE := by omega
    have hyE3 : yE < W2.heap.size := by omega
    clear hyE hz2 hzw hz3
    (replace qkE := kE.cell; replace rkE := kE.frozen; replace lkE := kE.lt; replace qkx := kx.cell; replace rkx := kx.frozen; replace lkx := kx.lt)
    go_upto_region 7 with (at_builtin; refine appFL (ys := [⟨true, x.a, x.b⟩]) (base := w.heap.size) rfl _ _ rfl rfl (O1.out.below bel) rfl (FactsV.one (f := ⟨true, x.a, x.b⟩) (Blk.new W2 tF _)) (by simp <;> omega) (by simp <;> omega) ?_; intro A6 c6 w6 o6 hg6 hB6; have kO := O1.out.below (w' := W2.alloc (.cells #[.bool true, .int .i64 x.a, .int .i64 x.b] tF)) bel; have kE6 := Blk.grownO (hg := hg6) (kE.alloc _) kO.1 (by decide); have k06 := Blk.grownO (hg := hg6) (k0.alloc _) kO.1 (by decide); have kx6 := Blk.grownO (hg := hg6) (kx.alloc _) kO.1 (by decide); have HB6 : Hid (Below w.heap.size w w6) := Lib.hid ((bbox HB.out _).trans hB6); have O16 := Lib.hid o6; have hz6 : W2.heap.size + 1 ≤ w6.heap.size := (by have := hg6.size; simp at this; omega); clear hB6 hg6 o6 kO qkE rkE lkE qkx rkx lkx; (replace qkE6 := kE6.cell; replace rkE6 := kE6.frozen; replace lkE6 := kE6.lt))
    simp only [List.length_append, List.length_cons, List.length_nil, Nat.zero_add] at O16 ⊢
    have kE7 : Blk (w6.setCell ⟨yE, 0, none⟩ (.slice A6 (a.facts.length + 1) c6)) yE tAs #[.slice A6 (a.facts.length + 1) c6, .slice G a.atoms.length g] := by
      have := kE6.set_ 0 (.slice A6 (a.facts.length + 1) c6)
      simpa using this
    have k07 := k06.far (p := ⟨yE, 0, none⟩) (by simp only; omega) (.slice A6 (a.facts.length + 1) c6)
    have kx7 := kx6.far (p := ⟨yE, 0, none⟩) (by simp only; omega) (.slice A6 (a.facts.length + 1) c6)
    have O17 := Lib.hid (O16.out.setT kE6 (by decide) 0 (.slice A6 (a.facts.length + 1) c6))
    have HB7 := Lib.hid (HB6.out.setCell (p := ⟨yE, 0, none⟩) (by simp only; omega) (.slice A6 (a.facts.length + 1) c6))
    have hz7 : W2.heap.size + 1 ≤ (w6.setCell ⟨yE, 0, none⟩ (.slice A6 (a.facts.length + 1) c6)).heap.size := by simpa using hz6
    clear k0 kx kE O1 HB kE6 k06 kx6 O16 HB6 hz6 qkE6 rkE6 lkE6
    generalize (w6.setCell ⟨yE, 0, none⟩ (.slice A6 (a.facts.length + 1) c6)) = W7 at kE7 k07 kx7 O17 HB7 hz7 ⊢
    clear w6
    have hs1 := hs1'.out
    have hs2 := hs2'.out
    have hw := hw'.out
    (replace qk07 := k07.cell; replace rk07 := k07.frozen; replace lk07 := k07.lt; replace qkE7 := kE7.cell; replace rkE7 := kE7.frozen; replace lkE7 := kE7.lt)
    go_wp2_with fail
    clear qk07 rk07 lk07
    refine wp_region_noPanic ?_
    refine wp_region_held_drew (S := (fun w' => ∀ i, w'.cell? ⟨w.heap.size, i, none⟩ = #[.slice A1 a.facts.length c1, .slice (some ⟨b, o, none⟩) a.atoms.length c2][i]?)) (by kernel_rfl) (k07.drew.cell) (fun hHeld => ?_)
    have HBQ : Hid (Below W7.heap.size W7 W7.drew) := Lib.hid (Below.refl _ _).drew
    have hzq : W7.heap.size ≤ W7.drew.heap.size := Nat.le_refl _
    clear qkE7 rkE7 lkE7
    generalize W7.drew = wq at HBQ hzq hHeld ⊢
    refine wpAnyH_take (i := 1) (v := ?_) rfl (by kernel_rfl) (by kernel_rfl) (by kernel_rfl) (fun _ _ _ h => h) (Or.inl ⟨by rfl, fun w hSw => ?_⟩) hHeld ?_
    rotate_left
    · ((try dsimp only at hSw); go_split_ands; go_simp; (try with_reducible rfl))
    try simp only [Act.put, List.getElem_toArray, List.getElem_cons_zero, List.getElem_cons_succ, List.setIfInBounds_toArray, List.set_cons_zero, List.set_cons_succ]
    refine wpAnyH_take (i := 2) (v := ?_) rfl (by kernel_rfl) (by kernel_rfl) (by kernel_rfl) (fun _ _ _ h => h) (Or.inl ⟨by rfl, fun w hSw => ?_⟩) hHeld ?_
    rotate_left
    · ((try dsimp only at hSw); go_split_ands; go_simp; (try with_reducible rfl))
    try simp only [Act.put, List.getElem_toArray, List.getElem_cons_zero, List.getElem_cons_succ, List.setIfInBounds_toArray, List.set_cons_zero, List.set_cons_succ]
    refine wpAnyH_take (i := 3) (v := ?_) rfl (by kernel_rfl) (by kernel_rfl) (by kernel_rfl) (fun _ _ _ h => h) (Or.inl ⟨by rfl, fun w hSw => ?_⟩) hHeld ?_
    rotate_left
    · ((try dsimp only at hSw); go_split_ands; go_simp; (try with_reducible rfl))
    try simp only [Act.put, List.getElem_toArray, List.getElem_cons_zero, List.getElem_cons_succ, List.setIfInBounds_toArray, List.set_cons_zero, List.set_cons_succ]
    refine wpAnyH_take (i := 4) (v := ?_) rfl (by kernel_rfl) (by kernel_rfl) (by kernel_rfl) (fun _ _ _ h => h) (Or.inl ⟨by rfl, fun w hSw => ?_⟩) hHeld ?_
    rotate_left
    · ((try dsimp only at hSw); go_split_ands; go_simp; (try with_reducible rfl))
    try simp only [Act.put, List.getElem_toArray, List.getElem_cons_zero, List.getElem_cons_succ, List.setIfInBounds_toArray, List.set_cons_zero, List.set_cons_succ]
    refine wpAnyH_take (i := 6) (v := ?_) rfl (by kernel_rfl) (by kernel_rfl) (by kernel_rfl) (fun _ _ _ h => h) (Or.inl ⟨by rfl, fun w hSw => ?_⟩) hHeld ?_
    rotate_left
    · ((try dsimp only at hSw); go_split_ands; go_simp; (try with_reducible rfl))
    try simp only [Act.put, List.getElem_toArray, List.getElem_cons_zero, List.getElem_cons_succ, List.setIfInBounds_toArray, List.set_cons_zero, List.set_cons_succ]
    refine wpAnyH_take (i := 7) (v := ?_) rfl (by kernel_rfl) (by kernel_rfl) (by kernel_rfl) (fun _ _ _ h => h) (Or.inl ⟨by rfl, fun w hSw => ?_⟩) hHeld ?_
    rotate_left
    · ((try dsimp only at hSw); go_split_ands; go_simp; (try with_reducible rfl))
    try simp only [Act.put, List.getElem_toArray, List.getElem_cons_zero, List.getElem_cons_succ, List.setIfInBounds_toArray, List.set_cons_zero, List.set_cons_succ]
    refine wpAnyH_take (i := 8) (v := ?_) rfl (by kernel_rfl) (by kernel_rfl) (by kernel_rfl) (fun _ _ _ h => h) (Or.inl ⟨by rfl, fun w hSw => ?_⟩) hHeld ?_
    rotate_left
    · ((try dsimp only at hSw); go_split_ands; go_simp; (try with_reducible rfl))
    try simp only [Act.put, List.getElem_toArray, List.getElem_cons_zero, List.getElem_cons_succ, List.setIfInBounds_toArray, List.set_cons_zero, List.set_cons_succ]
    refine wpAnyH_take (i := 9) (v := ?_) rfl (by kernel_rfl) (by kernel_rfl) (by kernel_rfl) (fun _ _ _ h => h) (Or.inl ⟨by rfl, fun w hSw => ?_⟩) hHeld ?_
    rotate_left
    · ((try dsimp only at hSw); go_split_ands; go_simp; (try with_reducible rfl))
    try simp only [Act.put, List.getElem_toArray, List.getElem_cons_zero, List.getElem_cons_succ, List.setIfInBounds_toArray, List.set_cons_zero, List.set_cons_succ]
    refine wpAnyH_take (i := 10) (v := ?_) rfl (by kernel_rfl) (by kernel_rfl) (by kernel_rfl) (fun _ _ _ h => h) (Or.inl ⟨by rfl, fun w hSw => ?_⟩) hHeld ?_
    rotate_left
    · ((try dsimp only at hSw); go_split_ands; go_simp; (try with_reducible rfl))
    try simp only [Act.put, List.getElem_toArray, List.getElem_cons_zero, List.getElem_cons_succ, List.setIfInBounds_toArray, List.set_cons_zero, List.set_cons_succ]
    clear hs1 hs2 hw
    refine wpAnyH_ready (rs := [0]) (by kernel_rfl) (by simp) ?_
    refine AllReadyH.cons rfl (fun K hK => ?_) AllReadyH.nil
    try simp only [List.getElem_toArray, List.getElem_cons_zero, List.getElem_cons_succ]
    go_simp
    refine hK.out _ _ (((k07.next HBQ.out).alloc _).cell) (fun hHeldN => ?_)
    clear hHeld hK K
    have hHeld := hHeldN
    clear hHeldN
    try simp only [Act.put, List.getElem_toArray, List.getElem_cons_zero, List.getElem_cons_succ, List.setIfInBounds_toArray, List.set_cons_zero, List.set_cons_succ]
    have OA0 : Hid (AtomsO (wq.alloc (.cells #[] tA)) W7.heap.size (.slice (some ⟨wq.heap.size, 0, none⟩) 0 0) []) := Lib.hid ((AtomsO.empty wq).lower hzq)
    replace HBQ := Lib.hid (HBQ.out.alloc hzq (.cells #[] tA))
    have hzq2 : W7.heap.size ≤ (wq.alloc (.cells #[] tA)).heap.size := by simp; omega
    generalize wq.alloc (.cells #[] tA) = wz at HBQ OA0 hzq2 hHeld ⊢
    refine wpAnyH_ready (rs := [5]) (by kernel_rfl) (by simp) ?_
    refine AllReadyH.cons rfl (fun K hK => ?_) AllReadyH.nil
    skip
    (refine stepALm (base := W7.heap.size) (n := i) (zs := a.atoms.take i) rfl _ _ rfl rfl OA0.out rfl HL1.out.symm (hT.out.below (bgo HB7.out HBQ.out)) rfl HL1.out.symm (by omega) hzq2 ?_; intro A8 c8 w8 o8 hg8 hB8; replace HBQ := Lib.hid (HBQ.out.trans hB8); have OA1 := Lib.hid o8; have hzq3 := Nat.le_trans hzq2 hB8.size; clear o8 hg8 hB8 OA0)
    refine hK.out _ _ ((k07.next HBQ.out).cell) (fun hHeldN => ?_)
    clear hHeld hK K
    have hHeld := hHeldN
    clear hHeldN
    try simp only [Act.put, List.getElem_toArray, List.getElem_cons_zero, List.getElem_cons_succ, List.setIfInBounds_toArray, List.set_cons_zero, List.set_cons_succ]
    refine wpAnyH_ready (rs := [11]) (by kernel_rfl) (by simp) ?_
    refine AllReadyH.cons rfl (fun K hK => ?_) AllReadyH.nil
    skip
    (refine stepALm (base := W7.heap.size) (n := a.atoms.length - 1) (zs := withoutL a.atoms i) rfl _ _ rfl rfl OA1.out rfl HL2.out.symm (hD.out.below (bgo HB7.out HBQ.out)) rfl (by omega) (by omega) hzq3 ?_; intro A9 c9 w9 o9 hg9 hB9; replace HBQ := Lib.hid (HBQ.out.trans hB9); have OA2 := Lib.hid o9; have hzq4 := Nat.le_trans hzq3 hB9.size; clear o9 hg9 hB9 OA1)
    refine hK.out _ _ ((k07.next HBQ.out).cell) (fun hHeldN => ?_)
    clear hHeld hK K
    have hHeld := hHeldN
    clear hHeldN
    try simp only [Act.put, List.getElem_toArray, List.getElem_cons_zero, List.getElem_cons_succ, List.setIfInBounds_toArray, List.set_cons_zero, List.set_cons_succ]
    refine wpAnyH_take (i := 12) (v := ?_) rfl (by kernel_rfl) (by kernel_rfl) (by kernel_rfl) (fun _ _ _ h => h) (Or.inl ⟨by rfl, fun w hSw => ?_⟩) hHeld ?_
    rotate_left
    · ((try dsimp only at hSw); go_split_ands; go_simp; (try with_reducible rfl))
    try simp only [Act.put, List.getElem_toArray, List.getElem_cons_zero, List.getElem_cons_succ, List.setIfInBounds_toArray, List.set_cons_zero, List.set_cons_succ]
    have kE9 := kE7.next HBQ.out
    have qkE9 := kE9.cell
    have rkE9 := kE9.frozen
    have lkE9 := kE9.lt
    refine wpAnyH_ready (rs := [13]) (by kernel_rfl) (by simp) ?_
    refine AllReadyH.cons rfl (fun K hK => ?_) AllReadyH.nil
    try simp only [List.getElem_toArray, List.getElem_cons_zero, List.getElem_cons_succ]
    go_simp
    refine hK.out _ _ (((k07.next HBQ.out).far (p := ⟨yE, 1, none⟩) (by simp only; omega) _).cell) (fun hHeldN => ?_)
    clear hHeld hK K
    have hHeld := hHeldN
    clear hHeldN
    try simp only [Act.put, List.getElem_toArray, List.getElem_cons_zero, List.getElem_cons_succ, List.setIfInBounds_toArray, List.set_cons_zero, List.set_cons_succ]
    refine wpAnyH_done (by kernel_rfl) ?_ _
    refine NoPanic.normal ?_
    clear qkE9 rkE9 lkE9 hHeld
    have kE10 : Blk (w9.setCell ⟨yE, 1, none⟩ (.slice A9 (a.atoms.length - 1) c9)) yE tAs #[.slice A6 (a.facts.length + 1) c6, .slice A9 (a.atoms.length - 1) c9] := by
      have := kE9.set_ 1 (.slice A9 (a.atoms.length - 1) c9)
      simpa using this
    have k010 := (k07.next HBQ.out).far (p := ⟨yE, 1, none⟩) (by simp only; omega) (.slice A9 (a.atoms.length - 1) c9)
    have kx10 := (kx7.next HBQ.out).far (p := ⟨yE, 1, none⟩) (by simp only; omega) (.slice A9 (a.atoms.length - 1) c9)
    have OE1 := Lib.hid ((O17.out.below HBQ.out).setT kE9 (by decide) 1 (.slice A9 (a.atoms.length - 1) c9))
    have OE2 := Lib.hid ((OA2.out.lower (base' := w.heap.size) HB7.out.size).setT kE9 (by decide) 1 (.slice A9 (a.atoms.length - 1) c9))
    have HB10 := Lib.hid ((bgo HB7.out HBQ.out).setCell (p := ⟨yE, 1, none⟩) (by simp only; omega) (.slice A9 (a.atoms.length - 1) c9))
    have hz10 : yE < (w9.setCell ⟨yE, 1, none⟩ (.slice A9 (a.atoms.length - 1) c9)).heap.size := kE10.lt
    clear k07 kx7 kE7 O17 HB7 hz7 HBQ OA2 kE9 hzq hzq2 hzq3 hzq4
    generalize (w9.setCell ⟨yE, 1, none⟩ (.slice A9 (a.atoms.length - 1) c9)) = W8 at kE10 k010 kx10 OE1 OE2 HB10 hz10 ⊢
    (replace qk010 := k010.cell; replace rk010 := k010.frozen; replace lk010 := k010.lt; replace qkx10 := kx10.cell; replace rkx10 := kx10.frozen; replace lkx10 := kx10.lt)
    go_wp2_with fail
    refine (c_l10Front _ a ⟨1, x.a, (m : Int)⟩ i _ (hV.out.V.below HB10.out) HVa.out HHi.out).mono ?_
    rintro e w11 ⟨F2, d2, G2, g2, rfl, oF, hB11⟩
    have OFX := Lib.hid oF
    have HBX := Lib.hid hB11
    have hz11 := hB11.size
    clear oF hB11 qk010 rk010 lk010 qkx10 rkx10 lkx10
    go_upto_region 9 with fail
    replace OFX := Lib.hid (OFX.out.below (bbox (Below.refl _ _) (.cells #[.slice F2 a.facts.length d2, .slice G2 a.atoms.length g2] tAs)))
    replace HBX := Lib.hid (bbox HBX.out (.cells #[.slice F2 a.facts.length d2, .slice G2 a.atoms.length g2] tAs))
    have kF : Blk (w11.alloc (.cells #[.slice F2 a.facts.length d2, .slice G2 a.atoms.length g2] tAs)) w11.heap.size tAs #[.slice F2 a.facts.length d2, .slice G2 a.atoms.length g2] := Blk.new _ _ _
    have hzF : w11.heap.size + 1 ≤ (w11.alloc (.cells #[.slice F2 a.facts.length d2, .slice G2 a.atoms.length g2] tAs)).heap.size := by simp
    generalize (w11.alloc (.cells #[.slice F2 a.facts.length d2, .slice G2 a.atoms.length g2] tAs)) = W9 at OFX HBX kF hzF ⊢
    obtain ⟨yF, hyF⟩ : ∃ y, y = w11.heap.size := ⟨_, rfl⟩
    rw [← hyF] at kF hzF hz11 ⊢
    clear hyF
    have OF1 := Lib.hid OFX.out.parts.1
    have OF2 := Lib.hid OFX.out.parts.2
    clear OFX
    simp only at OF1 OF2
    have kx11 := kx10.next HBX.out
    (replace qkF := kF.cell; replace rkF := kF.frozen; replace lkF := kF.lt; replace qkx11 := kx11.cell; replace rkx11 := kx11.frozen; replace lkx11 := kx11.lt)
    go_upto_region 10 with (at_builtin; refine appFL (ys := [⟨false, x.a, x.b⟩]) (base := W8.heap.size) rfl _ _ rfl rfl (OF1.out.below bel) rfl (FactsV.one (f := ⟨false, x.a, x.b⟩) (Blk.new W9 tF _)) (by simp <;> omega) (by simp <;> omega) ?_; intro A12 c12 w12 o12 hg12 hB12; have kO := OF1.out.below (w' := W9.alloc (.cells #[.bool false, .int .i64 x.a, .int .i64 x.b] tF)) bel; have kF12 := Blk.grownO (hg := hg12) (kF.alloc _) kO.1 (by decide); have OF22 := Lib.hid (AtomsO.grownF (OF2.out.below (w' := W9.alloc (.cells #[.bool false, .int .i64 x.a, .int .i64 x.b] tF)) bel) kO hg12); have HBX12 : Hid (Below W8.heap.size W8 w12) := Lib.hid ((bbox HBX.out _).trans hB12); have OF12 := Lib.hid o12; clear hB12 hg12 o12 kO qkF rkF lkF qkx11 rkx11 lkx11; (replace qkF12 := kF12.cell; replace rkF12 := kF12.frozen; replace lkF12 := kF12.lt))
    simp only [List.length_append, List.length_cons, List.length_nil, Nat.zero_add] at OF12 ⊢
    have kF13 : Blk (w12.setCell ⟨yF, 0, none⟩ (.slice A12 (a.facts.length + 1) c12)) yF tAs #[.slice A12 (a.facts.length + 1) c12, .slice G2 a.atoms.length g2] := by
      have := kF12.set_ 0 (.slice A12 (a.facts.length + 1) c12)
      simpa using this
    have OF13 := Lib.hid (OF12.out.setT kF12 (by decide) 0 (.slice A12 (a.facts.length + 1) c12))
    have OF23 := Lib.hid (OF22.out.setT kF12 (by decide) 0 (.slice A12 (a.facts.length + 1) c12))
    have HBX13 := Lib.hid (HBX12.out.setCell (p := ⟨yF, 0, none⟩) (by simp only; omega) (.slice A12 (a.facts.length + 1) c12))
    clear kF kx11 OF1 OF2 HBX kF12 OF12 OF22 HBX12 qkF12 rkF12 lkF12
    generalize (w12.setCell ⟨yF, 0, none⟩ (.slice A12 (a.facts.length + 1) c12)) = W10 at kF13 OF13 OF23 HBX13 ⊢
    have kx13 := kx10.next HBX13.out
    (replace qkF13 := kF13.cell; replace rkF13 := kF13.frozen; replace lkF13 := kF13.lt; replace qkx13 := kx13.cell; replace rkx13 := kx13.frozen; replace lkx13 := kx13.lt)
    go_upto_region 11 with (at_builtin; refine appAL (ys := [⟨2, (m : Int), x.b⟩]) (base := W8.heap.size) rfl _ _ rfl rfl (OF23.out.below bel) (by rfl) (AtomsV.one (f := ⟨2, (m : Int), x.b⟩) (Blk.new W10 tA _)) (by simp <;> omega) (by have := HBX13.out.size; simp <;> omega) ?_; intro A14 c14 w14 o14 hg14 hB14; have kO := OF23.out.below (w' := W10.alloc (.cells #[.int .i64 2, .int .i64 m, .int .i64 x.b] tA)) bel; have kF14 := Blk.grownO (hg := hg14) (kF13.alloc _) kO.1 (by decide); have OF14 := Lib.hid (FactsO.grownA (OF13.out.below (w' := W10.alloc (.cells #[.int .i64 2, .int .i64 m, .int .i64 x.b] tA)) bel) kO hg14); have HBX14 : Hid (Below W8.heap.size W8 w14) := Lib.hid ((bbox HBX13.out _).trans hB14); have OF24 := Lib.hid o14; clear hB14 hg14 o14 kO qkF13 rkF13 lkF13 qkx13 rkx13 lkx13; (replace qkF14 := kF14.cell; replace rkF14 := kF14.frozen; replace lkF14 := kF14.lt))
    simp only [List.length_append, List.length_cons, List.length_nil, Nat.zero_add] at OF24 ⊢
    have hLL : 1 + (withoutL a.atoms i).length + 1 = a.atoms.length + 1 := by omega
    try rw [hLL]
    replace OF24 : Hid (AtomsO w14 W8.heap.size (.slice A14 (a.atoms.length + 1) c14) (([⟨1, x.a, (m : Int)⟩] ++ withoutL a.atoms i) ++ [⟨2, (m : Int), x.b⟩])) := Lib.hid (by
      have h24 := OF24.out
      try rw [hLL] at h24
      exact h24)
    have kF15 : Blk (w14.setCell ⟨yF, 1, none⟩ (.slice A14 (a.atoms.length + 1) c14)) yF tAs #[.slice A12 (a.facts.length + 1) c12, .slice A14 (a.atoms.length + 1) c14] := by
      have := kF14.set_ 1 (.slice A14 (a.atoms.length + 1) c14)
      simpa using this
    have OF15 := Lib.hid (OF14.out.setT kF14 (by decide) 1 (.slice A14 (a.atoms.length + 1) c14))
    have OF25 := Lib.hid (OF24.out.setT kF14 (by decide) 1 (.slice A14 (a.atoms.length + 1) c14))
    have HBX15 := Lib.hid (HBX14.out.setCell (p := ⟨yF, 1, none⟩) (by simp only; omega) (.slice A14 (a.atoms.length + 1) c14))
    clear kF13 kx13 OF13 OF23 HBX13 kF14 OF14 OF24 HBX14 qkF14 rkF14 lkF14 hLL
    generalize (w14.setCell ⟨yF, 1, none⟩ (.slice A14 (a.atoms.length + 1) c14)) = W12 at kF15 OF15 OF25 HBX15 ⊢
    have hz15 := HBX15.out.size
    have kE15 := kE10.next HBX15.out
    have OE : Hid (AsnO W12 w.heap.size (.agg #[.slice A6 (a.facts.length + 1) c6, .slice A9 (a.atoms.length - 1) c9]) (emptyX a x i)) := Lib.hid ⟨_, _, rfl, OE1.out.below HBX15.out, OE2.out.below HBX15.out⟩
    have OX : Hid (AsnO W12 W8.heap.size (.agg #[.slice A12 (a.facts.length + 1) c12, .slice A14 (a.atoms.length + 1) c14]) (fullX a x i (m : Int))) := Lib.hid ⟨_, _, rfl, OF15.out, OF25.out⟩
    have HB15 := Lib.hid (bgo HB10.out HBX15.out)
    have hLE : Hid ((emptyX a x i).facts.length ≤ 1000 ∧ (emptyX a x i).atoms.length ≤ 1000) := Lib.hid (by simp only [emptyX, List.length_append, List.length_cons, List.length_nil]; omega)
    have hLF : Hid ((fullX a x i (m : Int)).facts.length ≤ 1000 ∧ (fullX a x i (m : Int)).atoms.length ≤ 1000) := Lib.hid (by simp only [fullX, List.length_append, List.length_cons, List.length_nil]; omega)
    clear OE1 OE2 HBX15 OF15 OF25 kE10 k010 kx10 HB10
    have hni : (n : Int) ≤ 6 := by omega
    (replace qkE15 := kE15.cell; replace rkE15 := kE15.frozen; replace lkE15 := kE15.lt)
    go_wp2_with fail
    refine (HEH.out w.heap.size _ _ _ _ B cB _ OE.out.C (HFL.out.below HB15.out) hLE.out.1 hLE.out.2).mono ?_
    rintro e w16 ⟨r1, vs1, l1, rfl, o1, hl1, HR1, hB16⟩
    obtain ⟨R1, z1, rfl⟩ := o1.form
    have O1 := Lib.hid o1
    have HR1' := Lib.hid HR1
    replace OX := Lib.hid (OX.out.below hB16)
    have kF16 := kF15.next hB16
    have HB16 := Lib.hid (bgo HB15.out hB16)
    have hz16 := hB16.size
    clear o1 HR1 hB16 HB15 kF15 kE15 qkE15 rkE15 lkE15 OE
    (replace qkF16 := kF16.cell; replace rkF16 := kF16.frozen; replace lkF16 := kF16.lt)
    go_wp2_with fail
    refine (HFH.out m W8.heap.size _ _ _ _ B cB _ OX.out.C (HFL.out.below HB16.out) hLF.out.1 hLF.out.2).mono ?_
    rintro e w17 ⟨r2, vs2, l2, rfl, o2, hl2, HR2, hB17⟩
    obtain ⟨R2, z2, rfl⟩ := o2.form
    have O2 := Lib.hid o2
    have HR2' := Lib.hid HR2
    have HB17' := Lib.hid hB17
    have HB17 := Lib.hid (bgo HB16.out hB17)
    have hz17 := hB17.size
    have hp := HN.out
    have hll : l1.length + l2.length ≤ 1049600 := by omega
    have hll2 : Hid (l1.length + l2.length ≤ 2 ^ (n + 1)) := Lib.hid (by rw [Nat.pow_succ]; omega)
    clear o2 HR2 hB17 HB16 kF16 qkF16 rkF16 lkF16 OX hl1 hl2 hp
    have HE1 : Hid (∀ e1, exposeF n (emptyX a x i) t Ks = none → (listF n a x i t Ks).isSome = e1 → e1 = false) := Lib.hid fun e1 h h' => by rw [← h', list_first HNT.out h]; rfl
    have HBoth : Hid ((listF n a x i t Ks).isSome = ((exposeF n (emptyX a x i) t Ks).isSome && (exposeF n (fullX a x i (m : Int)) t Ks).isSome) ∧ (listF n a x i t Ks = none ∨ listF n a x i t Ks = some (l1 ++ l2))) := Lib.hid (by
      rcases HR1'.out with e1 | e1
      · rw [list_first HNT.out e1, e1]; exact ⟨rfl, .inl rfl⟩
      · rcases HR2'.out with e2 | e2
        · rw [list_second HNT.out e2, e1, e2]; exact ⟨rfl, .inl rfl⟩
        · rw [list_both HNT.out e1 e2, e1, e2]; exact ⟨rfl, .inr rfl⟩)
    clear HE1 HR1' HR2'
    generalize (exposeF n (emptyX a x i) t Ks).isSome = p1 at HBoth ⊢
    generalize (exposeF n (fullX a x i (m : Int)) t Ks).isSome = p2 at HBoth ⊢
    cases p1 <;> cases p2
    all_goals
      go_wp2_with (at_builtin; refine wpList_appL (base := w.heap.size) rfl _ _ 28 rfl Try.underlying28 infoAs2 rfl (by decide) (by decide) rfl (own_lower (own_below O1.out.row HB17'.out) (by omega)) rfl O2.out.rd.raw O2.out.els.one_cell hll (by omega) ?_; intro v18 w18 hO18 hg18 hB18; have HR18 := Lib.hid hO18; have HG18 := Lib.hid hg18; have HB18 := Lib.hid (HB17.out.trans hB18); obtain ⟨A18, d18, rfl, -⟩ := own_reads hO18 hll; clear hO18 hg18 hB18)
      go_ret2
      exact ⟨_, vs1 ++ vs2, l1 ++ l2, by rw [HBoth.out.1]; rfl, (O1.out.lower (by omega)).cat HB17'.out O2.out (by omega) (Nat.le_refl _) hll HG18.out HR18.out, by rw [List.length_append]; exact hll2.out, HBoth.out.2, HB18.out⟩
--@
end Go.Proofs.Ytlmjjflalmegfaa
