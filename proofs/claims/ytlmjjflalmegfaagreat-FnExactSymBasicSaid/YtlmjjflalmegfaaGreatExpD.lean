/- Exposing cells: impl.exposeListAt. Printed by genExpD.py. -/
import Derived.Test.YtlmjjflalmegfaaGreatMExpC
import Derived.Deep.DeepCutAuto
set_option linter.unusedSimpArgs false
set_option linter.unusedVariables false
namespace Go.Proofs.YtlmjjflalmegfaaGreat
open Go Go.RowKit Go.Proofs
attribute [local go_sem ↓] Go.wp_at_zero Go.wp_at_succ

theorem list_none {n : Nat} {a : Asn} {x : Atm} {i : Nat} {t : Int} {K : Nat} (h : newT (tset (termsL a) ||| tins K t) = none) : listF n a x i t K = none := by unfold listF; rw [h]
theorem list_bad {n m : Nat} {a : Asn} {x : Atm} {i : Nat} {t : Int} {K : Nat} (h : newT (tset (termsL a) ||| tins K t) = some m) (hv : (emptyX a x i).valid = false ∨ (fullX a x i m).valid = false) : listF n a x i t K = none := by
  unfold listF
  rw [h]
  rcases hv with hv | hv
  · simp only [expose_bad hv]
  · simp only [expose_bad hv]
    cases exposeF n (emptyX a x i) t K <;> rfl
theorem list_first {n m : Nat} {a : Asn} {x : Atm} {i : Nat} {t : Int} {K : Nat} (h : newT (tset (termsL a) ||| tins K t) = some m) (h1 : exposeF n (emptyX a x i) t K = none) : listF n a x i t K = none := by
  unfold listF; rw [h]; simp only [h1]
theorem list_second {n m : Nat} {a : Asn} {x : Atm} {i : Nat} {t : Int} {K : Nat} (h : newT (tset (termsL a) ||| tins K t) = some m) (h1 : exposeF n (fullX a x i m) t K = none) : listF n a x i t K = none := by
  unfold listF; rw [h]; simp only [h1]
  cases exposeF n (emptyX a x i) t K <;> rfl
theorem list_both {n m : Nat} {a : Asn} {x : Atm} {i : Nat} {t : Int} {K : Nat} {l1 l2 : List Asn} (h : newT (tset (termsL a) ||| tins K t) = some m) (h1 : exposeF n (emptyX a x i) t K = some l1) (h2 : exposeF n (fullX a x i m) t K = some l2) : listF n a x i t K = some (l1 ++ l2) := by
  unfold listF; rw [h]; simp only [h1, h2]

theorem c_joinFn {lo hi lo' hi' : Nat} (A A' : Option Addr) (c c' n : Nat) (fs gs : List Fct) (w : World) (h : FactsV w lo hi A fs) (h' : FactsV w lo' hi' A' gs) (hn : n = fs.length + gs.length) (hl : n ≤ 1049600) :
    Calls Tryz.prog 85 #[.slice A fs.length c, .slice A' gs.length c'] w fun e w' => ∃ F d, e = .returned (.slice F n d) ∧ FactsO w' w.heap.size (.slice F n d) (fs ++ gs) ∧ Below w.heap.size w w' := by
  refine (c_joinF A A' c c' fs gs w h h' (by omega)).mono ?_
  rintro e w' ⟨r, rfl, o, hB⟩
  obtain ⟨F, d, rfl, -⟩ := o.reads
  rw [List.length_append, ← hn] at o ⊢
  exact ⟨F, d, rfl, o, hB⟩
theorem c_joinAn {lo hi lo' hi' : Nat} (A A' : Option Addr) (c c' n : Nat) (fs gs : List Atm) (w : World) (h : AtomsV w lo hi A fs) (h' : AtomsV w lo' hi' A' gs) (hn : n = fs.length + gs.length) (hl : n ≤ 1049600) :
    Calls Tryz.prog 87 #[.slice A fs.length c, .slice A' gs.length c'] w fun e w' => ∃ F d, e = .returned (.slice F n d) ∧ AtomsO w' w.heap.size (.slice F n d) (fs ++ gs) ∧ Below w.heap.size w w' := by
  refine (c_joinA A A' c c' fs gs w h h' (by omega)).mono ?_
  rintro e w' ⟨r, rfl, o, hB⟩
  obtain ⟨F, d, rfl, -⟩ := o.reads
  rw [List.length_append, ← hn] at o ⊢
  exact ⟨F, d, rfl, o, hB⟩
section
variable {ops : Array Oper} {o : Oper} {a : Act} {K : Act → World → Prop} {Q : Exit → Act → World → Prop} {E : Prop} {w : World} {base lo hi c n : Nat} {v : Value} {A : Option Addr}
theorem stepALn (hgd : o.guard = none) (s x : Operand) (ho : o.op = .call { callee := .builtin .append, args := #[s, x], argTypes := #[24, 24] })
    {xs ys : List Atm} (hs : a.eval s = v) (hown : AtomsO w base v xs) (hx : a.eval x = .slice A ys.length c) (hR : AtomsV w lo hi A ys) (hn : n = xs.length + ys.length) (hl : n ≤ 1049600) (hb : base ≤ w.heap.size)
    (h : ∀ A' c' w', AtomsO w' base (.slice A' n c') (xs ++ ys) → w.grownBy w' v.ownBlock → Below base w w' → K (a.put o.dst (.slice A' n c')) w') : if Region.wanted o (yielded ops a.tmps) = true then Oper.wp Tryz.prog o a w K Q else E := by
  refine stepAL hgd s x ho hs hown hx hR (by omega) hb ?_
  intro A' c' w' h1 h2 h3
  rw [List.length_append, ← hn] at h1 ⊢
  exact h A' c' w' h1 h2 h3
end
theorem A2O.rd {w : World} {base n c : Nat} {A : Option Addr} {vs : List Value} {ss : List Asn} (h : A2O w base (.slice A n c) vs ss) : Rd w base w.heap.size 2 A ss.length vs := by
  obtain ⟨A', c', e, h1⟩ := own_reads h.row h.lim
  injection e with e1 e2 e3
  subst e1
  exact h1
theorem A2O.join {w1 w2 w3 : World} {b1 b2 b3 base : Nat} {v1 v2 r : Value} {vs1 vs2 : List Value} {l1 l2 : List Asn} (h1 : A2O w1 b1 v1 vs1 l1) (hB1 : Below w1.heap.size w1 w2) (h2 : A2O w2 b2 v2 vs2 l2) (hb2 : w1.heap.size ≤ b2) (hB2 : Below w2.heap.size w2 w3)
    (hb : base ≤ b1) (hbb : base ≤ b2) (hr : w3.ownsRow b3 tAs 2 r (l1.length + l2.length) (vs1 ++ vs2)) (hb3 : base ≤ b3) (hl : l1.length + l2.length ≤ 1049600) : A2O w3 base r (vs1 ++ vs2) (l1 ++ l2) :=
  ⟨by rw [List.length_append]; exact own_lower hr hb3, by rw [List.length_append]; exact hl, (((h1.els.below hB1).lower hb).cat h2.els hbb fun k hk => (h1.els.und k hk).mono hb2).below hB2⟩
--@ impl.exposeListAt
set_option maxRecDepth 100000 in
set_option maxHeartbeats 12800000 in
theorem c_exposeListAt (n : Nat) (a : Asn) (x : Atm) (i : Nat) (t : Int) (Ks : Nat) (hv : a.valid = true) (hx : a.atoms[i]? = some x) (hKs : Ks < 512) (hn : n ≤ 6)
    (HE : ExpC n (emptyX a x i) t Ks) (HF : ∀ m : Nat, ExpC n (fullX a x i (m : Int)) t Ks) : ExpL n a x i t Ks := by
  intro lo hi0 v w h hhi
  have hV := Lib.hid h
  obtain ⟨A1, c1, A2, c2, rfl, h1, h2, -⟩ := h
  have H1 := Lib.hid h1
  have hvl := valid_len hv
  obtain ⟨hi, hxe⟩ := List.getElem?_eq_some_iff.1 hx
  have hwl := withoutL_len hi
  obtain ⟨b, o, rfl, g0, g1, g2⟩ := h2.at hi
  rw [hxe] at g0 g1 g2
  have hbl := block_lt_of_cell g0
  simp only at hbl
  have hii : (i : Int) < (a.atoms.length : Int) := by omega
  have HEH := Lib.hid HE
  have HFH := Lib.hid HF
  have HK := Lib.hid (tins_lt hKs t)
  have HN := Lib.hid (Nat.pow_le_pow_right (show 0 < 2 from by decide) hn)
  clear h1 h2 HE HF hx hxe hv hhi
  go_enter Tryz.func124, Tryz.ntmps124
  have k0 : Blk (w.alloc (.cells #[.slice A1 a.facts.length c1, .slice (some ⟨b, o, none⟩) a.atoms.length c2] tAs)) w.heap.size tAs #[.slice A1 a.facts.length c1, .slice (some ⟨b, o, none⟩) a.atoms.length c2] := blks
  have hB : Below w.heap.size w (w.alloc (.cells #[.slice A1 a.facts.length c1, .slice (some ⟨b, o, none⟩) a.atoms.length c2] tAs)) := bel
  go_upto_region 2 with fail
  have hB2 := bbox hB (.cells #[.int .i64 x.kind, .int .i64 x.a, .int .i64 x.b] tA)
  have kx : Blk ((w.alloc (.cells #[.slice A1 a.facts.length c1, .slice (some ⟨b, o, none⟩) a.atoms.length c2] tAs)).alloc (.cells #[.int .i64 x.kind, .int .i64 x.a, .int .i64 x.b] tA)) (w.heap.size + 1) tA #[.int .i64 x.kind, .int .i64 x.a, .int .i64 x.b] := blks
  replace k0 := k0.alloc (.cells #[.int .i64 x.kind, .int .i64 x.a, .int .i64 x.b] tA)
  have hs2 : ((w.alloc (.cells #[.slice A1 a.facts.length c1, .slice (some ⟨b, o, none⟩) a.atoms.length c2] tAs)).alloc (.cells #[.int .i64 x.kind, .int .i64 x.a, .int .i64 x.b] tA)).heap.size = w.heap.size + 2 := by simp
  generalize ((w.alloc (.cells #[.slice A1 a.facts.length c1, .slice (some ⟨b, o, none⟩) a.atoms.length c2] tAs)).alloc (.cells #[.int .i64 x.kind, .int .i64 x.a, .int .i64 x.b] tA)) = W2 at k0 kx hB2 hs2 ⊢
  clear hB g0 g1 g2
  have HB2 := Lib.hid hB2
  clear hB2
  (replace qk0 := k0.cell; replace rk0 := k0.frozen; replace lk0 := k0.lt)
  go_wp2_with fail
  refine (c_impl_without _ a i _ (hV.out.below HB2.out) hi).mono ?_
  rintro e w3 ⟨r, rfl, oR, hB3⟩
  obtain ⟨G1, d1, rfl, -⟩ := oR.reads
  have OR := Lib.hid oR
  have HB3 := Lib.hid (bgo HB2.out hB3)
  replace k0 := k0.next hB3
  replace kx := kx.next hB3
  have hs3 : w.heap.size + 2 ≤ w3.heap.size := by have := hB3.size; omega
  have hs3' := hB3.size
  clear hB3 oR HB2
  (replace qk0 := k0.cell; replace rk0 := k0.frozen; replace lk0 := k0.lt)
  go_wp2_with fail
  clear qk0 rk0 lk0
  refine wp_region_noPanic ?_
  refine wp_region_held_drew (S := (fun w' => ∀ i, w'.cell? ⟨w.heap.size, i, none⟩ = #[.slice A1 a.facts.length c1, .slice (some ⟨b, o, none⟩) a.atoms.length c2][i]?)) (by kernel_rfl) (k0.drew.cell) (fun hHeld => ?_)
  refine wpAnyH_take (i := 0) (v := ?_) rfl (by kernel_rfl) (by kernel_rfl) (by kernel_rfl) (fun _ _ _ h => h) (Or.inl ⟨by rfl, fun w hSw => ?_⟩) hHeld ?_
  rotate_left
  · ((try dsimp only at hSw); go_split_ands; go_simp; (try with_reducible rfl))
  try simp only [Act.put, List.getElem_toArray, List.getElem_cons_zero, List.getElem_cons_succ, List.setIfInBounds_toArray, List.set_cons_zero, List.set_cons_succ]
  refine wpAnyH_take (i := 1) (v := ?_) rfl (by kernel_rfl) (by kernel_rfl) (by kernel_rfl) (fun _ _ _ h => h) (Or.inl ⟨by rfl, fun w hSw => ?_⟩) hHeld ?_
  rotate_left
  · ((try dsimp only at hSw); go_split_ands; go_simp; (try with_reducible rfl))
  try simp only [Act.put, List.getElem_toArray, List.getElem_cons_zero, List.getElem_cons_succ, List.setIfInBounds_toArray, List.set_cons_zero, List.set_cons_succ]
  refine wpAnyH_take (i := 2) (v := ?_) rfl (by kernel_rfl) (by kernel_rfl) (by kernel_rfl) (fun _ _ _ h => h) (Or.inl ⟨by rfl, fun w hSw => ?_⟩) hHeld ?_
  rotate_left
  · ((try dsimp only at hSw); go_split_ands; go_simp; (try with_reducible rfl))
  try simp only [Act.put, List.getElem_toArray, List.getElem_cons_zero, List.getElem_cons_succ, List.setIfInBounds_toArray, List.set_cons_zero, List.set_cons_succ]
  refine wpAnyH_ready (rs := [3]) (by kernel_rfl) (by simp) ?_
  refine AllReadyH.cons rfl (fun K hK => ?_) AllReadyH.nil
  try simp only [List.getElem_toArray, List.getElem_cons_zero, List.getElem_cons_succ]
  (go_simp; refine (c_impl_with Ks t _ hKs).mono ?_; rintro e w4 ⟨rfl, rfl⟩)
  refine hK.out _ _ (k0.drew.cell) (fun hHeldN => ?_)
  clear hHeld hK K
  have hHeld := hHeldN
  clear hHeldN
  try simp only [Act.put, List.getElem_toArray, List.getElem_cons_zero, List.getElem_cons_succ, List.setIfInBounds_toArray, List.set_cons_zero, List.set_cons_succ]
  refine wpAnyH_ready (rs := [4]) (by kernel_rfl) (by simp) ?_
  refine AllReadyH.cons rfl (fun K hK => ?_) AllReadyH.nil
  try simp only [List.getElem_toArray, List.getElem_cons_zero, List.getElem_cons_succ]
  (go_simp; refine (c_impl_newVariable _ a (tins Ks t) _ (hV.out.V.below (HB3.out.drew)) HK.out).mono ?_; rintro e w4 ⟨rfl, hB4⟩; replace hB4 : Below w3.heap.size w3 w4 := (Below.refl _ _).drew.trans hB4; replace k0 := k0.next hB4; replace kx := kx.next hB4; have HB4 := Lib.hid (bgo HB3.out hB4); have OR4 := Lib.hid (OR.out.below hB4); have hs4 := hB4.size; clear hB4 OR HB3)
  refine hK.out _ _ (k0.cell) (fun hHeldN => ?_)
  clear hHeld hK K
  have hHeld := hHeldN
  clear hHeldN
  try simp only [Act.put, List.getElem_toArray, List.getElem_cons_zero, List.getElem_cons_succ, List.setIfInBounds_toArray, List.set_cons_zero, List.set_cons_succ]
  refine wpAnyH_take (i := 5) (v := ?_) rfl (by kernel_rfl) (by kernel_rfl) (by kernel_rfl) (fun _ _ _ h => h) (Or.inl ⟨by rfl, fun w hSw => ?_⟩) hHeld ?_
  rotate_left
  · ((try dsimp only at hSw); go_split_ands; go_simp; (try with_reducible rfl))
  try simp only [Act.put, List.getElem_toArray, List.getElem_cons_zero, List.getElem_cons_succ, List.setIfInBounds_toArray, List.set_cons_zero, List.set_cons_succ]
  refine wpAnyH_take (i := 6) (v := ?_) rfl (by kernel_rfl) (by kernel_rfl) (by kernel_rfl) (fun _ _ _ h => h) (Or.inl ⟨by rfl, fun w hSw => ?_⟩) hHeld ?_
  rotate_left
  · ((try dsimp only at hSw); go_split_ands; go_simp; (try with_reducible rfl))
  try simp only [Act.put, List.getElem_toArray, List.getElem_cons_zero, List.getElem_cons_succ, List.setIfInBounds_toArray, List.set_cons_zero, List.set_cons_succ]
  refine wpAnyH_take (i := 7) (v := ?_) rfl (by kernel_rfl) (by kernel_rfl) (by kernel_rfl) (fun _ _ _ h => h) (Or.inl ⟨by rfl, fun w hSw => ?_⟩) hHeld ?_
  rotate_left
  · ((try dsimp only at hSw); go_split_ands; go_simp; (try with_reducible rfl))
  try simp only [Act.put, List.getElem_toArray, List.getElem_cons_zero, List.getElem_cons_succ, List.setIfInBounds_toArray, List.set_cons_zero, List.set_cons_succ]
  refine wpAnyH_ready (rs := [8]) (by kernel_rfl) (by simp) ?_
  refine AllReadyH.cons rfl (fun K hK => ?_) AllReadyH.nil
  try simp only [List.getElem_toArray, List.getElem_cons_zero, List.getElem_cons_succ]
  go_simp
  refine hK.out _ _ (k0.cell) (fun hHeldN => ?_)
  clear hHeld hK K
  have hHeld := hHeldN
  clear hHeldN
  try simp only [Act.put, List.getElem_toArray, List.getElem_cons_zero, List.getElem_cons_succ, List.setIfInBounds_toArray, List.set_cons_zero, List.set_cons_succ]
  refine wpAnyH_ready (rs := [9]) (by kernel_rfl) (by simp) ?_
  refine AllReadyH.cons rfl (fun K hK => ?_) AllReadyH.nil
  try simp only [List.getElem_toArray, List.getElem_cons_zero, List.getElem_cons_succ]
  go_simp
  refine hK.out _ _ (k0.cell) (fun hHeldN => ?_)
  clear hHeld hK K
  have hHeld := hHeldN
  clear hHeldN
  try simp only [Act.put, List.getElem_toArray, List.getElem_cons_zero, List.getElem_cons_succ, List.setIfInBounds_toArray, List.set_cons_zero, List.set_cons_succ]
  refine wpAnyH_done (by kernel_rfl) ?_ _
  refine NoPanic.normal ?_
  cases hnt : newT (tset (termsL a) ||| tins Ks t)
  case none =>
    have E := Lib.hid (list_none (n := n) (x := x) (i := i) hnt)
    clear hnt
    go_wp2_with fail
    go_ret2
    exact ⟨_, _, by rw [E.out]; rfl, by rw [E.out]; exact A2O.nil _ _, HB4.out⟩
  case some m =>
    have EI : unusedI (tset (termsL a) ||| tins Ks t) = (m : Int) := by unfold unusedI; rw [hnt]
    rw [EI]
    clear EI
    have HNT := Lib.hid hnt
    clear hnt
    (replace qk0 := k0.cell; replace rk0 := k0.frozen; replace lk0 := k0.lt; replace qkx := kx.cell; replace rkx := kx.frozen; replace lkx := kx.lt)
    go_upto_region 8 with (go_at_call 85; refine (c_joinFn A1 (some ⟨w4.heap.size, 0, none⟩) c1 1 (a.facts.length + 1) a.facts [⟨true, x.a, x.b⟩] _ (H1.out.below (bbox HB4.out _)) (FactsV.one (f := ⟨true, x.a, x.b⟩) (Blk.new _ _ _)) rfl (by omega)).mono ?_; rintro e w5 ⟨F1, e1, rfl, oF, hB5⟩; replace hB5 : Below w4.heap.size w4 w5 := (bbox (Below.refl _ _) _).trans (hB5.mono (by simp)); have OF1 := Lib.hid (oF.lower (base' := w.heap.size) (by simp; omega)); have HB5 := Lib.hid (bgo HB4.out hB5); have hs5 := hB5.size; replace k0 := k0.next hB5; replace kx := kx.next hB5; have OR5 := Lib.hid (OR4.out.below hB5); clear oF hB5 HB4 OR4 qk0 rk0 lk0 qkx rkx lkx; (replace qk0 := k0.cell; replace rk0 := k0.frozen; replace lk0 := k0.lt; replace qkx := kx.cell; replace rkx := kx.frozen; replace lkx := kx.lt))
    have kE : Blk ((w5.alloc (.cells #[.slice F1 (a.facts.length + 1) e1, .slice G1 (withoutL a.atoms i).length d1] tAs)).alloc (.cells #[.int .i64 1, .int .i64 x.a, .int .i64 m] tA)) w5.heap.size tAs #[.slice F1 (a.facts.length + 1) e1, .slice G1 (withoutL a.atoms i).length d1] := (Blk.new _ _ _).alloc _
    have kf : Blk ((w5.alloc (.cells #[.slice F1 (a.facts.length + 1) e1, .slice G1 (withoutL a.atoms i).length d1] tAs)).alloc (.cells #[.int .i64 1, .int .i64 x.a, .int .i64 m] tA)) (w5.heap.size + 1) tA #[.int .i64 1, .int .i64 x.a, .int .i64 m] := Blk.newE (by simp)
    have hbW : Below w5.heap.size w5 ((w5.alloc (.cells #[.slice F1 (a.facts.length + 1) e1, .slice G1 (withoutL a.atoms i).length d1] tAs)).alloc (.cells #[.int .i64 1, .int .i64 x.a, .int .i64 m] tA)) := bbox (bbox (Below.refl _ _) _) _
    have hsW : ((w5.alloc (.cells #[.slice F1 (a.facts.length + 1) e1, .slice G1 (withoutL a.atoms i).length d1] tAs)).alloc (.cells #[.int .i64 1, .int .i64 x.a, .int .i64 m] tA)).heap.size = w5.heap.size + 2 := by simp
    replace k0 := k0.next hbW
    replace kx := kx.next hbW
    have HB := Lib.hid (bgo HB5.out hbW)
    have OF := Lib.hid (OF1.out.below hbW)
    have OR := Lib.hid ((OR5.out.below hbW).lower (base' := w.heap.size) (by omega))
    clear hbW HB5 OF1 OR5 qk0 rk0 lk0 qkx rkx lkx
    generalize ((w5.alloc (.cells #[.slice F1 (a.facts.length + 1) e1, .slice G1 (withoutL a.atoms i).length d1] tAs)).alloc (.cells #[.int .i64 1, .int .i64 x.a, .int .i64 m] tA)) = W at k0 kx kE kf hsW HB OF OR ⊢
    obtain ⟨yE, hyE⟩ : ∃ y, y = w5.heap.size := ⟨_, rfl⟩
    rw [← hyE] at kE kf hsW ⊢
    have hyw : w.heap.size + 2 ≤ yE := by omega
    clear hyE hs5 hs4 hs3 hs3' hs2
    go_cut [16] (fun s16 wc => ∃ (xb : Nat) (F2 : Option Addr) (e2 : Nat) (G2 : Option Addr) (e3 : Nat), s16 = .pointer (some ⟨xb, 0, none⟩) ∧ Hid (FactsO wc W.heap.size (.slice F2 (a.facts.length + 1) e2) (a.facts ++ [⟨false, x.a, x.b⟩])) ∧ Hid (AtomsO wc W.heap.size (.slice G2 (a.atoms.length + 1) e3) (([⟨1, x.a, (m : Int)⟩] ++ withoutL a.atoms i) ++ [⟨2, (m : Int), x.b⟩])) ∧ Blk wc xb tAs #[.slice F2 (a.facts.length + 1) e2, .slice G2 (a.atoms.length + 1) e3] ∧ W.heap.size ≤ xb ∧ Hid (Below W.heap.size W wc))
    case first =>
      (replace qk0 := k0.cell; replace rk0 := k0.frozen; replace lk0 := k0.lt; replace qkx := kx.cell; replace rkx := kx.frozen; replace lkx := kx.lt)
      go_wp2_with fail
      refine wp_region_noPanic ?_
      refine wp_region_held_drew (S := (fun w' => (∀ i, w'.cell? ⟨w.heap.size, i, none⟩ = #[.slice A1 a.facts.length c1, .slice (some ⟨b, o, none⟩) a.atoms.length c2][i]?) ∧ (∀ i, w'.cell? ⟨w.heap.size + 1, i, none⟩ = #[.int .i64 x.kind, .int .i64 x.a, .int .i64 x.b][i]?))) (by kernel_rfl) (⟨k0.drew.cell, kx.drew.cell⟩) (fun hHeld => ?_)
      clear qk0 rk0 lk0 qkx rkx lkx
      have HBQ : Hid (Below W.heap.size W W.drew) := Lib.hid (Below.refl _ _).drew
      have hzq : W.heap.size ≤ W.drew.heap.size := Nat.le_refl _
      generalize W.drew = wq at HBQ hzq hHeld ⊢
      refine wpAnyH_take (i := 0) (v := ?_) rfl (by kernel_rfl) (by kernel_rfl) (by kernel_rfl) (fun _ _ _ h => h) (Or.inl ⟨by rfl, fun w hSw => ?_⟩) hHeld ?_
      rotate_left
      · ((try dsimp only at hSw); go_split_ands; go_simp; (try with_reducible rfl))
      try simp only [Act.put, List.getElem_toArray, List.getElem_cons_zero, List.getElem_cons_succ, List.setIfInBounds_toArray, List.set_cons_zero, List.set_cons_succ]
      refine wpAnyH_take (i := 1) (v := ?_) rfl (by kernel_rfl) (by kernel_rfl) (by kernel_rfl) (fun _ _ _ h => h) (Or.inl ⟨by rfl, fun w hSw => ?_⟩) hHeld ?_
      rotate_left
      · ((try dsimp only at hSw); go_split_ands; go_simp; (try with_reducible rfl))
      try simp only [Act.put, List.getElem_toArray, List.getElem_cons_zero, List.getElem_cons_succ, List.setIfInBounds_toArray, List.set_cons_zero, List.set_cons_succ]
      refine wpAnyH_take (i := 2) (v := ?_) rfl (by kernel_rfl) (by kernel_rfl) (by kernel_rfl) (fun _ _ _ h => h) (Or.inl ⟨by rfl, fun w hSw => ?_⟩) hHeld ?_
      rotate_left
      · ((try dsimp only at hSw); go_split_ands; go_simp; (try with_reducible rfl))
      try simp only [Act.put, List.getElem_toArray, List.getElem_cons_zero, List.getElem_cons_succ, List.setIfInBounds_toArray, List.set_cons_zero, List.set_cons_succ]
      refine wpAnyH_take (i := 3) (v := ?_) rfl (by kernel_rfl) (by kernel_rfl) (by kernel_rfl) (fun _ _ _ h => h) (Or.inl ⟨by rfl, fun w hSw => ?_⟩) hHeld ?_
      rotate_left
      · ((try dsimp only at hSw); go_split_ands; go_simp; (try with_reducible rfl))
      try simp only [Act.put, List.getElem_toArray, List.getElem_cons_zero, List.getElem_cons_succ, List.setIfInBounds_toArray, List.set_cons_zero, List.set_cons_succ]
      refine wpAnyH_take (i := 4) (v := ?_) rfl (by kernel_rfl) (by kernel_rfl) (by kernel_rfl) (fun _ _ _ h => h) (Or.inl ⟨by rfl, fun w hSw => ?_⟩) hHeld ?_
      rotate_left
      · ((try dsimp only at hSw); go_split_ands; go_simp; (try with_reducible rfl))
      try simp only [Act.put, List.getElem_toArray, List.getElem_cons_zero, List.getElem_cons_succ, List.setIfInBounds_toArray, List.set_cons_zero, List.set_cons_succ]
      refine wpAnyH_take (i := 5) (v := ?_) rfl (by kernel_rfl) (by kernel_rfl) (by kernel_rfl) (fun _ _ _ h => h) (Or.inl ⟨by rfl, fun w hSw => ?_⟩) hHeld ?_
      rotate_left
      · ((try dsimp only at hSw); go_split_ands; go_simp; (try with_reducible rfl))
      try simp only [Act.put, List.getElem_toArray, List.getElem_cons_zero, List.getElem_cons_succ, List.setIfInBounds_toArray, List.set_cons_zero, List.set_cons_succ]
      refine wpAnyH_take (i := 6) (v := ?_) rfl (by kernel_rfl) (by kernel_rfl) (by kernel_rfl) (fun _ _ _ h => h) (Or.inl ⟨by rfl, fun w hSw => ?_⟩) hHeld ?_
      rotate_left
      · ((try dsimp only at hSw); go_split_ands; go_simp; (try with_reducible rfl))
      try simp only [Act.put, List.getElem_toArray, List.getElem_cons_zero, List.getElem_cons_succ, List.setIfInBounds_toArray, List.set_cons_zero, List.set_cons_succ]
      refine wpAnyH_take (i := 9) (v := ?_) rfl (by kernel_rfl) (by kernel_rfl) (by kernel_rfl) (fun _ _ _ h => h) (Or.inl ⟨by rfl, fun w hSw => ?_⟩) hHeld ?_
      rotate_left
      · ((try dsimp only at hSw); go_split_ands; go_simp; (try with_reducible rfl))
      try simp only [Act.put, List.getElem_toArray, List.getElem_cons_zero, List.getElem_cons_succ, List.setIfInBounds_toArray, List.set_cons_zero, List.set_cons_succ]
      refine wpAnyH_take (i := 10) (v := ?_) rfl (by kernel_rfl) (by kernel_rfl) (by kernel_rfl) (fun _ _ _ h => h) (Or.inl ⟨by rfl, fun w hSw => ?_⟩) hHeld ?_
      rotate_left
      · ((try dsimp only at hSw); go_split_ands; go_simp; (try with_reducible rfl))
      try simp only [Act.put, List.getElem_toArray, List.getElem_cons_zero, List.getElem_cons_succ, List.setIfInBounds_toArray, List.set_cons_zero, List.set_cons_succ]
      refine wpAnyH_take (i := 12) (v := ?_) rfl (by kernel_rfl) (by kernel_rfl) (by kernel_rfl) (fun _ _ _ h => h) (Or.inl ⟨by rfl, fun w hSw => ?_⟩) hHeld ?_
      rotate_left
      · ((try dsimp only at hSw); go_split_ands; go_simp; (try with_reducible rfl))
      try simp only [Act.put, List.getElem_toArray, List.getElem_cons_zero, List.getElem_cons_succ, List.setIfInBounds_toArray, List.set_cons_zero, List.set_cons_succ]
      refine wpAnyH_take (i := 13) (v := ?_) rfl (by kernel_rfl) (by kernel_rfl) (by kernel_rfl) (fun _ _ _ h => h) (Or.inl ⟨by rfl, fun w hSw => ?_⟩) hHeld ?_
      rotate_left
      · ((try dsimp only at hSw); go_split_ands; go_simp; (try with_reducible rfl))
      try simp only [Act.put, List.getElem_toArray, List.getElem_cons_zero, List.getElem_cons_succ, List.setIfInBounds_toArray, List.set_cons_zero, List.set_cons_succ]
      refine wpAnyH_take (i := 14) (v := ?_) rfl (by kernel_rfl) (by kernel_rfl) (by kernel_rfl) (fun _ _ _ h => h) (Or.inl ⟨by rfl, fun w hSw => ?_⟩) hHeld ?_
      rotate_left
      · ((try dsimp only at hSw); go_split_ands; go_simp; (try with_reducible rfl))
      try simp only [Act.put, List.getElem_toArray, List.getElem_cons_zero, List.getElem_cons_succ, List.setIfInBounds_toArray, List.set_cons_zero, List.set_cons_succ]
      refine wpAnyH_take (i := 15) (v := ?_) rfl (by kernel_rfl) (by kernel_rfl) (by kernel_rfl) (fun _ _ _ h => h) (Or.inl ⟨by rfl, fun w hSw => ?_⟩) hHeld ?_
      rotate_left
      · ((try dsimp only at hSw); go_split_ands; go_simp; (try with_reducible rfl))
      try simp only [Act.put, List.getElem_toArray, List.getElem_cons_zero, List.getElem_cons_succ, List.setIfInBounds_toArray, List.set_cons_zero, List.set_cons_succ]
      refine wpAnyH_ready (rs := [7, 16, 19]) (by kernel_rfl) (by simp) ?_
      refine AllReadyH.cons rfl (fun K hK => ?_) (AllReadyH.cons rfl (fun K hK => ?_) (AllReadyH.cons rfl (fun K hK => ?_) AllReadyH.nil))
      · skip
        try simp only [List.getElem_toArray, List.getElem_cons_zero, List.getElem_cons_succ]
        go_simp
        refine hK.out _ _ ⟨((k0.next HBQ.out).alloc _).cell, ((kx.next HBQ.out).alloc _).cell⟩ (fun hHeldN => ?_)
        clear hHeld hK K
        have hHeld := hHeldN
        clear hHeldN
        try simp only [Act.put, List.getElem_toArray, List.getElem_cons_zero, List.getElem_cons_succ, List.setIfInBounds_toArray, List.set_cons_zero, List.set_cons_succ]
        have hBq : Below wq.heap.size wq (wq.alloc (.cells #[.bool false, .int .i64 x.a, .int .i64 x.b] tF)) := bbox (Below.refl _ _) _
        obtain ⟨y7, hy7⟩ : ∃ y, y = wq.heap.size := ⟨_, rfl⟩
        have hy7b : W.heap.size ≤ y7 := by omega
        replace HBQ := Lib.hid (HBQ.out.trans (hBq.mono hzq))
        replace hzq := Nat.le_trans hzq hBq.size
        try replace k7 := k7.next hBq
        try replace k16 := k16.next hBq
        try replace kBox := kBox.next hBq
        try replace OF2 := Lib.hid (OF2.out.below hBq)
        try replace OJ := Lib.hid (OJ.out.below hBq)
        try replace OB := Lib.hid (OB.out.below hBq)
        have k7 : Blk (wq.alloc (.cells #[.bool false, .int .i64 x.a, .int .i64 x.b] tF)) y7 tF #[.bool false, .int .i64 x.a, .int .i64 x.b] := Blk.newE hy7
        rw [← hy7]
        clear hBq hy7
        generalize wq.alloc (.cells #[.bool false, .int .i64 x.a, .int .i64 x.b] tF) = wq at *
        refine wpAnyH_ready (rs := [8, 16, 19]) (by kernel_rfl) (by simp) ?_
        refine AllReadyH.cons rfl (fun K hK => ?_) (AllReadyH.cons rfl (fun K hK => ?_) (AllReadyH.cons rfl (fun K hK => ?_) AllReadyH.nil))
        · skip
          try simp only [List.getElem_toArray, List.getElem_cons_zero, List.getElem_cons_succ]
          go_simp
          refine (c_joinFn A1 (some ⟨y7, 0, none⟩) c1 1 (a.facts.length + 1) a.facts [⟨false, x.a, x.b⟩] _ (H1.out.below (bgo HB.out HBQ.out)) (FactsV.one (f := ⟨false, x.a, x.b⟩) k7) rfl (by omega)).mono ?_
          rintro e wq ⟨F2, e2, rfl, oF, hBq⟩
          have hbs : W.heap.size ≤ _ := hzq
          replace HBQ := Lib.hid (HBQ.out.trans (hBq.mono hzq))
          replace hzq := Nat.le_trans hzq hBq.size
          try replace k7 := k7.next hBq
          try replace k16 := k16.next hBq
          try replace kBox := kBox.next hBq
          try replace OF2 := Lib.hid (OF2.out.below hBq)
          try replace OJ := Lib.hid (OJ.out.below hBq)
          try replace OB := Lib.hid (OB.out.below hBq)
          have OF2 := Lib.hid (oF.lower (base' := W.heap.size) hbs)
          clear oF hBq hbs
          refine hK.out _ _ ⟨(k0.next HBQ.out).cell, (kx.next HBQ.out).cell⟩ (fun hHeldN => ?_)
          clear hHeld hK K
          have hHeld := hHeldN
          clear hHeldN
          try simp only [Act.put, List.getElem_toArray, List.getElem_cons_zero, List.getElem_cons_succ, List.setIfInBounds_toArray, List.set_cons_zero, List.set_cons_succ]
          refine wpAnyH_ready (rs := [11, 16, 19]) (by kernel_rfl) (by simp) ?_
          refine AllReadyH.cons rfl (fun K hK => ?_) (AllReadyH.cons rfl (fun K hK => ?_) (AllReadyH.cons rfl (fun K hK => ?_) AllReadyH.nil))
          · skip
            try simp only [List.getElem_toArray, List.getElem_cons_zero, List.getElem_cons_succ]
            go_simp
            refine (c_joinAn (some ⟨yE + 1, 0, none⟩) G1 1 d1 a.atoms.length [⟨1, x.a, (m : Int)⟩] (withoutL a.atoms i) _ (AtomsV.one (f := ⟨1, x.a, (m : Int)⟩) (kf.next HBQ.out)) (OR.out.readsI.2.below HBQ.out) (by simp <;> omega) (by omega)).mono ?_
            rintro e wq ⟨G2, e3, rfl, oJ, hBq⟩
            have hbs : W.heap.size ≤ _ := hzq
            replace HBQ := Lib.hid (HBQ.out.trans (hBq.mono hzq))
            replace hzq := Nat.le_trans hzq hBq.size
            try replace k7 := k7.next hBq
            try replace k16 := k16.next hBq
            try replace kBox := kBox.next hBq
            try replace OF2 := Lib.hid (OF2.out.below hBq)
            try replace OJ := Lib.hid (OJ.out.below hBq)
            try replace OB := Lib.hid (OB.out.below hBq)
            have OJ := Lib.hid (oJ.lower (base' := W.heap.size) hbs)
            clear oJ hBq hbs
            refine hK.out _ _ ⟨(k0.next HBQ.out).cell, (kx.next HBQ.out).cell⟩ (fun hHeldN => ?_)
            clear hHeld hK K
            have hHeld := hHeldN
            clear hHeldN
            try simp only [Act.put, List.getElem_toArray, List.getElem_cons_zero, List.getElem_cons_succ, List.setIfInBounds_toArray, List.set_cons_zero, List.set_cons_succ]
            refine wpAnyH_ready (rs := [16, 19]) (by kernel_rfl) (by simp) ?_
            refine AllReadyH.cons rfl (fun K hK => ?_) (AllReadyH.cons rfl (fun K hK => ?_) AllReadyH.nil)
            · skip
              try simp only [List.getElem_toArray, List.getElem_cons_zero, List.getElem_cons_succ]
              go_simp
              refine hK.out _ _ ⟨((k0.next HBQ.out).alloc _).cell, ((kx.next HBQ.out).alloc _).cell⟩ (fun hHeldN => ?_)
              clear hHeld hK K
              have hHeld := hHeldN
              clear hHeldN
              try simp only [Act.put, List.getElem_toArray, List.getElem_cons_zero, List.getElem_cons_succ, List.setIfInBounds_toArray, List.set_cons_zero, List.set_cons_succ]
              have hBq : Below wq.heap.size wq (wq.alloc (.cells #[.int .i64 2, .int .i64 m, .int .i64 x.b] tA)) := bbox (Below.refl _ _) _
              obtain ⟨y16, hy16⟩ : ∃ y, y = wq.heap.size := ⟨_, rfl⟩
              have hy16b : W.heap.size ≤ y16 := by omega
              replace HBQ := Lib.hid (HBQ.out.trans (hBq.mono hzq))
              replace hzq := Nat.le_trans hzq hBq.size
              try replace k7 := k7.next hBq
              try replace k16 := k16.next hBq
              try replace kBox := kBox.next hBq
              try replace OF2 := Lib.hid (OF2.out.below hBq)
              try replace OJ := Lib.hid (OJ.out.below hBq)
              try replace OB := Lib.hid (OB.out.below hBq)
              have k16 : Blk (wq.alloc (.cells #[.int .i64 2, .int .i64 m, .int .i64 x.b] tA)) y16 tA #[.int .i64 2, .int .i64 m, .int .i64 x.b] := Blk.newE hy16
              rw [← hy16]
              clear hBq hy16
              generalize wq.alloc (.cells #[.int .i64 2, .int .i64 m, .int .i64 x.b] tA) = wq at *
              refine wpAnyH_ready (rs := [17, 19]) (by kernel_rfl) (by simp) ?_
              refine AllReadyH.cons rfl (fun K hK => ?_) (AllReadyH.cons rfl (fun K hK => ?_) AllReadyH.nil)
              · skip
                refine stepALn (ys := [⟨2, (m : Int), x.b⟩]) (n := a.atoms.length + 1) rfl _ _ rfl rfl OJ.out rfl (AtomsV.one (f := ⟨2, (m : Int), x.b⟩) k16) (by simp <;> omega) (by omega) hzq ?_
                intro G3 e4 wq oB hg hBq
                try replace kBox := Blk.grownO kBox OJ.out.1 hg (by decide)
                replace OF2 := Lib.hid (OF2.out.grownA OJ.out hg)
                replace HBQ := Lib.hid (HBQ.out.trans hBq)
                replace hzq := Nat.le_trans hzq hBq.size
                have OB := Lib.hid oB
                clear oB hg hBq OJ
                refine hK.out _ _ ⟨(k0.next HBQ.out).cell, (kx.next HBQ.out).cell⟩ (fun hHeldN => ?_)
                clear hHeld hK K
                have hHeld := hHeldN
                clear hHeldN
                try simp only [Act.put, List.getElem_toArray, List.getElem_cons_zero, List.getElem_cons_succ, List.setIfInBounds_toArray, List.set_cons_zero, List.set_cons_succ]
                refine wpAnyH_take (i := 18) (v := ?_) rfl (by kernel_rfl) (by kernel_rfl) (by kernel_rfl) (fun _ _ _ h => h) (Or.inl ⟨by rfl, fun w hSw => ?_⟩) hHeld ?_
                rotate_left
                · ((try dsimp only at hSw); go_split_ands; go_simp; (try with_reducible rfl))
                try simp only [Act.put, List.getElem_toArray, List.getElem_cons_zero, List.getElem_cons_succ, List.setIfInBounds_toArray, List.set_cons_zero, List.set_cons_succ]
                refine wpAnyH_ready (rs := [19]) (by kernel_rfl) (by simp) ?_
                refine AllReadyH.cons rfl (fun K hK => ?_) AllReadyH.nil
                try simp only [List.getElem_toArray, List.getElem_cons_zero, List.getElem_cons_succ]
                go_simp
                refine hK.out _ _ ⟨((k0.next HBQ.out).alloc _).cell, ((kx.next HBQ.out).alloc _).cell⟩ (fun hHeldN => ?_)
                clear hHeld hK K
                have hHeld := hHeldN
                clear hHeldN
                try simp only [Act.put, List.getElem_toArray, List.getElem_cons_zero, List.getElem_cons_succ, List.setIfInBounds_toArray, List.set_cons_zero, List.set_cons_succ]
                have hBq : Below wq.heap.size wq (wq.alloc (.cells #[.slice none 0 0, .slice none 0 0] tAs)) := bbox (Below.refl _ _) _
                obtain ⟨xb, hxb⟩ : ∃ y, y = wq.heap.size := ⟨_, rfl⟩
                have hxbb : W.heap.size ≤ xb := by omega
                replace HBQ := Lib.hid (HBQ.out.trans (hBq.mono hzq))
                replace hzq := Nat.le_trans hzq hBq.size
                try replace k7 := k7.next hBq
                try replace k16 := k16.next hBq
                try replace kBox := kBox.next hBq
                try replace OF2 := Lib.hid (OF2.out.below hBq)
                try replace OJ := Lib.hid (OJ.out.below hBq)
                try replace OB := Lib.hid (OB.out.below hBq)
                have kBox : Blk (wq.alloc (.cells #[.slice none 0 0, .slice none 0 0] tAs)) xb tAs #[.slice none 0 0, .slice none 0 0] := Blk.newE hxb
                rw [← hxb]
                clear hBq hxb
                generalize wq.alloc (.cells #[.slice none 0 0, .slice none 0 0] tAs) = wq at *
                have hlB := kBox.lt
                have qb := kBox.cell
                have rb := kBox.frozen
                refine wpAnyH_ready (rs := [20]) (by kernel_rfl) (by simp) ?_
                refine AllReadyH.cons rfl (fun K hK => ?_) AllReadyH.nil
                try simp only [List.getElem_toArray, List.getElem_cons_zero, List.getElem_cons_succ]
                go_simp
                refine hK.out _ _ (⟨(((k0.next HBQ.out).far (p := ⟨xb, 0, none⟩) (by simp only; omega) _).far (p := ⟨xb, 1, none⟩) (by simp only; omega) _).cell, (((kx.next HBQ.out).far (p := ⟨xb, 0, none⟩) (by simp only; omega) _).far (p := ⟨xb, 1, none⟩) (by simp only; omega) _).cell⟩) (fun hHeldN => ?_)
                clear hHeld hK K
                have hHeld := hHeldN
                clear hHeldN
                try simp only [Act.put, List.getElem_toArray, List.getElem_cons_zero, List.getElem_cons_succ, List.setIfInBounds_toArray, List.set_cons_zero, List.set_cons_succ]
                refine wpAnyH_done (by kernel_rfl) ?_ _
                refine NoPanic.normal ?_
                go_wp2_with fail
                go_meet
                case rel =>
                  refine ⟨xb, _, _, _, _, rfl, Lib.hid ((OF2.out.setT kBox (by decide) 0 _).setT (kBox.set_ 0 _) (by decide) 1 _), Lib.hid ((OB.out.setT kBox (by decide) 0 _).setT (kBox.set_ 0 _) (by decide) 1 _), ?_, hxbb, Lib.hid ((HBQ.out.setCell (p := ⟨xb, 0, none⟩) (by simp only; omega) _).setCell (p := ⟨xb, 1, none⟩) (by simp only; omega) _)⟩
                  have := (kBox.set_ 0 (.slice F2 (a.facts.length + 1) e2)).set_ 1 (.slice G3 (a.atoms.length + 1) e4)
                  simpa using this
              · skip
                try simp only [List.getElem_toArray, List.getElem_cons_zero, List.getElem_cons_succ]
                go_simp
                refine hK.out _ _ ⟨((k0.next HBQ.out).alloc _).cell, ((kx.next HBQ.out).alloc _).cell⟩ (fun hHeldN => ?_)
                clear hHeld hK K
                have hHeld := hHeldN
                clear hHeldN
                try simp only [Act.put, List.getElem_toArray, List.getElem_cons_zero, List.getElem_cons_succ, List.setIfInBounds_toArray, List.set_cons_zero, List.set_cons_succ]
                have hBq : Below wq.heap.size wq (wq.alloc (.cells #[.slice none 0 0, .slice none 0 0] tAs)) := bbox (Below.refl _ _) _
                obtain ⟨xb, hxb⟩ : ∃ y, y = wq.heap.size := ⟨_, rfl⟩
                have hxbb : W.heap.size ≤ xb := by omega
                replace HBQ := Lib.hid (HBQ.out.trans (hBq.mono hzq))
                replace hzq := Nat.le_trans hzq hBq.size
                try replace k7 := k7.next hBq
                try replace k16 := k16.next hBq
                try replace kBox := kBox.next hBq
                try replace OF2 := Lib.hid (OF2.out.below hBq)
                try replace OJ := Lib.hid (OJ.out.below hBq)
                try replace OB := Lib.hid (OB.out.below hBq)
                have kBox : Blk (wq.alloc (.cells #[.slice none 0 0, .slice none 0 0] tAs)) xb tAs #[.slice none 0 0, .slice none 0 0] := Blk.newE hxb
                rw [← hxb]
                clear hBq hxb
                generalize wq.alloc (.cells #[.slice none 0 0, .slice none 0 0] tAs) = wq at *
                refine wpAnyH_ready (rs := [17]) (by kernel_rfl) (by simp) ?_
                refine AllReadyH.cons rfl (fun K hK => ?_) AllReadyH.nil
                refine stepALn (ys := [⟨2, (m : Int), x.b⟩]) (n := a.atoms.length + 1) rfl _ _ rfl rfl OJ.out rfl (AtomsV.one (f := ⟨2, (m : Int), x.b⟩) k16) (by simp <;> omega) (by omega) hzq ?_
                intro G3 e4 wq oB hg hBq
                try replace kBox := Blk.grownO kBox OJ.out.1 hg (by decide)
                replace OF2 := Lib.hid (OF2.out.grownA OJ.out hg)
                replace HBQ := Lib.hid (HBQ.out.trans hBq)
                replace hzq := Nat.le_trans hzq hBq.size
                have OB := Lib.hid oB
                clear oB hg hBq OJ
                refine hK.out _ _ ⟨(k0.next HBQ.out).cell, (kx.next HBQ.out).cell⟩ (fun hHeldN => ?_)
                clear hHeld hK K
                have hHeld := hHeldN
                clear hHeldN
                try simp only [Act.put, List.getElem_toArray, List.getElem_cons_zero, List.getElem_cons_succ, List.setIfInBounds_toArray, List.set_cons_zero, List.set_cons_succ]
                refine wpAnyH_take (i := 18) (v := ?_) rfl (by kernel_rfl) (by kernel_rfl) (by kernel_rfl) (fun _ _ _ h => h) (Or.inl ⟨by rfl, fun w hSw => ?_⟩) hHeld ?_
                rotate_left
                · ((try dsimp only at hSw); go_split_ands; go_simp; (try with_reducible rfl))
                try simp only [Act.put, List.getElem_toArray, List.getElem_cons_zero, List.getElem_cons_succ, List.setIfInBounds_toArray, List.set_cons_zero, List.set_cons_succ]
                have hlB := kBox.lt
                have qb := kBox.cell
                have rb := kBox.frozen
                refine wpAnyH_ready (rs := [20]) (by kernel_rfl) (by simp) ?_
                refine AllReadyH.cons rfl (fun K hK => ?_) AllReadyH.nil
                try simp only [List.getElem_toArray, List.getElem_cons_zero, List.getElem_cons_succ]
                go_simp
                refine hK.out _ _ (⟨(((k0.next HBQ.out).far (p := ⟨xb, 0, none⟩) (by simp only; omega) _).far (p := ⟨xb, 1, none⟩) (by simp only; omega) _).cell, (((kx.next HBQ.out).far (p := ⟨xb, 0, none⟩) (by simp only; omega) _).far (p := ⟨xb, 1, none⟩) (by simp only; omega) _).cell⟩) (fun hHeldN => ?_)
                clear hHeld hK K
                have hHeld := hHeldN
                clear hHeldN
                try simp only [Act.put, List.getElem_toArray, List.getElem_cons_zero, List.getElem_cons_succ, List.setIfInBounds_toArray, List.set_cons_zero, List.set_cons_succ]
                refine wpAnyH_done (by kernel_rfl) ?_ _
                refine NoPanic.normal ?_
                go_wp2_with fail
                go_meet
                case rel =>
                  refine ⟨xb, _, _, _, _, rfl, Lib.hid ((OF2.out.setT kBox (by decide) 0 _).setT (kBox.set_ 0 _) (by decide) 1 _), Lib.hid ((OB.out.setT kBox (by decide) 0 _).setT (kBox.set_ 0 _) (by decide) 1 _), ?_, hxbb, Lib.hid ((HBQ.out.setCell (p := ⟨xb, 0, none⟩) (by simp only; omega) _).setCell (p := ⟨xb, 1, none⟩) (by simp only; omega) _)⟩
                  have := (kBox.set_ 0 (.slice F2 (a.facts.length + 1) e2)).set_ 1 (.slice G3 (a.atoms.length + 1) e4)
                  simpa using this
            · skip
              try simp only [List.getElem_toArray, List.getElem_cons_zero, List.getElem_cons_succ]
              go_simp
              refine hK.out _ _ ⟨((k0.next HBQ.out).alloc _).cell, ((kx.next HBQ.out).alloc _).cell⟩ (fun hHeldN => ?_)
              clear hHeld hK K
              have hHeld := hHeldN
              clear hHeldN
              try simp only [Act.put, List.getElem_toArray, List.getElem_cons_zero, List.getElem_cons_succ, List.setIfInBounds_toArray, List.set_cons_zero, List.set_cons_succ]
              have hBq : Below wq.heap.size wq (wq.alloc (.cells #[.slice none 0 0, .slice none 0 0] tAs)) := bbox (Below.refl _ _) _
              obtain ⟨xb, hxb⟩ : ∃ y, y = wq.heap.size := ⟨_, rfl⟩
              have hxbb : W.heap.size ≤ xb := by omega
              replace HBQ := Lib.hid (HBQ.out.trans (hBq.mono hzq))
              replace hzq := Nat.le_trans hzq hBq.size
              try replace k7 := k7.next hBq
              try replace k16 := k16.next hBq
              try replace kBox := kBox.next hBq
              try replace OF2 := Lib.hid (OF2.out.below hBq)
              try replace OJ := Lib.hid (OJ.out.below hBq)
              try replace OB := Lib.hid (OB.out.below hBq)
              have kBox : Blk (wq.alloc (.cells #[.slice none 0 0, .slice none 0 0] tAs)) xb tAs #[.slice none 0 0, .slice none 0 0] := Blk.newE hxb
              rw [← hxb]
              clear hBq hxb
              generalize wq.alloc (.cells #[.slice none 0 0, .slice none 0 0] tAs) = wq at *
              refine wpAnyH_ready (rs := [16]) (by kernel_rfl) (by simp) ?_
              refine AllReadyH.cons rfl (fun K hK => ?_) AllReadyH.nil
              try simp only [List.getElem_toArray, List.getElem_cons_zero, List.getElem_cons_succ]
              go_simp
              refine hK.out _ _ ⟨((k0.next HBQ.out).alloc _).cell, ((kx.next HBQ.out).alloc _).cell⟩ (fun hHeldN => ?_)
              clear hHeld hK K
              have hHeld := hHeldN
              clear hHeldN
              try simp only [Act.put, List.getElem_toArray, List.getElem_cons_zero, List.getElem_cons_succ, List.setIfInBounds_toArray, List.set_cons_zero, List.set_cons_succ]
              have hBq : Below wq.heap.size wq (wq.alloc (.cells #[.int .i64 2, .int .i64 m, .int .i64 x.b] tA)) := bbox (Below.refl _ _) _
              obtain ⟨y16, hy16⟩ : ∃ y, y = wq.heap.size := ⟨_, rfl⟩
              have hy16b : W.heap.size ≤ y16 := by omega
              replace HBQ := Lib.hid (HBQ.out.trans (hBq.mono hzq))
              replace hzq := Nat.le_trans hzq hBq.size
              try replace k7 := k7.next hBq
              try replace k16 := k16.next hBq
              try replace kBox := kBox.next hBq
              try replace OF2 := Lib.hid (OF2.out.below hBq)
              try replace OJ := Lib.hid (OJ.out.below hBq)
              try replace OB := Lib.hid (OB.out.below hBq)
              have k16 : Blk (wq.alloc (.cells #[.int .i64 2, .int .i64 m, .int .i64 x.b] tA)) y16 tA #[.int .i64 2, .int .i64 m, .int .i64 x.b] := Blk.newE hy16
              rw [← hy16]
              clear hBq hy16
              generalize wq.alloc (.cells #[.int .i64 2, .int .i64 m, .int .i64 x.b] tA) = wq at *
              refine wpAnyH_ready (rs := [17]) (by kernel_rfl) (by simp) ?_
              refine AllReadyH.cons rfl (fun K hK => ?_) AllReadyH.nil
              refine stepALn (ys := [⟨2, (m : Int), x.b⟩]) (n := a.atoms.length + 1) rfl _ _ rfl rfl OJ.out rfl (AtomsV.one (f := ⟨2, (m : Int), x.b⟩) k16) (by simp <;> omega) (by omega) hzq ?_
              intro G3 e4 wq oB hg hBq
              try replace kBox := Blk.grownO kBox OJ.out.1 hg (by decide)
              replace OF2 := Lib.hid (OF2.out.grownA OJ.out hg)
              replace HBQ := Lib.hid (HBQ.out.trans hBq)
              replace hzq := Nat.le_trans hzq hBq.size
              have OB := Lib.hid oB
              clear oB hg hBq OJ
              refine hK.out _ _ ⟨(k0.next HBQ.out).cell, (kx.next HBQ.out).cell⟩ (fun hHeldN => ?_)
              clear hHeld hK K
              have hHeld := hHeldN
              clear hHeldN
              try simp only [Act.put, List.getElem_toArray, List.getElem_cons_zero, List.getElem_cons_succ, List.setIfInBounds_toArray, List.set_cons_zero, List.set_cons_succ]
              refine wpAnyH_take (i := 18) (v := ?_) rfl (by kernel_rfl) (by kernel_rfl) (by kernel_rfl) (fun _ _ _ h => h) (Or.inl ⟨by rfl, fun w hSw => ?_⟩) hHeld ?_
              rotate_left
              · ((try dsimp only at hSw); go_split_ands; go_simp; (try with_reducible rfl))
              try simp only [Act.put, List.getElem_toArray, List.getElem_cons_zero, List.getElem_cons_succ, List.setIfInBounds_toArray, List.set_cons_zero, List.set_cons_succ]
              have hlB := kBox.lt
              have qb := kBox.cell
              have rb := kBox.frozen
              refine wpAnyH_ready (rs := [20]) (by kernel_rfl) (by simp) ?_
              refine AllReadyH.cons rfl (fun K hK => ?_) AllReadyH.nil
              try simp only [List.getElem_toArray, List.getElem_cons_zero, List.getElem_cons_succ]
              go_simp
              refine hK.out _ _ (⟨(((k0.next HBQ.out).far (p := ⟨xb, 0, none⟩) (by simp only; omega) _).far (p := ⟨xb, 1, none⟩) (by simp only; omega) _).cell, (((kx.next HBQ.out).far (p := ⟨xb, 0, none⟩) (by simp only; omega) _).far (p := ⟨xb, 1, none⟩) (by simp only; omega) _).cell⟩) (fun hHeldN => ?_)
              clear hHeld hK K
              have hHeld := hHeldN
              clear hHeldN
              try simp only [Act.put, List.getElem_toArray, List.getElem_cons_zero, List.getElem_cons_succ, List.setIfInBounds_toArray, List.set_cons_zero, List.set_cons_succ]
              refine wpAnyH_done (by kernel_rfl) ?_ _
              refine NoPanic.normal ?_
              go_wp2_with fail
              go_meet
              case rel =>
                refine ⟨xb, _, _, _, _, rfl, Lib.hid ((OF2.out.setT kBox (by decide) 0 _).setT (kBox.set_ 0 _) (by decide) 1 _), Lib.hid ((OB.out.setT kBox (by decide) 0 _).setT (kBox.set_ 0 _) (by decide) 1 _), ?_, hxbb, Lib.hid ((HBQ.out.setCell (p := ⟨xb, 0, none⟩) (by simp only; omega) _).setCell (p := ⟨xb, 1, none⟩) (by simp only; omega) _)⟩
                have := (kBox.set_ 0 (.slice F2 (a.facts.length + 1) e2)).set_ 1 (.slice G3 (a.atoms.length + 1) e4)
                simpa using this
          · skip
            try simp only [List.getElem_toArray, List.getElem_cons_zero, List.getElem_cons_succ]
            go_simp
            refine hK.out _ _ ⟨((k0.next HBQ.out).alloc _).cell, ((kx.next HBQ.out).alloc _).cell⟩ (fun hHeldN => ?_)
            clear hHeld hK K
            have hHeld := hHeldN
            clear hHeldN
            try simp only [Act.put, List.getElem_toArray, List.getElem_cons_zero, List.getElem_cons_succ, List.setIfInBounds_toArray, List.set_cons_zero, List.set_cons_succ]
            have hBq : Below wq.heap.size wq (wq.alloc (.cells #[.int .i64 2, .int .i64 m, .int .i64 x.b] tA)) := bbox (Below.refl _ _) _
            obtain ⟨y16, hy16⟩ : ∃ y, y = wq.heap.size := ⟨_, rfl⟩
            have hy16b : W.heap.size ≤ y16 := by omega
            replace HBQ := Lib.hid (HBQ.out.trans (hBq.mono hzq))
            replace hzq := Nat.le_trans hzq hBq.size
            try replace k7 := k7.next hBq
            try replace k16 := k16.next hBq
            try replace kBox := kBox.next hBq
            try replace OF2 := Lib.hid (OF2.out.below hBq)
            try replace OJ := Lib.hid (OJ.out.below hBq)
            try replace OB := Lib.hid (OB.out.below hBq)
            have k16 : Blk (wq.alloc (.cells #[.int .i64 2, .int .i64 m, .int .i64 x.b] tA)) y16 tA #[.int .i64 2, .int .i64 m, .int .i64 x.b] := Blk.newE hy16
            rw [← hy16]
            clear hBq hy16
            generalize wq.alloc (.cells #[.int .i64 2, .int .i64 m, .int .i64 x.b] tA) = wq at *
            refine wpAnyH_ready (rs := [11, 19]) (by kernel_rfl) (by simp) ?_
            refine AllReadyH.cons rfl (fun K hK => ?_) (AllReadyH.cons rfl (fun K hK => ?_) AllReadyH.nil)
            · skip
              try simp only [List.getElem_toArray, List.getElem_cons_zero, List.getElem_cons_succ]
              go_simp
              refine (c_joinAn (some ⟨yE + 1, 0, none⟩) G1 1 d1 a.atoms.length [⟨1, x.a, (m : Int)⟩] (withoutL a.atoms i) _ (AtomsV.one (f := ⟨1, x.a, (m : Int)⟩) (kf.next HBQ.out)) (OR.out.readsI.2.below HBQ.out) (by simp <;> omega) (by omega)).mono ?_
              rintro e wq ⟨G2, e3, rfl, oJ, hBq⟩
              have hbs : W.heap.size ≤ _ := hzq
              replace HBQ := Lib.hid (HBQ.out.trans (hBq.mono hzq))
              replace hzq := Nat.le_trans hzq hBq.size
              try replace k7 := k7.next hBq
              try replace k16 := k16.next hBq
              try replace kBox := kBox.next hBq
              try replace OF2 := Lib.hid (OF2.out.below hBq)
              try replace OJ := Lib.hid (OJ.out.below hBq)
              try replace OB := Lib.hid (OB.out.below hBq)
              have OJ := Lib.hid (oJ.lower (base' := W.heap.size) hbs)
              clear oJ hBq hbs
              refine hK.out _ _ ⟨(k0.next HBQ.out).cell, (kx.next HBQ.out).cell⟩ (fun hHeldN => ?_)
              clear hHeld hK K
              have hHeld := hHeldN
              clear hHeldN
              try simp only [Act.put, List.getElem_toArray, List.getElem_cons_zero, List.getElem_cons_succ, List.setIfInBounds_toArray, List.set_cons_zero, List.set_cons_succ]
              refine wpAnyH_ready (rs := [17, 19]) (by kernel_rfl) (by simp) ?_
              refine AllReadyH.cons rfl (fun K hK => ?_) (AllReadyH.cons rfl (fun K hK => ?_) AllReadyH.nil)
              · skip
                refine stepALn (ys := [⟨2, (m : Int), x.b⟩]) (n := a.atoms.length + 1) rfl _ _ rfl rfl OJ.out rfl (AtomsV.one (f := ⟨2, (m : Int), x.b⟩) k16) (by simp <;> omega) (by omega) hzq ?_
                intro G3 e4 wq oB hg hBq
                try replace kBox := Blk.grownO kBox OJ.out.1 hg (by decide)
                replace OF2 := Lib.hid (OF2.out.grownA OJ.out hg)
                replace HBQ := Lib.hid (HBQ.out.trans hBq)
                replace hzq := Nat.le_trans hzq hBq.size
                have OB := Lib.hid oB
                clear oB hg hBq OJ
                refine hK.out _ _ ⟨(k0.next HBQ.out).cell, (kx.next HBQ.out).cell⟩ (fun hHeldN => ?_)
                clear hHeld hK K
                have hHeld := hHeldN
                clear hHeldN
                try simp only [Act.put, List.getElem_toArray, List.getElem_cons_zero, List.getElem_cons_succ, List.setIfInBounds_toArray, List.set_cons_zero, List.set_cons_succ]
                refine wpAnyH_take (i := 18) (v := ?_) rfl (by kernel_rfl) (by kernel_rfl) (by kernel_rfl) (fun _ _ _ h => h) (Or.inl ⟨by rfl, fun w hSw => ?_⟩) hHeld ?_
                rotate_left
                · ((try dsimp only at hSw); go_split_ands; go_simp; (try with_reducible rfl))
                try simp only [Act.put, List.getElem_toArray, List.getElem_cons_zero, List.getElem_cons_succ, List.setIfInBounds_toArray, List.set_cons_zero, List.set_cons_succ]
                refine wpAnyH_ready (rs := [19]) (by kernel_rfl) (by simp) ?_
                refine AllReadyH.cons rfl (fun K hK => ?_) AllReadyH.nil
                try simp only [List.getElem_toArray, List.getElem_cons_zero, List.getElem_cons_succ]
                go_simp
                refine hK.out _ _ ⟨((k0.next HBQ.out).alloc _).cell, ((kx.next HBQ.out).alloc _).cell⟩ (fun hHeldN => ?_)
                clear hHeld hK K
                have hHeld := hHeldN
                clear hHeldN
                try simp only [Act.put, List.getElem_toArray, List.getElem_cons_zero, List.getElem_cons_succ, List.setIfInBounds_toArray, List.set_cons_zero, List.set_cons_succ]
                have hBq : Below wq.heap.size wq (wq.alloc (.cells #[.slice none 0 0, .slice none 0 0] tAs)) := bbox (Below.refl _ _) _
                obtain ⟨xb, hxb⟩ : ∃ y, y = wq.heap.size := ⟨_, rfl⟩
                have hxbb : W.heap.size ≤ xb := by omega
                replace HBQ := Lib.hid (HBQ.out.trans (hBq.mono hzq))
                replace hzq := Nat.le_trans hzq hBq.size
                try replace k7 := k7.next hBq
                try replace k16 := k16.next hBq
                try replace kBox := kBox.next hBq
                try replace OF2 := Lib.hid (OF2.out.below hBq)
                try replace OJ := Lib.hid (OJ.out.below hBq)
                try replace OB := Lib.hid (OB.out.below hBq)
                have kBox : Blk (wq.alloc (.cells #[.slice none 0 0, .slice none 0 0] tAs)) xb tAs #[.slice none 0 0, .slice none 0 0] := Blk.newE hxb
                rw [← hxb]
                clear hBq hxb
                generalize wq.alloc (.cells #[.slice none 0 0, .slice none 0 0] tAs) = wq at *
                have hlB := kBox.lt
                have qb := kBox.cell
                have rb := kBox.frozen
                refine wpAnyH_ready (rs := [20]) (by kernel_rfl) (by simp) ?_
                refine AllReadyH.cons rfl (fun K hK => ?_) AllReadyH.nil
                try simp only [List.getElem_toArray, List.getElem_cons_zero, List.getElem_cons_succ]
                go_simp
                refine hK.out _ _ (⟨(((k0.next HBQ.out).far (p := ⟨xb, 0, none⟩) (by simp only; omega) _).far (p := ⟨xb, 1, none⟩) (by simp only; omega) _).cell, (((kx.next HBQ.out).far (p := ⟨xb, 0, none⟩) (by simp only; omega) _).far (p := ⟨xb, 1, none⟩) (by simp only; omega) _).cell⟩) (fun hHeldN => ?_)
                clear hHeld hK K
                have hHeld := hHeldN
                clear hHeldN
                try simp only [Act.put, List.getElem_toArray, List.getElem_cons_zero, List.getElem_cons_succ, List.setIfInBounds_toArray, List.set_cons_zero, List.set_cons_succ]
                refine wpAnyH_done (by kernel_rfl) ?_ _
                refine NoPanic.normal ?_
                go_wp2_with fail
                go_meet
                case rel =>
                  refine ⟨xb, _, _, _, _, rfl, Lib.hid ((OF2.out.setT kBox (by decide) 0 _).setT (kBox.set_ 0 _) (by decide) 1 _), Lib.hid ((OB.out.setT kBox (by decide) 0 _).setT (kBox.set_ 0 _) (by decide) 1 _), ?_, hxbb, Lib.hid ((HBQ.out.setCell (p := ⟨xb, 0, none⟩) (by simp only; omega) _).setCell (p := ⟨xb, 1, none⟩) (by simp only; omega) _)⟩
                  have := (kBox.set_ 0 (.slice F2 (a.facts.length + 1) e2)).set_ 1 (.slice G3 (a.atoms.length + 1) e4)
                  simpa using this
              · skip
                try simp only [List.getElem_toArray, List.getElem_cons_zero, List.getElem_cons_succ]
                go_simp
                refine hK.out _ _ ⟨((k0.next HBQ.out).alloc _).cell, ((kx.next HBQ.out).alloc _).cell⟩ (fun hHeldN => ?_)
                clear hHeld hK K
                have hHeld := hHeldN
                clear hHeldN
                try simp only [Act.put, List.getElem_toArray, List.getElem_cons_zero, List.getElem_cons_succ, List.setIfInBounds_toArray, List.set_cons_zero, List.set_cons_succ]
                have hBq : Below wq.heap.size wq (wq.alloc (.cells #[.slice none 0 0, .slice none 0 0] tAs)) := bbox (Below.refl _ _) _
                obtain ⟨xb, hxb⟩ : ∃ y, y = wq.heap.size := ⟨_, rfl⟩
                have hxbb : W.heap.size ≤ xb := by omega
                replace HBQ := Lib.hid (HBQ.out.trans (hBq.mono hzq))
                replace hzq := Nat.le_trans hzq hBq.size
                try replace k7 := k7.next hBq
                try replace k16 := k16.next hBq
                try replace kBox := kBox.next hBq
                try replace OF2 := Lib.hid (OF2.out.below hBq)
                try replace OJ := Lib.hid (OJ.out.below hBq)
                try replace OB := Lib.hid (OB.out.below hBq)
                have kBox : Blk (wq.alloc (.cells #[.slice none 0 0, .slice none 0 0] tAs)) xb tAs #[.slice none 0 0, .slice none 0 0] := Blk.newE hxb
                rw [← hxb]
                clear hBq hxb
                generalize wq.alloc (.cells #[.slice none 0 0, .slice none 0 0] tAs) = wq at *
                refine wpAnyH_ready (rs := [17]) (by kernel_rfl) (by simp) ?_
                refine AllReadyH.cons rfl (fun K hK => ?_) AllReadyH.nil
                refine stepALn (ys := [⟨2, (m : Int), x.b⟩]) (n := a.atoms.length + 1) rfl _ _ rfl rfl OJ.out rfl (AtomsV.one (f := ⟨2, (m : Int), x.b⟩) k16) (by simp <;> omega) (by omega) hzq ?_
                intro G3 e4 wq oB hg hBq
                try replace kBox := Blk.grownO kBox OJ.out.1 hg (by decide)
                replace OF2 := Lib.hid (OF2.out.grownA OJ.out hg)
                replace HBQ := Lib.hid (HBQ.out.trans hBq)
                replace hzq := Nat.le_trans hzq hBq.size
                have OB := Lib.hid oB
                clear oB hg hBq OJ
                refine hK.out _ _ ⟨(k0.next HBQ.out).cell, (kx.next HBQ.out).cell⟩ (fun hHeldN => ?_)
                clear hHeld hK K
                have hHeld := hHeldN
                clear hHeldN
                try simp only [Act.put, List.getElem_toArray, List.getElem_cons_zero, List.getElem_cons_succ, List.setIfInBounds_toArray, List.set_cons_zero, List.set_cons_succ]
                refine wpAnyH_take (i := 18) (v := ?_) rfl (by kernel_rfl) (by kernel_rfl) (by kernel_rfl) (fun _ _ _ h => h) (Or.inl ⟨by rfl, fun w hSw => ?_⟩) hHeld ?_
                rotate_left
                · ((try dsimp only at hSw); go_split_ands; go_simp; (try with_reducible rfl))
                try simp only [Act.put, List.getElem_toArray, List.getElem_cons_zero, List.getElem_cons_succ, List.setIfInBounds_toArray, List.set_cons_zero, List.set_cons_succ]
                have hlB := kBox.lt
                have qb := kBox.cell
                have rb := kBox.frozen
                refine wpAnyH_ready (rs := [20]) (by kernel_rfl) (by simp) ?_
                refine AllReadyH.cons rfl (fun K hK => ?_) AllReadyH.nil
                try simp only [List.getElem_toArray, List.getElem_cons_zero, List.getElem_cons_succ]
                go_simp
                refine hK.out _ _ (⟨(((k0.next HBQ.out).far (p := ⟨xb, 0, none⟩) (by simp only; omega) _).far (p := ⟨xb, 1, none⟩) (by simp only; omega) _).cell, (((kx.next HBQ.out).far (p := ⟨xb, 0, none⟩) (by simp only; omega) _).far (p := ⟨xb, 1, none⟩) (by simp only; omega) _).cell⟩) (fun hHeldN => ?_)
                clear hHeld hK K
                have hHeld := hHeldN
                clear hHeldN
                try simp only [Act.put, List.getElem_toArray, List.getElem_cons_zero, List.getElem_cons_succ, List.setIfInBounds_toArray, List.set_cons_zero, List.set_cons_succ]
                refine wpAnyH_done (by kernel_rfl) ?_ _
                refine NoPanic.normal ?_
                go_wp2_with fail
                go_meet
                case rel =>
                  refine ⟨xb, _, _, _, _, rfl, Lib.hid ((OF2.out.setT kBox (by decide) 0 _).setT (kBox.set_ 0 _) (by decide) 1 _), Lib.hid ((OB.out.setT kBox (by decide) 0 _).setT (kBox.set_ 0 _) (by decide) 1 _), ?_, hxbb, Lib.hid ((HBQ.out.setCell (p := ⟨xb, 0, none⟩) (by simp only; omega) _).setCell (p := ⟨xb, 1, none⟩) (by simp only; omega) _)⟩
                  have := (kBox.set_ 0 (.slice F2 (a.facts.length + 1) e2)).set_ 1 (.slice G3 (a.atoms.length + 1) e4)
                  simpa using this
            · skip
              try simp only [List.getElem_toArray, List.getElem_cons_zero, List.getElem_cons_succ]
              go_simp
              refine hK.out _ _ ⟨((k0.next HBQ.out).alloc _).cell, ((kx.next HBQ.out).alloc _).cell⟩ (fun hHeldN => ?_)
              clear hHeld hK K
              have hHeld := hHeldN
              clear hHeldN
              try simp only [Act.put, List.getElem_toArray, List.getElem_cons_zero, List.getElem_cons_succ, List.setIfInBounds_toArray, List.set_cons_zero, List.set_cons_succ]
              have hBq : Below wq.heap.size wq (wq.alloc (.cells #[.slice none 0 0, .slice none 0 0] tAs)) := bbox (Below.refl _ _) _
              obtain ⟨xb, hxb⟩ : ∃ y, y = wq.heap.size := ⟨_, rfl⟩
              have hxbb : W.heap.size ≤ xb := by omega
              replace HBQ := Lib.hid (HBQ.out.trans (hBq.mono hzq))
              replace hzq := Nat.le_trans hzq hBq.size
              try replace k7 := k7.next hBq
              try replace k16 := k16.next hBq
              try replace kBox := kBox.next hBq
              try replace OF2 := Lib.hid (OF2.out.below hBq)
              try replace OJ := Lib.hid (OJ.out.below hBq)
              try replace OB := Lib.hid (OB.out.below hBq)
              have kBox : Blk (wq.alloc (.cells #[.slice none 0 0, .slice none 0 0] tAs)) xb tAs #[.slice none 0 0, .slice none 0 0] := Blk.newE hxb
              rw [← hxb]
              clear hBq hxb
              generalize wq.alloc (.cells #[.slice none 0 0, .slice none 0 0] tAs) = wq at *
              refine wpAnyH_ready (rs := [11]) (by kernel_rfl) (by simp) ?_
              refine AllReadyH.cons rfl (fun K hK => ?_) AllReadyH.nil
              try simp only [List.getElem_toArray, List.getElem_cons_zero, List.getElem_cons_succ]
              go_simp
              refine (c_joinAn (some ⟨yE + 1, 0, none⟩) G1 1 d1 a.atoms.length [⟨1, x.a, (m : Int)⟩] (withoutL a.atoms i) _ (AtomsV.one (f := ⟨1, x.a, (m : Int)⟩) (kf.next HBQ.out)) (OR.out.readsI.2.below HBQ.out) (by simp <;> omega) (by omega)).mono ?_
              rintro e wq ⟨G2, e3, rfl, oJ, hBq⟩
              have hbs : W.heap.size ≤ _ := hzq
              replace HBQ := Lib.hid (HBQ.out.trans (hBq.mono hzq))
              replace hzq := Nat.le_trans hzq hBq.size
              try replace k7 := k7.next hBq
              try replace k16 := k16.next hBq
              try replace kBox := kBox.next hBq
              try replace OF2 := Lib.hid (OF2.out.below hBq)
              try replace OJ := Lib.hid (OJ.out.below hBq)
              try replace OB := Lib.hid (OB.out.below hBq)
              have OJ := Lib.hid (oJ.lower (base' := W.heap.size) hbs)
              clear oJ hBq hbs
              refine hK.out _ _ ⟨(k0.next HBQ.out).cell, (kx.next HBQ.out).cell⟩ (fun hHeldN => ?_)
              clear hHeld hK K
              have hHeld := hHeldN
              clear hHeldN
              try simp only [Act.put, List.getElem_toArray, List.getElem_cons_zero, List.getElem_cons_succ, List.setIfInBounds_toArray, List.set_cons_zero, List.set_cons_succ]
              refine wpAnyH_ready (rs := [17]) (by kernel_rfl) (by simp) ?_
              refine AllReadyH.cons rfl (fun K hK => ?_) AllReadyH.nil
              refine stepALn (ys := [⟨2, (m : Int), x.b⟩]) (n := a.atoms.length + 1) rfl _ _ rfl rfl OJ.out rfl (AtomsV.one (f := ⟨2, (m : Int), x.b⟩) k16) (by simp <;> omega) (by omega) hzq ?_
              intro G3 e4 wq oB hg hBq
              try replace kBox := Blk.grownO kBox OJ.out.1 hg (by decide)
              replace OF2 := Lib.hid (OF2.out.grownA OJ.out hg)
              replace HBQ := Lib.hid (HBQ.out.trans hBq)
              replace hzq := Nat.le_trans hzq hBq.size
              have OB := Lib.hid oB
              clear oB hg hBq OJ
              refine hK.out _ _ ⟨(k0.next HBQ.out).cell, (kx.next HBQ.out).cell⟩ (fun hHeldN => ?_)
              clear hHeld hK K
              have hHeld := hHeldN
              clear hHeldN
              try simp only [Act.put, List.getElem_toArray, List.getElem_cons_zero, List.getElem_cons_succ, List.setIfInBounds_toArray, List.set_cons_zero, List.set_cons_succ]
              refine wpAnyH_take (i := 18) (v := ?_) rfl (by kernel_rfl) (by kernel_rfl) (by kernel_rfl) (fun _ _ _ h => h) (Or.inl ⟨by rfl, fun w hSw => ?_⟩) hHeld ?_
              rotate_left
              · ((try dsimp only at hSw); go_split_ands; go_simp; (try with_reducible rfl))
              try simp only [Act.put, List.getElem_toArray, List.getElem_cons_zero, List.getElem_cons_succ, List.setIfInBounds_toArray, List.set_cons_zero, List.set_cons_succ]
              have hlB := kBox.lt
              have qb := kBox.cell
              have rb := kBox.frozen
              refine wpAnyH_ready (rs := [20]) (by kernel_rfl) (by simp) ?_
              refine AllReadyH.cons rfl (fun K hK => ?_) AllReadyH.nil
              try simp only [List.getElem_toArray, List.getElem_cons_zero, List.getElem_cons_succ]
              go_simp
              refine hK.out _ _ (⟨(((k0.next HBQ.out).far (p := ⟨xb, 0, none⟩) (by simp only; omega) _).far (p := ⟨xb, 1, none⟩) (by simp only; omega) _).cell, (((kx.next HBQ.out).far (p := ⟨xb, 0, none⟩) (by simp only; omega) _).far (p := ⟨xb, 1, none⟩) (by simp only; omega) _).cell⟩) (fun hHeldN => ?_)
              clear hHeld hK K
              have hHeld := hHeldN
              clear hHeldN
              try simp only [Act.put, List.getElem_toArray, List.getElem_cons_zero, List.getElem_cons_succ, List.setIfInBounds_toArray, List.set_cons_zero, List.set_cons_succ]
              refine wpAnyH_done (by kernel_rfl) ?_ _
              refine NoPanic.normal ?_
              go_wp2_with fail
              go_meet
              case rel =>
                refine ⟨xb, _, _, _, _, rfl, Lib.hid ((OF2.out.setT kBox (by decide) 0 _).setT (kBox.set_ 0 _) (by decide) 1 _), Lib.hid ((OB.out.setT kBox (by decide) 0 _).setT (kBox.set_ 0 _) (by decide) 1 _), ?_, hxbb, Lib.hid ((HBQ.out.setCell (p := ⟨xb, 0, none⟩) (by simp only; omega) _).setCell (p := ⟨xb, 1, none⟩) (by simp only; omega) _)⟩
                have := (kBox.set_ 0 (.slice F2 (a.facts.length + 1) e2)).set_ 1 (.slice G3 (a.atoms.length + 1) e4)
                simpa using this
          · skip
            try simp only [List.getElem_toArray, List.getElem_cons_zero, List.getElem_cons_succ]
            go_simp
            refine hK.out _ _ ⟨((k0.next HBQ.out).alloc _).cell, ((kx.next HBQ.out).alloc _).cell⟩ (fun hHeldN => ?_)
            clear hHeld hK K
            have hHeld := hHeldN
            clear hHeldN
            try simp only [Act.put, List.getElem_toArray, List.getElem_cons_zero, List.getElem_cons_succ, List.setIfInBounds_toArray, List.set_cons_zero, List.set_cons_succ]
            have hBq : Below wq.heap.size wq (wq.alloc (.cells #[.slice none 0 0, .slice none 0 0] tAs)) := bbox (Below.refl _ _) _
            obtain ⟨xb, hxb⟩ : ∃ y, y = wq.heap.size := ⟨_, rfl⟩
            have hxbb : W.heap.size ≤ xb := by omega
            replace HBQ := Lib.hid (HBQ.out.trans (hBq.mono hzq))
            replace hzq := Nat.le_trans hzq hBq.size
            try replace k7 := k7.next hBq
            try replace k16 := k16.next hBq
            try replace kBox := kBox.next hBq
            try replace OF2 := Lib.hid (OF2.out.below hBq)
            try replace OJ := Lib.hid (OJ.out.below hBq)
            try replace OB := Lib.hid (OB.out.below hBq)
            have kBox : Blk (wq.alloc (.cells #[.slice none 0 0, .slice none 0 0] tAs)) xb tAs #[.slice none 0 0, .slice none 0 0] := Blk.newE hxb
            rw [← hxb]
            clear hBq hxb
            generalize wq.alloc (.cells #[.slice none 0 0, .slice none 0 0] tAs) = wq at *
            refine wpAnyH_ready (rs := [11, 16]) (by kernel_rfl) (by simp) ?_
            refine AllReadyH.cons rfl (fun K hK => ?_) (AllReadyH.cons rfl (fun K hK => ?_) AllReadyH.nil)
            · skip
              try simp only [List.getElem_toArray, List.getElem_cons_zero, List.getElem_cons_succ]
              go_simp
              refine (c_joinAn (some ⟨yE + 1, 0, none⟩) G1 1 d1 a.atoms.length [⟨1, x.a, (m : Int)⟩] (withoutL a.atoms i) _ (AtomsV.one (f := ⟨1, x.a, (m : Int)⟩) (kf.next HBQ.out)) (OR.out.readsI.2.below HBQ.out) (by simp <;> omega) (by omega)).mono ?_
              rintro e wq ⟨G2, e3, rfl, oJ, hBq⟩
              have hbs : W.heap.size ≤ _ := hzq
              replace HBQ := Lib.hid (HBQ.out.trans (hBq.mono hzq))
              replace hzq := Nat.le_trans hzq hBq.size
              try replace k7 := k7.next hBq
              try replace k16 := k16.next hBq
              try replace kBox := kBox.next hBq
              try replace OF2 := Lib.hid (OF2.out.below hBq)
              try replace OJ := Lib.hid (OJ.out.below hBq)
              try replace OB := Lib.hid (OB.out.below hBq)
              have OJ := Lib.hid (oJ.lower (base' := W.heap.size) hbs)
              clear oJ hBq hbs
              refine hK.out _ _ ⟨(k0.next HBQ.out).cell, (kx.next HBQ.out).cell⟩ (fun hHeldN => ?_)
              clear hHeld hK K
              have hHeld := hHeldN
              clear hHeldN
              try simp only [Act.put, List.getElem_toArray, List.getElem_cons_zero, List.getElem_cons_succ, List.setIfInBounds_toArray, List.set_cons_zero, List.set_cons_succ]
              refine wpAnyH_ready (rs := [16]) (by kernel_rfl) (by simp) ?_
              refine AllReadyH.cons rfl (fun K hK => ?_) AllReadyH.nil
              try simp only [List.getElem_toArray, List.getElem_cons_zero, List.getElem_cons_succ]
              go_simp
              refine hK.out _ _ ⟨((k0.next HBQ.out).alloc _).cell, ((kx.next HBQ.out).alloc _).cell⟩ (fun hHeldN => ?_)
              clear hHeld hK K
              have hHeld := hHeldN
              clear hHeldN
              try simp only [Act.put, List.getElem_toArray, List.getElem_cons_zero, List.getElem_cons_succ, List.setIfInBounds_toArray, List.set_cons_zero, List.set_cons_succ]
              have hBq : Below wq.heap.size wq (wq.alloc (.cells #[.int .i64 2, .int .i64 m, .int .i64 x.b] tA)) := bbox (Below.refl _ _) _
              obtain ⟨y16, hy16⟩ : ∃ y, y = wq.heap.size := ⟨_, rfl⟩
              have hy16b : W.heap.size ≤ y16 := by omega
              replace HBQ := Lib.hid (HBQ.out.trans (hBq.mono hzq))
              replace hzq := Nat.le_trans hzq hBq.size
              try replace k7 := k7.next hBq
              try replace k16 := k16.next hBq
              try replace kBox := kBox.next hBq
              try replace OF2 := Lib.hid (OF2.out.below hBq)
              try replace OJ := Lib.hid (OJ.out.below hBq)
              try replace OB := Lib.hid (OB.out.below hBq)
              have k16 : Blk (wq.alloc (.cells #[.int .i64 2, .int .i64 m, .int .i64 x.b] tA)) y16 tA #[.int .i64 2, .int .i64 m, .int .i64 x.b] := Blk.newE hy16
              rw [← hy16]
              clear hBq hy16
              generalize wq.alloc (.cells #[.int .i64 2, .int .i64 m, .int .i64 x.b] tA) = wq at *
              refine wpAnyH_ready (rs := [17]) (by kernel_rfl) (by simp) ?_
              refine AllReadyH.cons rfl (fun K hK => ?_) AllReadyH.nil
              refine stepALn (ys := [⟨2, (m : Int), x.b⟩]) (n := a.atoms.length + 1) rfl _ _ rfl rfl OJ.out rfl (AtomsV.one (f := ⟨2, (m : Int), x.b⟩) k16) (by simp <;> omega) (by omega) hzq ?_
              intro G3 e4 wq oB hg hBq
              try replace kBox := Blk.grownO kBox OJ.out.1 hg (by decide)
              replace OF2 := Lib.hid (OF2.out.grownA OJ.out hg)
              replace HBQ := Lib.hid (HBQ.out.trans hBq)
              replace hzq := Nat.le_trans hzq hBq.size
              have OB := Lib.hid oB
              clear oB hg hBq OJ
              refine hK.out _ _ ⟨(k0.next HBQ.out).cell, (kx.next HBQ.out).cell⟩ (fun hHeldN => ?_)
              clear hHeld hK K
              have hHeld := hHeldN
              clear hHeldN
              try simp only [Act.put, List.getElem_toArray, List.getElem_cons_zero, List.getElem_cons_succ, List.setIfInBounds_toArray, List.set_cons_zero, List.set_cons_succ]
              refine wpAnyH_take (i := 18) (v := ?_) rfl (by kernel_rfl) (by kernel_rfl) (by kernel_rfl) (fun _ _ _ h => h) (Or.inl ⟨by rfl, fun w hSw => ?_⟩) hHeld ?_
              rotate_left
              · ((try dsimp only at hSw); go_split_ands; go_simp; (try with_reducible rfl))
              try simp only [Act.put, List.getElem_toArray, List.getElem_cons_zero, List.getElem_cons_succ, List.setIfInBounds_toArray, List.set_cons_zero, List.set_cons_succ]
              have hlB := kBox.lt
              have qb := kBox.cell
              have rb := kBox.frozen
              refine wpAnyH_ready (rs := [20]) (by kernel_rfl) (by simp) ?_
              refine AllReadyH.cons rfl (fun K hK => ?_) AllReadyH.nil
              try simp only [List.getElem_toArray, List.getElem_cons_zero, List.getElem_cons_succ]
              go_simp
              refine hK.out _ _ (⟨(((k0.next HBQ.out).far (p := ⟨xb, 0, none⟩) (by simp only; omega) _).far (p := ⟨xb, 1, none⟩) (by simp only; omega) _).cell, (((kx.next HBQ.out).far (p := ⟨xb, 0, none⟩) (by simp only; omega) _).far (p := ⟨xb, 1, none⟩) (by simp only; omega) _).cell⟩) (fun hHeldN => ?_)
              clear hHeld hK K
              have hHeld := hHeldN
              clear hHeldN
              try simp only [Act.put, List.getElem_toArray, List.getElem_cons_zero, List.getElem_cons_succ, List.setIfInBounds_toArray, List.set_cons_zero, List.set_cons_succ]
              refine wpAnyH_done (by kernel_rfl) ?_ _
              refine NoPanic.normal ?_
              go_wp2_with fail
              go_meet
              case rel =>
                refine ⟨xb, _, _, _, _, rfl, Lib.hid ((OF2.out.setT kBox (by decide) 0 _).setT (kBox.set_ 0 _) (by decide) 1 _), Lib.hid ((OB.out.setT kBox (by decide) 0 _).setT (kBox.set_ 0 _) (by decide) 1 _), ?_, hxbb, Lib.hid ((HBQ.out.setCell (p := ⟨xb, 0, none⟩) (by simp only; omega) _).setCell (p := ⟨xb, 1, none⟩) (by simp only; omega) _)⟩
                have := (kBox.set_ 0 (.slice F2 (a.facts.length + 1) e2)).set_ 1 (.slice G3 (a.atoms.length + 1) e4)
                simpa using this
            · skip
              try simp only [List.getElem_toArray, List.getElem_cons_zero, List.getElem_cons_succ]
              go_simp
              refine hK.out _ _ ⟨((k0.next HBQ.out).alloc _).cell, ((kx.next HBQ.out).alloc _).cell⟩ (fun hHeldN => ?_)
              clear hHeld hK K
              have hHeld := hHeldN
              clear hHeldN
              try simp only [Act.put, List.getElem_toArray, List.getElem_cons_zero, List.getElem_cons_succ, List.setIfInBounds_toArray, List.set_cons_zero, List.set_cons_succ]
              have hBq : Below wq.heap.size wq (wq.alloc (.cells #[.int .i64 2, .int .i64 m, .int .i64 x.b] tA)) := bbox (Below.refl _ _) _
              obtain ⟨y16, hy16⟩ : ∃ y, y = wq.heap.size := ⟨_, rfl⟩
              have hy16b : W.heap.size ≤ y16 := by omega
              replace HBQ := Lib.hid (HBQ.out.trans (hBq.mono hzq))
              replace hzq := Nat.le_trans hzq hBq.size
              try replace k7 := k7.next hBq
              try replace k16 := k16.next hBq
              try replace kBox := kBox.next hBq
              try replace OF2 := Lib.hid (OF2.out.below hBq)
              try replace OJ := Lib.hid (OJ.out.below hBq)
              try replace OB := Lib.hid (OB.out.below hBq)
              have k16 : Blk (wq.alloc (.cells #[.int .i64 2, .int .i64 m, .int .i64 x.b] tA)) y16 tA #[.int .i64 2, .int .i64 m, .int .i64 x.b] := Blk.newE hy16
              rw [← hy16]
              clear hBq hy16
              generalize wq.alloc (.cells #[.int .i64 2, .int .i64 m, .int .i64 x.b] tA) = wq at *
              refine wpAnyH_ready (rs := [11]) (by kernel_rfl) (by simp) ?_
              refine AllReadyH.cons rfl (fun K hK => ?_) AllReadyH.nil
              try simp only [List.getElem_toArray, List.getElem_cons_zero, List.getElem_cons_succ]
              go_simp
              refine (c_joinAn (some ⟨yE + 1, 0, none⟩) G1 1 d1 a.atoms.length [⟨1, x.a, (m : Int)⟩] (withoutL a.atoms i) _ (AtomsV.one (f := ⟨1, x.a, (m : Int)⟩) (kf.next HBQ.out)) (OR.out.readsI.2.below HBQ.out) (by simp <;> omega) (by omega)).mono ?_
              rintro e wq ⟨G2, e3, rfl, oJ, hBq⟩
              have hbs : W.heap.size ≤ _ := hzq
              replace HBQ := Lib.hid (HBQ.out.trans (hBq.mono hzq))
              replace hzq := Nat.le_trans hzq hBq.size
              try replace k7 := k7.next hBq
              try replace k16 := k16.next hBq
              try replace kBox := kBox.next hBq
              try replace OF2 := Lib.hid (OF2.out.below hBq)
              try replace OJ := Lib.hid (OJ.out.below hBq)
              try replace OB := Lib.hid (OB.out.below hBq)
              have OJ := Lib.hid (oJ.lower (base' := W.heap.size) hbs)
              clear oJ hBq hbs
              refine hK.out _ _ ⟨(k0.next HBQ.out).cell, (kx.next HBQ.out).cell⟩ (fun hHeldN => ?_)
              clear hHeld hK K
              have hHeld := hHeldN
              clear hHeldN
              try simp only [Act.put, List.getElem_toArray, List.getElem_cons_zero, List.getElem_cons_succ, List.setIfInBounds_toArray, List.set_cons_zero, List.set_cons_succ]
              refine wpAnyH_ready (rs := [17]) (by kernel_rfl) (by simp) ?_
              refine AllReadyH.cons rfl (fun K hK => ?_) AllReadyH.nil
              refine stepALn (ys := [⟨2, (m : Int), x.b⟩]) (n := a.atoms.length + 1) rfl _ _ rfl rfl OJ.out rfl (AtomsV.one (f := ⟨2, (m : Int), x.b⟩) k16) (by simp <;> omega) (by omega) hzq ?_
              intro G3 e4 wq oB hg hBq
              try replace kBox := Blk.grownO kBox OJ.out.1 hg (by decide)
              replace OF2 := Lib.hid (OF2.out.grownA OJ.out hg)
              replace HBQ := Lib.hid (HBQ.out.trans hBq)
              replace hzq := Nat.le_trans hzq hBq.size
              have OB := Lib.hid oB
              clear oB hg hBq OJ
              refine hK.out _ _ ⟨(k0.next HBQ.out).cell, (kx.next HBQ.out).cell⟩ (fun hHeldN => ?_)
              clear hHeld hK K
              have hHeld := hHeldN
              clear hHeldN
              try simp only [Act.put, List.getElem_toArray, List.getElem_cons_zero, List.getElem_cons_succ, List.setIfInBounds_toArray, List.set_cons_zero, List.set_cons_succ]
              refine wpAnyH_take (i := 18) (v := ?_) rfl (by kernel_rfl) (by kernel_rfl) (by kernel_rfl) (fun _ _ _ h => h) (Or.inl ⟨by rfl, fun w hSw => ?_⟩) hHeld ?_
              rotate_left
              · ((try dsimp only at hSw); go_split_ands; go_simp; (try with_reducible rfl))
              try simp only [Act.put, List.getElem_toArray, List.getElem_cons_zero, List.getElem_cons_succ, List.setIfInBounds_toArray, List.set_cons_zero, List.set_cons_succ]
              have hlB := kBox.lt
              have qb := kBox.cell
              have rb := kBox.frozen
              refine wpAnyH_ready (rs := [20]) (by kernel_rfl) (by simp) ?_
              refine AllReadyH.cons rfl (fun K hK => ?_) AllReadyH.nil
              try simp only [List.getElem_toArray, List.getElem_cons_zero, List.getElem_cons_succ]
              go_simp
              refine hK.out _ _ (⟨(((k0.next HBQ.out).far (p := ⟨xb, 0, none⟩) (by simp only; omega) _).far (p := ⟨xb, 1, none⟩) (by simp only; omega) _).cell, (((kx.next HBQ.out).far (p := ⟨xb, 0, none⟩) (by simp only; omega) _).far (p := ⟨xb, 1, none⟩) (by simp only; omega) _).cell⟩) (fun hHeldN => ?_)
              clear hHeld hK K
              have hHeld := hHeldN
              clear hHeldN
              try simp only [Act.put, List.getElem_toArray, List.getElem_cons_zero, List.getElem_cons_succ, List.setIfInBounds_toArray, List.set_cons_zero, List.set_cons_succ]
              refine wpAnyH_done (by kernel_rfl) ?_ _
              refine NoPanic.normal ?_
              go_wp2_with fail
              go_meet
              case rel =>
                refine ⟨xb, _, _, _, _, rfl, Lib.hid ((OF2.out.setT kBox (by decide) 0 _).setT (kBox.set_ 0 _) (by decide) 1 _), Lib.hid ((OB.out.setT kBox (by decide) 0 _).setT (kBox.set_ 0 _) (by decide) 1 _), ?_, hxbb, Lib.hid ((HBQ.out.setCell (p := ⟨xb, 0, none⟩) (by simp only; omega) _).setCell (p := ⟨xb, 1, none⟩) (by simp only; omega) _)⟩
                have := (kBox.set_ 0 (.slice F2 (a.facts.length + 1) e2)).set_ 1 (.slice G3 (a.atoms.length + 1) e4)
                simpa using this
        · skip
          try simp only [List.getElem_toArray, List.getElem_cons_zero, List.getElem_cons_succ]
          go_simp
          refine hK.out _ _ ⟨((k0.next HBQ.out).alloc _).cell, ((kx.next HBQ.out).alloc _).cell⟩ (fun hHeldN => ?_)
          clear hHeld hK K
          have hHeld := hHeldN
          clear hHeldN
          try simp only [Act.put, List.getElem_toArray, List.getElem_cons_zero, List.getElem_cons_succ, List.setIfInBounds_toArray, List.set_cons_zero, List.set_cons_succ]
          have hBq : Below wq.heap.size wq (wq.alloc (.cells #[.int .i64 2, .int .i64 m, .int .i64 x.b] tA)) := bbox (Below.refl _ _) _
          obtain ⟨y16, hy16⟩ : ∃ y, y = wq.heap.size := ⟨_, rfl⟩
          have hy16b : W.heap.size ≤ y16 := by omega
          replace HBQ := Lib.hid (HBQ.out.trans (hBq.mono hzq))
          replace hzq := Nat.le_trans hzq hBq.size
          try replace k7 := k7.next hBq
          try replace k16 := k16.next hBq
          try replace kBox := kBox.next hBq
          try replace OF2 := Lib.hid (OF2.out.below hBq)
          try replace OJ := Lib.hid (OJ.out.below hBq)
          try replace OB := Lib.hid (OB.out.below hBq)
          have k16 : Blk (wq.alloc (.cells #[.int .i64 2, .int .i64 m, .int .i64 x.b] tA)) y16 tA #[.int .i64 2, .int .i64 m, .int .i64 x.b] := Blk.newE hy16
          rw [← hy16]
          clear hBq hy16
          generalize wq.alloc (.cells #[.int .i64 2, .int .i64 m, .int .i64 x.b] tA) = wq at *
          refine wpAnyH_ready (rs := [8, 19]) (by kernel_rfl) (by simp) ?_
          refine AllReadyH.cons rfl (fun K hK => ?_) (AllReadyH.cons rfl (fun K hK => ?_) AllReadyH.nil)
          · skip
            try simp only [List.getElem_toArray, List.getElem_cons_zero, List.getElem_cons_succ]
            go_simp
            refine (c_joinFn A1 (some ⟨y7, 0, none⟩) c1 1 (a.facts.length + 1) a.facts [⟨false, x.a, x.b⟩] _ (H1.out.below (bgo HB.out HBQ.out)) (FactsV.one (f := ⟨false, x.a, x.b⟩) k7) rfl (by omega)).mono ?_
            rintro e wq ⟨F2, e2, rfl, oF, hBq⟩
            have hbs : W.heap.size ≤ _ := hzq
            replace HBQ := Lib.hid (HBQ.out.trans (hBq.mono hzq))
            replace hzq := Nat.le_trans hzq hBq.size
            try replace k7 := k7.next hBq
            try replace k16 := k16.next hBq
            try replace kBox := kBox.next hBq
            try replace OF2 := Lib.hid (OF2.out.below hBq)
            try replace OJ := Lib.hid (OJ.out.below hBq)
            try replace OB := Lib.hid (OB.out.below hBq)
            have OF2 := Lib.hid (oF.lower (base' := W.heap.size) hbs)
            clear oF hBq hbs
            refine hK.out _ _ ⟨(k0.next HBQ.out).cell, (kx.next HBQ.out).cell⟩ (fun hHeldN => ?_)
            clear hHeld hK K
            have hHeld := hHeldN
            clear hHeldN
            try simp only [Act.put, List.getElem_toArray, List.getElem_cons_zero, List.getElem_cons_succ, List.setIfInBounds_toArray, List.set_cons_zero, List.set_cons_succ]
            refine wpAnyH_ready (rs := [11, 19]) (by kernel_rfl) (by simp) ?_
            refine AllReadyH.cons rfl (fun K hK => ?_) (AllReadyH.cons rfl (fun K hK => ?_) AllReadyH.nil)
            · skip
              try simp only [List.getElem_toArray, List.getElem_cons_zero, List.getElem_cons_succ]
              go_simp
              refine (c_joinAn (some ⟨yE + 1, 0, none⟩) G1 1 d1 a.atoms.length [⟨1, x.a, (m : Int)⟩] (withoutL a.atoms i) _ (AtomsV.one (f := ⟨1, x.a, (m : Int)⟩) (kf.next HBQ.out)) (OR.out.readsI.2.below HBQ.out) (by simp <;> omega) (by omega)).mono ?_
              rintro e wq ⟨G2, e3, rfl, oJ, hBq⟩
              have hbs : W.heap.size ≤ _ := hzq
              replace HBQ := Lib.hid (HBQ.out.trans (hBq.mono hzq))
              replace hzq := Nat.le_trans hzq hBq.size
              try replace k7 := k7.next hBq
              try replace k16 := k16.next hBq
              try replace kBox := kBox.next hBq
              try replace OF2 := Lib.hid (OF2.out.below hBq)
              try replace OJ := Lib.hid (OJ.out.below hBq)
              try replace OB := Lib.hid (OB.out.below hBq)
              have OJ := Lib.hid (oJ.lower (base' := W.heap.size) hbs)
              clear oJ hBq hbs
              refine hK.out _ _ ⟨(k0.next HBQ.out).cell, (kx.next HBQ.out).cell⟩ (fun hHeldN => ?_)
              clear hHeld hK K
              have hHeld := hHeldN
              clear hHeldN
              try simp only [Act.put, List.getElem_toArray, List.getElem_cons_zero, List.getElem_cons_succ, List.setIfInBounds_toArray, List.set_cons_zero, List.set_cons_succ]
              refine wpAnyH_ready (rs := [17, 19]) (by kernel_rfl) (by simp) ?_
              refine AllReadyH.cons rfl (fun K hK => ?_) (AllReadyH.cons rfl (fun K hK => ?_) AllReadyH.nil)
              · skip
                refine stepALn (ys := [⟨2, (m : Int), x.b⟩]) (n := a.atoms.length + 1) rfl _ _ rfl rfl OJ.out rfl (AtomsV.one (f := ⟨2, (m : Int), x.b⟩) k16) (by simp <;> omega) (by omega) hzq ?_
                intro G3 e4 wq oB hg hBq
                try replace kBox := Blk.grownO kBox OJ.out.1 hg (by decide)
                replace OF2 := Lib.hid (OF2.out.grownA OJ.out hg)
                replace HBQ := Lib.hid (HBQ.out.trans hBq)
                replace hzq := Nat.le_trans hzq hBq.size
                have OB := Lib.hid oB
                clear oB hg hBq OJ
                refine hK.out _ _ ⟨(k0.next HBQ.out).cell, (kx.next HBQ.out).cell⟩ (fun hHeldN => ?_)
                clear hHeld hK K
                have hHeld := hHeldN
                clear hHeldN
                try simp only [Act.put, List.getElem_toArray, List.getElem_cons_zero, List.getElem_cons_succ, List.setIfInBounds_toArray, List.set_cons_zero, List.set_cons_succ]
                refine wpAnyH_take (i := 18) (v := ?_) rfl (by kernel_rfl) (by kernel_rfl) (by kernel_rfl) (fun _ _ _ h => h) (Or.inl ⟨by rfl, fun w hSw => ?_⟩) hHeld ?_
                rotate_left
                · ((try dsimp only at hSw); go_split_ands; go_simp; (try with_reducible rfl))
                try simp only [Act.put, List.getElem_toArray, List.getElem_cons_zero, List.getElem_cons_succ, List.setIfInBounds_toArray, List.set_cons_zero, List.set_cons_succ]
                refine wpAnyH_ready (rs := [19]) (by kernel_rfl) (by simp) ?_
                refine AllReadyH.cons rfl (fun K hK => ?_) AllReadyH.nil
                try simp only [List.getElem_toArray, List.getElem_cons_zero, List.getElem_cons_succ]
                go_simp
                refine hK.out _ _ ⟨((k0.next HBQ.out).alloc _).cell, ((kx.next HBQ.out).alloc _).cell⟩ (fun hHeldN => ?_)
                clear hHeld hK K
                have hHeld := hHeldN
                clear hHeldN
                try simp only [Act.put, List.getElem_toArray, List.getElem_cons_zero, List.getElem_cons_succ, List.setIfInBounds_toArray, List.set_cons_zero, List.set_cons_succ]
                have hBq : Below wq.heap.size wq (wq.alloc (.cells #[.slice none 0 0, .slice none 0 0] tAs)) := bbox (Below.refl _ _) _
                obtain ⟨xb, hxb⟩ : ∃ y, y = wq.heap.size := ⟨_, rfl⟩
                have hxbb : W.heap.size ≤ xb := by omega
                replace HBQ := Lib.hid (HBQ.out.trans (hBq.mono hzq))
                replace hzq := Nat.le_trans hzq hBq.size
                try replace k7 := k7.next hBq
                try replace k16 := k16.next hBq
                try replace kBox := kBox.next hBq
                try replace OF2 := Lib.hid (OF2.out.below hBq)
                try replace OJ := Lib.hid (OJ.out.below hBq)
                try replace OB := Lib.hid (OB.out.below hBq)
                have kBox : Blk (wq.alloc (.cells #[.slice none 0 0, .slice none 0 0] tAs)) xb tAs #[.slice none 0 0, .slice none 0 0] := Blk.newE hxb
                rw [← hxb]
                clear hBq hxb
                generalize wq.alloc (.cells #[.slice none 0 0, .slice none 0 0] tAs) = wq at *
                have hlB := kBox.lt
                have qb := kBox.cell
                have rb := kBox.frozen
                refine wpAnyH_ready (rs := [20]) (by kernel_rfl) (by simp) ?_
                refine AllReadyH.cons rfl (fun K hK => ?_) AllReadyH.nil
                try simp only [List.getElem_toArray, List.getElem_cons_zero, List.getElem_cons_succ]
                go_simp
                refine hK.out _ _ (⟨(((k0.next HBQ.out).far (p := ⟨xb, 0, none⟩) (by simp only; omega) _).far (p := ⟨xb, 1, none⟩) (by simp only; omega) _).cell, (((kx.next HBQ.out).far (p := ⟨xb, 0, none⟩) (by simp only; omega) _).far (p := ⟨xb, 1, none⟩) (by simp only; omega) _).cell⟩) (fun hHeldN => ?_)
                clear hHeld hK K
                have hHeld := hHeldN
                clear hHeldN
                try simp only [Act.put, List.getElem_toArray, List.getElem_cons_zero, List.getElem_cons_succ, List.setIfInBounds_toArray, List.set_cons_zero, List.set_cons_succ]
                refine wpAnyH_done (by kernel_rfl) ?_ _
                refine NoPanic.normal ?_
                go_wp2_with fail
                go_meet
                case rel =>
                  refine ⟨xb, _, _, _, _, rfl, Lib.hid ((OF2.out.setT kBox (by decide) 0 _).setT (kBox.set_ 0 _) (by decide) 1 _), Lib.hid ((OB.out.setT kBox (by decide) 0 _).setT (kBox.set_ 0 _) (by decide) 1 _), ?_, hxbb, Lib.hid ((HBQ.out.setCell (p := ⟨xb, 0, none⟩) (by simp only; omega) _).setCell (p := ⟨xb, 1, none⟩) (by simp only; omega) _)⟩
                  have := (kBox.set_ 0 (.slice F2 (a.facts.length + 1) e2)).set_ 1 (.slice G3 (a.atoms.length + 1) e4)
                  simpa using this
              · skip
                try simp only [List.getElem_toArray, List.getElem_cons_zero, List.getElem_cons_succ]
                go_simp
                refine hK.out _ _ ⟨((k0.next HBQ.out).alloc _).cell, ((kx.next HBQ.out).alloc _).cell⟩ (fun hHeldN => ?_)
                clear hHeld hK K
                have hHeld := hHeldN
                clear hHeldN
                try simp only [Act.put, List.getElem_toArray, List.getElem_cons_zero, List.getElem_cons_succ, List.setIfInBounds_toArray, List.set_cons_zero, List.set_cons_succ]
                have hBq : Below wq.heap.size wq (wq.alloc (.cells #[.slice none 0 0, .slice none 0 0] tAs)) := bbox (Below.refl _ _) _
                obtain ⟨xb, hxb⟩ : ∃ y, y = wq.heap.size := ⟨_, rfl⟩
                have hxbb : W.heap.size ≤ xb := by omega
                replace HBQ := Lib.hid (HBQ.out.trans (hBq.mono hzq))
                replace hzq := Nat.le_trans hzq hBq.size
                try replace k7 := k7.next hBq
                try replace k16 := k16.next hBq
                try replace kBox := kBox.next hBq
                try replace OF2 := Lib.hid (OF2.out.below hBq)
                try replace OJ := Lib.hid (OJ.out.below hBq)
                try replace OB := Lib.hid (OB.out.below hBq)
                have kBox : Blk (wq.alloc (.cells #[.slice none 0 0, .slice none 0 0] tAs)) xb tAs #[.slice none 0 0, .slice none 0 0] := Blk.newE hxb
                rw [← hxb]
                clear hBq hxb
                generalize wq.alloc (.cells #[.slice none 0 0, .slice none 0 0] tAs) = wq at *
                refine wpAnyH_ready (rs := [17]) (by kernel_rfl) (by simp) ?_
                refine AllReadyH.cons rfl (fun K hK => ?_) AllReadyH.nil
                refine stepALn (ys := [⟨2, (m : Int), x.b⟩]) (n := a.atoms.length + 1) rfl _ _ rfl rfl OJ.out rfl (AtomsV.one (f := ⟨2, (m : Int), x.b⟩) k16) (by simp <;> omega) (by omega) hzq ?_
                intro G3 e4 wq oB hg hBq
                try replace kBox := Blk.grownO kBox OJ.out.1 hg (by decide)
                replace OF2 := Lib.hid (OF2.out.grownA OJ.out hg)
                replace HBQ := Lib.hid (HBQ.out.trans hBq)
                replace hzq := Nat.le_trans hzq hBq.size
                have OB := Lib.hid oB
                clear oB hg hBq OJ
                refine hK.out _ _ ⟨(k0.next HBQ.out).cell, (kx.next HBQ.out).cell⟩ (fun hHeldN => ?_)
                clear hHeld hK K
                have hHeld := hHeldN
                clear hHeldN
                try simp only [Act.put, List.getElem_toArray, List.getElem_cons_zero, List.getElem_cons_succ, List.setIfInBounds_toArray, List.set_cons_zero, List.set_cons_succ]
                refine wpAnyH_take (i := 18) (v := ?_) rfl (by kernel_rfl) (by kernel_rfl) (by kernel_rfl) (fun _ _ _ h => h) (Or.inl ⟨by rfl, fun w hSw => ?_⟩) hHeld ?_
                rotate_left
                · ((try dsimp only at hSw); go_split_ands; go_simp; (try with_reducible rfl))
                try simp only [Act.put, List.getElem_toArray, List.getElem_cons_zero, List.getElem_cons_succ, List.setIfInBounds_toArray, List.set_cons_zero, List.set_cons_succ]
                have hlB := kBox.lt
                have qb := kBox.cell
                have rb := kBox.frozen
                refine wpAnyH_ready (rs := [20]) (by kernel_rfl) (by simp) ?_
                refine AllReadyH.cons rfl (fun K hK => ?_) AllReadyH.nil
                try simp only [List.getElem_toArray, List.getElem_cons_zero, List.getElem_cons_succ]
                go_simp
                refine hK.out _ _ (⟨(((k0.next HBQ.out).far (p := ⟨xb, 0, none⟩) (by simp only; omega) _).far (p := ⟨xb, 1, none⟩) (by simp only; omega) _).cell, (((kx.next HBQ.out).far (p := ⟨xb, 0, none⟩) (by simp only; omega) _).far (p := ⟨xb, 1, none⟩) (by simp only; omega) _).cell⟩) (fun hHeldN => ?_)
                clear hHeld hK K
                have hHeld := hHeldN
                clear hHeldN
                try simp only [Act.put, List.getElem_toArray, List.getElem_cons_zero, List.getElem_cons_succ, List.setIfInBounds_toArray, List.set_cons_zero, List.set_cons_succ]
                refine wpAnyH_done (by kernel_rfl) ?_ _
                refine NoPanic.normal ?_
                go_wp2_with fail
                go_meet
                case rel =>
                  refine ⟨xb, _, _, _, _, rfl, Lib.hid ((OF2.out.setT kBox (by decide) 0 _).setT (kBox.set_ 0 _) (by decide) 1 _), Lib.hid ((OB.out.setT kBox (by decide) 0 _).setT (kBox.set_ 0 _) (by decide) 1 _), ?_, hxbb, Lib.hid ((HBQ.out.setCell (p := ⟨xb, 0, none⟩) (by simp only; omega) _).setCell (p := ⟨xb, 1, none⟩) (by simp only; omega) _)⟩
                  have := (kBox.set_ 0 (.slice F2 (a.facts.length + 1) e2)).set_ 1 (.slice G3 (a.atoms.length + 1) e4)
                  simpa using this
            · skip
              try simp only [List.getElem_toArray, List.getElem_cons_zero, List.getElem_cons_succ]
              go_simp
              refine hK.out _ _ ⟨((k0.next HBQ.out).alloc _).cell, ((kx.next HBQ.out).alloc _).cell⟩ (fun hHeldN => ?_)
              clear hHeld hK K
              have hHeld := hHeldN
              clear hHeldN
              try simp only [Act.put, List.getElem_toArray, List.getElem_cons_zero, List.getElem_cons_succ, List.setIfInBounds_toArray, List.set_cons_zero, List.set_cons_succ]
              have hBq : Below wq.heap.size wq (wq.alloc (.cells #[.slice none 0 0, .slice none 0 0] tAs)) := bbox (Below.refl _ _) _
              obtain ⟨xb, hxb⟩ : ∃ y, y = wq.heap.size := ⟨_, rfl⟩
              have hxbb : W.heap.size ≤ xb := by omega
              replace HBQ := Lib.hid (HBQ.out.trans (hBq.mono hzq))
              replace hzq := Nat.le_trans hzq hBq.size
              try replace k7 := k7.next hBq
              try replace k16 := k16.next hBq
              try replace kBox := kBox.next hBq
              try replace OF2 := Lib.hid (OF2.out.below hBq)
              try replace OJ := Lib.hid (OJ.out.below hBq)
              try replace OB := Lib.hid (OB.out.below hBq)
              have kBox : Blk (wq.alloc (.cells #[.slice none 0 0, .slice none 0 0] tAs)) xb tAs #[.slice none 0 0, .slice none 0 0] := Blk.newE hxb
              rw [← hxb]
              clear hBq hxb
              generalize wq.alloc (.cells #[.slice none 0 0, .slice none 0 0] tAs) = wq at *
              refine wpAnyH_ready (rs := [11]) (by kernel_rfl) (by simp) ?_
              refine AllReadyH.cons rfl (fun K hK => ?_) AllReadyH.nil
              try simp only [List.getElem_toArray, List.getElem_cons_zero, List.getElem_cons_succ]
              go_simp
              refine (c_joinAn (some ⟨yE + 1, 0, none⟩) G1 1 d1 a.atoms.length [⟨1, x.a, (m : Int)⟩] (withoutL a.atoms i) _ (AtomsV.one (f := ⟨1, x.a, (m : Int)⟩) (kf.next HBQ.out)) (OR.out.readsI.2.below HBQ.out) (by simp <;> omega) (by omega)).mono ?_
              rintro e wq ⟨G2, e3, rfl, oJ, hBq⟩
              have hbs : W.heap.size ≤ _ := hzq
              replace HBQ := Lib.hid (HBQ.out.trans (hBq.mono hzq))
              replace hzq := Nat.le_trans hzq hBq.size
              try replace k7 := k7.next hBq
              try replace k16 := k16.next hBq
              try replace kBox := kBox.next hBq
              try replace OF2 := Lib.hid (OF2.out.below hBq)
              try replace OJ := Lib.hid (OJ.out.below hBq)
              try replace OB := Lib.hid (OB.out.below hBq)
              have OJ := Lib.hid (oJ.lower (base' := W.heap.size) hbs)
              clear oJ hBq hbs
              refine hK.out _ _ ⟨(k0.next HBQ.out).cell, (kx.next HBQ.out).cell⟩ (fun hHeldN => ?_)
              clear hHeld hK K
              have hHeld := hHeldN
              clear hHeldN
              try simp only [Act.put, List.getElem_toArray, List.getElem_cons_zero, List.getElem_cons_succ, List.setIfInBounds_toArray, List.set_cons_zero, List.set_cons_succ]
              refine wpAnyH_ready (rs := [17]) (by kernel_rfl) (by simp) ?_
              refine AllReadyH.cons rfl (fun K hK => ?_) AllReadyH.nil
              refine stepALn (ys := [⟨2, (m : Int), x.b⟩]) (n := a.atoms.length + 1) rfl _ _ rfl rfl OJ.out rfl (AtomsV.one (f := ⟨2, (m : Int), x.b⟩) k16) (by simp <;> omega) (by omega) hzq ?_
              intro G3 e4 wq oB hg hBq
              try replace kBox := Blk.grownO kBox OJ.out.1 hg (by decide)
              replace OF2 := Lib.hid (OF2.out.grownA OJ.out hg)
              replace HBQ := Lib.hid (HBQ.out.trans hBq)
              replace hzq := Nat.le_trans hzq hBq.size
              have OB := Lib.hid oB
              clear oB hg hBq OJ
              refine hK.out _ _ ⟨(k0.next HBQ.out).cell, (kx.next HBQ.out).cell⟩ (fun hHeldN => ?_)
              clear hHeld hK K
              have hHeld := hHeldN
              clear hHeldN
              try simp only [Act.put, List.getElem_toArray, List.getElem_cons_zero, List.getElem_cons_succ, List.setIfInBounds_toArray, List.set_cons_zero, List.set_cons_succ]
              refine wpAnyH_take (i := 18) (v := ?_) rfl (by kernel_rfl) (by kernel_rfl) (by kernel_rfl) (fun _ _ _ h => h) (Or.inl ⟨by rfl, fun w hSw => ?_⟩) hHeld ?_
              rotate_left
              · ((try dsimp only at hSw); go_split_ands; go_simp; (try with_reducible rfl))
              try simp only [Act.put, List.getElem_toArray, List.getElem_cons_zero, List.getElem_cons_succ, List.setIfInBounds_toArray, List.set_cons_zero, List.set_cons_succ]
              have hlB := kBox.lt
              have qb := kBox.cell
              have rb := kBox.frozen
              refine wpAnyH_ready (rs := [20]) (by kernel_rfl) (by simp) ?_
              refine AllReadyH.cons rfl (fun K hK => ?_) AllReadyH.nil
              try simp only [List.getElem_toArray, List.getElem_cons_zero, List.getElem_cons_succ]
              go_simp
              refine hK.out _ _ (⟨(((k0.next HBQ.out).far (p := ⟨xb, 0, none⟩) (by simp only; omega) _).far (p := ⟨xb, 1, none⟩) (by simp only; omega) _).cell, (((kx.next HBQ.out).far (p := ⟨xb, 0, none⟩) (by simp only; omega) _).far (p := ⟨xb, 1, none⟩) (by simp only; omega) _).cell⟩) (fun hHeldN => ?_)
              clear hHeld hK K
              have hHeld := hHeldN
              clear hHeldN
              try simp only [Act.put, List.getElem_toArray, List.getElem_cons_zero, List.getElem_cons_succ, List.setIfInBounds_toArray, List.set_cons_zero, List.set_cons_succ]
              refine wpAnyH_done (by kernel_rfl) ?_ _
              refine NoPanic.normal ?_
              go_wp2_with fail
              go_meet
              case rel =>
                refine ⟨xb, _, _, _, _, rfl, Lib.hid ((OF2.out.setT kBox (by decide) 0 _).setT (kBox.set_ 0 _) (by decide) 1 _), Lib.hid ((OB.out.setT kBox (by decide) 0 _).setT (kBox.set_ 0 _) (by decide) 1 _), ?_, hxbb, Lib.hid ((HBQ.out.setCell (p := ⟨xb, 0, none⟩) (by simp only; omega) _).setCell (p := ⟨xb, 1, none⟩) (by simp only; omega) _)⟩
                have := (kBox.set_ 0 (.slice F2 (a.facts.length + 1) e2)).set_ 1 (.slice G3 (a.atoms.length + 1) e4)
                simpa using this
          · skip
            try simp only [List.getElem_toArray, List.getElem_cons_zero, List.getElem_cons_succ]
            go_simp
            refine hK.out _ _ ⟨((k0.next HBQ.out).alloc _).cell, ((kx.next HBQ.out).alloc _).cell⟩ (fun hHeldN => ?_)
            clear hHeld hK K
            have hHeld := hHeldN
            clear hHeldN
            try simp only [Act.put, List.getElem_toArray, List.getElem_cons_zero, List.getElem_cons_succ, List.setIfInBounds_toArray, List.set_cons_zero, List.set_cons_succ]
            have hBq : Below wq.heap.size wq (wq.alloc (.cells #[.slice none 0 0, .slice none 0 0] tAs)) := bbox (Below.refl _ _) _
            obtain ⟨xb, hxb⟩ : ∃ y, y = wq.heap.size := ⟨_, rfl⟩
            have hxbb : W.heap.size ≤ xb := by omega
            replace HBQ := Lib.hid (HBQ.out.trans (hBq.mono hzq))
            replace hzq := Nat.le_trans hzq hBq.size
            try replace k7 := k7.next hBq
            try replace k16 := k16.next hBq
            try replace kBox := kBox.next hBq
            try replace OF2 := Lib.hid (OF2.out.below hBq)
            try replace OJ := Lib.hid (OJ.out.below hBq)
            try replace OB := Lib.hid (OB.out.below hBq)
            have kBox : Blk (wq.alloc (.cells #[.slice none 0 0, .slice none 0 0] tAs)) xb tAs #[.slice none 0 0, .slice none 0 0] := Blk.newE hxb
            rw [← hxb]
            clear hBq hxb
            generalize wq.alloc (.cells #[.slice none 0 0, .slice none 0 0] tAs) = wq at *
            refine wpAnyH_ready (rs := [8]) (by kernel_rfl) (by simp) ?_
            refine AllReadyH.cons rfl (fun K hK => ?_) AllReadyH.nil
            try simp only [List.getElem_toArray, List.getElem_cons_zero, List.getElem_cons_succ]
            go_simp
            refine (c_joinFn A1 (some ⟨y7, 0, none⟩) c1 1 (a.facts.length + 1) a.facts [⟨false, x.a, x.b⟩] _ (H1.out.below (bgo HB.out HBQ.out)) (FactsV.one (f := ⟨false, x.a, x.b⟩) k7) rfl (by omega)).mono ?_
            rintro e wq ⟨F2, e2, rfl, oF, hBq⟩
            have hbs : W.heap.size ≤ _ := hzq
            replace HBQ := Lib.hid (HBQ.out.trans (hBq.mono hzq))
            replace hzq := Nat.le_trans hzq hBq.size
            try replace k7 := k7.next hBq
            try replace k16 := k16.next hBq
            try replace kBox := kBox.next hBq
            try replace OF2 := Lib.hid (OF2.out.below hBq)
            try replace OJ := Lib.hid (OJ.out.below hBq)
            try replace OB := Lib.hid (OB.out.below hBq)
            have OF2 := Lib.hid (oF.lower (base' := W.heap.size) hbs)
            clear oF hBq hbs
            refine hK.out _ _ ⟨(k0.next HBQ.out).cell, (kx.next HBQ.out).cell⟩ (fun hHeldN => ?_)
            clear hHeld hK K
            have hHeld := hHeldN
            clear hHeldN
            try simp only [Act.put, List.getElem_toArray, List.getElem_cons_zero, List.getElem_cons_succ, List.setIfInBounds_toArray, List.set_cons_zero, List.set_cons_succ]
            refine wpAnyH_ready (rs := [11]) (by kernel_rfl) (by simp) ?_
            refine AllReadyH.cons rfl (fun K hK => ?_) AllReadyH.nil
            try simp only [List.getElem_toArray, List.getElem_cons_zero, List.getElem_cons_succ]
            go_simp
            refine (c_joinAn (some ⟨yE + 1, 0, none⟩) G1 1 d1 a.atoms.length [⟨1, x.a, (m : Int)⟩] (withoutL a.atoms i) _ (AtomsV.one (f := ⟨1, x.a, (m : Int)⟩) (kf.next HBQ.out)) (OR.out.readsI.2.below HBQ.out) (by simp <;> omega) (by omega)).mono ?_
            rintro e wq ⟨G2, e3, rfl, oJ, hBq⟩
            have hbs : W.heap.size ≤ _ := hzq
            replace HBQ := Lib.hid (HBQ.out.trans (hBq.mono hzq))
            replace hzq := Nat.le_trans hzq hBq.size
            try replace k7 := k7.next hBq
            try replace k16 := k16.next hBq
            try replace kBox := kBox.next hBq
            try replace OF2 := Lib.hid (OF2.out.below hBq)
            try replace OJ := Lib.hid (OJ.out.below hBq)
            try replace OB := Lib.hid (OB.out.below hBq)
            have OJ := Lib.hid (oJ.lower (base' := W.heap.size) hbs)
            clear oJ hBq hbs
            refine hK.out _ _ ⟨(k0.next HBQ.out).cell, (kx.next HBQ.out).cell⟩ (fun hHeldN => ?_)
            clear hHeld hK K
            have hHeld := hHeldN
            clear hHeldN
            try simp only [Act.put, List.getElem_toArray, List.getElem_cons_zero, List.getElem_cons_succ, List.setIfInBounds_toArray, List.set_cons_zero, List.set_cons_succ]
            refine wpAnyH_ready (rs := [17]) (by kernel_rfl) (by simp) ?_
            refine AllReadyH.cons rfl (fun K hK => ?_) AllReadyH.nil
            refine stepALn (ys := [⟨2, (m : Int), x.b⟩]) (n := a.atoms.length + 1) rfl _ _ rfl rfl OJ.out rfl (AtomsV.one (f := ⟨2, (m : Int), x.b⟩) k16) (by simp <;> omega) (by omega) hzq ?_
            intro G3 e4 wq oB hg hBq
            try replace kBox := Blk.grownO kBox OJ.out.1 hg (by decide)
            replace OF2 := Lib.hid (OF2.out.grownA OJ.out hg)
            replace HBQ := Lib.hid (HBQ.out.trans hBq)
            replace hzq := Nat.le_trans hzq hBq.size
            have OB := Lib.hid oB
            clear oB hg hBq OJ
            refine hK.out _ _ ⟨(k0.next HBQ.out).cell, (kx.next HBQ.out).cell⟩ (fun hHeldN => ?_)
            clear hHeld hK K
            have hHeld := hHeldN
            clear hHeldN
            try simp only [Act.put, List.getElem_toArray, List.getElem_cons_zero, List.getElem_cons_succ, List.setIfInBounds_toArray, List.set_cons_zero, List.set_cons_succ]
            refine wpAnyH_take (i := 18) (v := ?_) rfl (by kernel_rfl) (by kernel_rfl) (by kernel_rfl) (fun _ _ _ h => h) (Or.inl ⟨by rfl, fun w hSw => ?_⟩) hHeld ?_
            rotate_left
            · ((try dsimp only at hSw); go_split_ands; go_simp; (try with_reducible rfl))
            try simp only [Act.put, List.getElem_toArray, List.getElem_cons_zero, List.getElem_cons_succ, List.setIfInBounds_toArray, List.set_cons_zero, List.set_cons_succ]
            have hlB := kBox.lt
            have qb := kBox.cell
            have rb := kBox.frozen
            refine wpAnyH_ready (rs := [20]) (by kernel_rfl) (by simp) ?_
            refine AllReadyH.cons rfl (fun K hK => ?_) AllReadyH.nil
            try simp only [List.getElem_toArray, List.getElem_cons_zero, List.getElem_cons_succ]
            go_simp
            refine hK.out _ _ (⟨(((k0.next HBQ.out).far (p := ⟨xb, 0, none⟩) (by simp only; omega) _).far (p := ⟨xb, 1, none⟩) (by simp only; omega) _).cell, (((kx.next HBQ.out).far (p := ⟨xb, 0, none⟩) (by simp only; omega) _).far (p := ⟨xb, 1, none⟩) (by simp only; omega) _).cell⟩) (fun hHeldN => ?_)
            clear hHeld hK K
            have hHeld := hHeldN
            clear hHeldN
            try simp only [Act.put, List.getElem_toArray, List.getElem_cons_zero, List.getElem_cons_succ, List.setIfInBounds_toArray, List.set_cons_zero, List.set_cons_succ]
            refine wpAnyH_done (by kernel_rfl) ?_ _
            refine NoPanic.normal ?_
            go_wp2_with fail
            go_meet
            case rel =>
              refine ⟨xb, _, _, _, _, rfl, Lib.hid ((OF2.out.setT kBox (by decide) 0 _).setT (kBox.set_ 0 _) (by decide) 1 _), Lib.hid ((OB.out.setT kBox (by decide) 0 _).setT (kBox.set_ 0 _) (by decide) 1 _), ?_, hxbb, Lib.hid ((HBQ.out.setCell (p := ⟨xb, 0, none⟩) (by simp only; omega) _).setCell (p := ⟨xb, 1, none⟩) (by simp only; omega) _)⟩
              have := (kBox.set_ 0 (.slice F2 (a.facts.length + 1) e2)).set_ 1 (.slice G3 (a.atoms.length + 1) e4)
              simpa using this
        · skip
          try simp only [List.getElem_toArray, List.getElem_cons_zero, List.getElem_cons_succ]
          go_simp
          refine hK.out _ _ ⟨((k0.next HBQ.out).alloc _).cell, ((kx.next HBQ.out).alloc _).cell⟩ (fun hHeldN => ?_)
          clear hHeld hK K
          have hHeld := hHeldN
          clear hHeldN
          try simp only [Act.put, List.getElem_toArray, List.getElem_cons_zero, List.getElem_cons_succ, List.setIfInBounds_toArray, List.set_cons_zero, List.set_cons_succ]
          have hBq : Below wq.heap.size wq (wq.alloc (.cells #[.slice none 0 0, .slice none 0 0] tAs)) := bbox (Below.refl _ _) _
          obtain ⟨xb, hxb⟩ : ∃ y, y = wq.heap.size := ⟨_, rfl⟩
          have hxbb : W.heap.size ≤ xb := by omega
          replace HBQ := Lib.hid (HBQ.out.trans (hBq.mono hzq))
          replace hzq := Nat.le_trans hzq hBq.size
          try replace k7 := k7.next hBq
          try replace k16 := k16.next hBq
          try replace kBox := kBox.next hBq
          try replace OF2 := Lib.hid (OF2.out.below hBq)
          try replace OJ := Lib.hid (OJ.out.below hBq)
          try replace OB := Lib.hid (OB.out.below hBq)
          have kBox : Blk (wq.alloc (.cells #[.slice none 0 0, .slice none 0 0] tAs)) xb tAs #[.slice none 0 0, .slice none 0 0] := Blk.newE hxb
          rw [← hxb]
          clear hBq hxb
          generalize wq.alloc (.cells #[.slice none 0 0, .slice none 0 0] tAs) = wq at *
          refine wpAnyH_ready (rs := [8, 16]) (by kernel_rfl) (by simp) ?_
          refine AllReadyH.cons rfl (fun K hK => ?_) (AllReadyH.cons rfl (fun K hK => ?_) AllReadyH.nil)
          · skip
            try simp only [List.getElem_toArray, List.getElem_cons_zero, List.getElem_cons_succ]
            go_simp
            refine (c_joinFn A1 (some ⟨y7, 0, none⟩) c1 1 (a.facts.length + 1) a.facts [⟨false, x.a, x.b⟩] _ (H1.out.below (bgo HB.out HBQ.out)) (FactsV.one (f := ⟨false, x.a, x.b⟩) k7) rfl (by omega)).mono ?_
            rintro e wq ⟨F2, e2, rfl, oF, hBq⟩
            have hbs : W.heap.size ≤ _ := hzq
            replace HBQ := Lib.hid (HBQ.out.trans (hBq.mono hzq))
            replace hzq := Nat.le_trans hzq hBq.size
            try replace k7 := k7.next hBq
            try replace k16 := k16.next hBq
            try replace kBox := kBox.next hBq
            try replace OF2 := Lib.hid (OF2.out.below hBq)
            try replace OJ := Lib.hid (OJ.out.below hBq)
            try replace OB := Lib.hid (OB.out.below hBq)
            have OF2 := Lib.hid (oF.lower (base' := W.heap.size) hbs)
            clear oF hBq hbs
            refine hK.out _ _ ⟨(k0.next HBQ.out).cell, (kx.next HBQ.out).cell⟩ (fun hHeldN => ?_)
            clear hHeld hK K
            have hHeld := hHeldN
            clear hHeldN
            try simp only [Act.put, List.getElem_toArray, List.getElem_cons_zero, List.getElem_cons_succ, List.setIfInBounds_toArray, List.set_cons_zero, List.set_cons_succ]
            refine wpAnyH_ready (rs := [11, 16]) (by kernel_rfl) (by simp) ?_
            refine AllReadyH.cons rfl (fun K hK => ?_) (AllReadyH.cons rfl (fun K hK => ?_) AllReadyH.nil)
            · skip
              try simp only [List.getElem_toArray, List.getElem_cons_zero, List.getElem_cons_succ]
              go_simp
              refine (c_joinAn (some ⟨yE + 1, 0, none⟩) G1 1 d1 a.atoms.length [⟨1, x.a, (m : Int)⟩] (withoutL a.atoms i) _ (AtomsV.one (f := ⟨1, x.a, (m : Int)⟩) (kf.next HBQ.out)) (OR.out.readsI.2.below HBQ.out) (by simp <;> omega) (by omega)).mono ?_
              rintro e wq ⟨G2, e3, rfl, oJ, hBq⟩
              have hbs : W.heap.size ≤ _ := hzq
              replace HBQ := Lib.hid (HBQ.out.trans (hBq.mono hzq))
              replace hzq := Nat.le_trans hzq hBq.size
              try replace k7 := k7.next hBq
              try replace k16 := k16.next hBq
              try replace kBox := kBox.next hBq
              try replace OF2 := Lib.hid (OF2.out.below hBq)
              try replace OJ := Lib.hid (OJ.out.below hBq)
              try replace OB := Lib.hid (OB.out.below hBq)
              have OJ := Lib.hid (oJ.lower (base' := W.heap.size) hbs)
              clear oJ hBq hbs
              refine hK.out _ _ ⟨(k0.next HBQ.out).cell, (kx.next HBQ.out).cell⟩ (fun hHeldN => ?_)
              clear hHeld hK K
              have hHeld := hHeldN
              clear hHeldN
              try simp only [Act.put, List.getElem_toArray, List.getElem_cons_zero, List.getElem_cons_succ, List.setIfInBounds_toArray, List.set_cons_zero, List.set_cons_succ]
              refine wpAnyH_ready (rs := [16]) (by kernel_rfl) (by simp) ?_
              refine AllReadyH.cons rfl (fun K hK => ?_) AllReadyH.nil
              try simp only [List.getElem_toArray, List.getElem_cons_zero, List.getElem_cons_succ]
              go_simp
              refine hK.out _ _ ⟨((k0.next HBQ.out).alloc _).cell, ((kx.next HBQ.out).alloc _).cell⟩ (fun hHeldN => ?_)
              clear hHeld hK K
              have hHeld := hHeldN
              clear hHeldN
              try simp only [Act.put, List.getElem_toArray, List.getElem_cons_zero, List.getElem_cons_succ, List.setIfInBounds_toArray, List.set_cons_zero, List.set_cons_succ]
              have hBq : Below wq.heap.size wq (wq.alloc (.cells #[.int .i64 2, .int .i64 m, .int .i64 x.b] tA)) := bbox (Below.refl _ _) _
              obtain ⟨y16, hy16⟩ : ∃ y, y = wq.heap.size := ⟨_, rfl⟩
              have hy16b : W.heap.size ≤ y16 := by omega
              replace HBQ := Lib.hid (HBQ.out.trans (hBq.mono hzq))
              replace hzq := Nat.le_trans hzq hBq.size
              try replace k7 := k7.next hBq
              try replace k16 := k16.next hBq
              try replace kBox := kBox.next hBq
              try replace OF2 := Lib.hid (OF2.out.below hBq)
              try replace OJ := Lib.hid (OJ.out.below hBq)
              try replace OB := Lib.hid (OB.out.below hBq)
              have k16 : Blk (wq.alloc (.cells #[.int .i64 2, .int .i64 m, .int .i64 x.b] tA)) y16 tA #[.int .i64 2, .int .i64 m, .int .i64 x.b] := Blk.newE hy16
              rw [← hy16]
              clear hBq hy16
              generalize wq.alloc (.cells #[.int .i64 2, .int .i64 m, .int .i64 x.b] tA) = wq at *
              refine wpAnyH_ready (rs := [17]) (by kernel_rfl) (by simp) ?_
              refine AllReadyH.cons rfl (fun K hK => ?_) AllReadyH.nil
              refine stepALn (ys := [⟨2, (m : Int), x.b⟩]) (n := a.atoms.length + 1) rfl _ _ rfl rfl OJ.out rfl (AtomsV.one (f := ⟨2, (m : Int), x.b⟩) k16) (by simp <;> omega) (by omega) hzq ?_
              intro G3 e4 wq oB hg hBq
              try replace kBox := Blk.grownO kBox OJ.out.1 hg (by decide)
              replace OF2 := Lib.hid (OF2.out.grownA OJ.out hg)
              replace HBQ := Lib.hid (HBQ.out.trans hBq)
              replace hzq := Nat.le_trans hzq hBq.size
              have OB := Lib.hid oB
              clear oB hg hBq OJ
              refine hK.out _ _ ⟨(k0.next HBQ.out).cell, (kx.next HBQ.out).cell⟩ (fun hHeldN => ?_)
              clear hHeld hK K
              have hHeld := hHeldN
              clear hHeldN
              try simp only [Act.put, List.getElem_toArray, List.getElem_cons_zero, List.getElem_cons_succ, List.setIfInBounds_toArray, List.set_cons_zero, List.set_cons_succ]
              refine wpAnyH_take (i := 18) (v := ?_) rfl (by kernel_rfl) (by kernel_rfl) (by kernel_rfl) (fun _ _ _ h => h) (Or.inl ⟨by rfl, fun w hSw => ?_⟩) hHeld ?_
              rotate_left
              · ((try dsimp only at hSw); go_split_ands; go_simp; (try with_reducible rfl))
              try simp only [Act.put, List.getElem_toArray, List.getElem_cons_zero, List.getElem_cons_succ, List.setIfInBounds_toArray, List.set_cons_zero, List.set_cons_succ]
              have hlB := kBox.lt
              have qb := kBox.cell
              have rb := kBox.frozen
              refine wpAnyH_ready (rs := [20]) (by kernel_rfl) (by simp) ?_
              refine AllReadyH.cons rfl (fun K hK => ?_) AllReadyH.nil
              try simp only [List.getElem_toArray, List.getElem_cons_zero, List.getElem_cons_succ]
              go_simp
              refine hK.out _ _ (⟨(((k0.next HBQ.out).far (p := ⟨xb, 0, none⟩) (by simp only; omega) _).far (p := ⟨xb, 1, none⟩) (by simp only; omega) _).cell, (((kx.next HBQ.out).far (p := ⟨xb, 0, none⟩) (by simp only; omega) _).far (p := ⟨xb, 1, none⟩) (by simp only; omega) _).cell⟩) (fun hHeldN => ?_)
              clear hHeld hK K
              have hHeld := hHeldN
              clear hHeldN
              try simp only [Act.put, List.getElem_toArray, List.getElem_cons_zero, List.getElem_cons_succ, List.setIfInBounds_toArray, List.set_cons_zero, List.set_cons_succ]
              refine wpAnyH_done (by kernel_rfl) ?_ _
              refine NoPanic.normal ?_
              go_wp2_with fail
              go_meet
              case rel =>
                refine ⟨xb, _, _, _, _, rfl, Lib.hid ((OF2.out.setT kBox (by decide) 0 _).setT (kBox.set_ 0 _) (by decide) 1 _), Lib.hid ((OB.out.setT kBox (by decide) 0 _).setT (kBox.set_ 0 _) (by decide) 1 _), ?_, hxbb, Lib.hid ((HBQ.out.setCell (p := ⟨xb, 0, none⟩) (by simp only; omega) _).setCell (p := ⟨xb, 1, none⟩) (by simp only; omega) _)⟩
                have := (kBox.set_ 0 (.slice F2 (a.facts.length + 1) e2)).set_ 1 (.slice G3 (a.atoms.length + 1) e4)
                simpa using this
            · skip
              try simp only [List.getElem_toArray, List.getElem_cons_zero, List.getElem_cons_succ]
              go_simp
              refine hK.out _ _ ⟨((k0.next HBQ.out).alloc _).cell, ((kx.next HBQ.out).alloc _).cell⟩ (fun hHeldN => ?_)
              clear hHeld hK K
              have hHeld := hHeldN
              clear hHeldN
              try simp only [Act.put, List.getElem_toArray, List.getElem_cons_zero, List.getElem_cons_succ, List.setIfInBounds_toArray, List.set_cons_zero, List.set_cons_succ]
              have hBq : Below wq.heap.size wq (wq.alloc (.cells #[.int .i64 2, .int .i64 m, .int .i64 x.b] tA)) := bbox (Below.refl _ _) _
              obtain ⟨y16, hy16⟩ : ∃ y, y = wq.heap.size := ⟨_, rfl⟩
              have hy16b : W.heap.size ≤ y16 := by omega
              replace HBQ := Lib.hid (HBQ.out.trans (hBq.mono hzq))
              replace hzq := Nat.le_trans hzq hBq.size
              try replace k7 := k7.next hBq
              try replace k16 := k16.next hBq
              try replace kBox := kBox.next hBq
              try replace OF2 := Lib.hid (OF2.out.below hBq)
              try replace OJ := Lib.hid (OJ.out.below hBq)
              try replace OB := Lib.hid (OB.out.below hBq)
              have k16 : Blk (wq.alloc (.cells #[.int .i64 2, .int .i64 m, .int .i64 x.b] tA)) y16 tA #[.int .i64 2, .int .i64 m, .int .i64 x.b] := Blk.newE hy16
              rw [← hy16]
              clear hBq hy16
              generalize wq.alloc (.cells #[.int .i64 2, .int .i64 m, .int .i64 x.b] tA) = wq at *
              refine wpAnyH_ready (rs := [11]) (by kernel_rfl) (by simp) ?_
              refine AllReadyH.cons rfl (fun K hK => ?_) AllReadyH.nil
              try simp only [List.getElem_toArray, List.getElem_cons_zero, List.getElem_cons_succ]
              go_simp
              refine (c_joinAn (some ⟨yE + 1, 0, none⟩) G1 1 d1 a.atoms.length [⟨1, x.a, (m : Int)⟩] (withoutL a.atoms i) _ (AtomsV.one (f := ⟨1, x.a, (m : Int)⟩) (kf.next HBQ.out)) (OR.out.readsI.2.below HBQ.out) (by simp <;> omega) (by omega)).mono ?_
              rintro e wq ⟨G2, e3, rfl, oJ, hBq⟩
              have hbs : W.heap.size ≤ _ := hzq
              replace HBQ := Lib.hid (HBQ.out.trans (hBq.mono hzq))
              replace hzq := Nat.le_trans hzq hBq.size
              try replace k7 := k7.next hBq
              try replace k16 := k16.next hBq
              try replace kBox := kBox.next hBq
              try replace OF2 := Lib.hid (OF2.out.below hBq)
              try replace OJ := Lib.hid (OJ.out.below hBq)
              try replace OB := Lib.hid (OB.out.below hBq)
              have OJ := Lib.hid (oJ.lower (base' := W.heap.size) hbs)
              clear oJ hBq hbs
              refine hK.out _ _ ⟨(k0.next HBQ.out).cell, (kx.next HBQ.out).cell⟩ (fun hHeldN => ?_)
              clear hHeld hK K
              have hHeld := hHeldN
              clear hHeldN
              try simp only [Act.put, List.getElem_toArray, List.getElem_cons_zero, List.getElem_cons_succ, List.setIfInBounds_toArray, List.set_cons_zero, List.set_cons_succ]
              refine wpAnyH_ready (rs := [17]) (by kernel_rfl) (by simp) ?_
              refine AllReadyH.cons rfl (fun K hK => ?_) AllReadyH.nil
              refine stepALn (ys := [⟨2, (m : Int), x.b⟩]) (n := a.atoms.length + 1) rfl _ _ rfl rfl OJ.out rfl (AtomsV.one (f := ⟨2, (m : Int), x.b⟩) k16) (by simp <;> omega) (by omega) hzq ?_
              intro G3 e4 wq oB hg hBq
              try replace kBox := Blk.grownO kBox OJ.out.1 hg (by decide)
              replace OF2 := Lib.hid (OF2.out.grownA OJ.out hg)
              replace HBQ := Lib.hid (HBQ.out.trans hBq)
              replace hzq := Nat.le_trans hzq hBq.size
              have OB := Lib.hid oB
              clear oB hg hBq OJ
              refine hK.out _ _ ⟨(k0.next HBQ.out).cell, (kx.next HBQ.out).cell⟩ (fun hHeldN => ?_)
              clear hHeld hK K
              have hHeld := hHeldN
              clear hHeldN
              try simp only [Act.put, List.getElem_toArray, List.getElem_cons_zero, List.getElem_cons_succ, List.setIfInBounds_toArray, List.set_cons_zero, List.set_cons_succ]
              refine wpAnyH_take (i := 18) (v := ?_) rfl (by kernel_rfl) (by kernel_rfl) (by kernel_rfl) (fun _ _ _ h => h) (Or.inl ⟨by rfl, fun w hSw => ?_⟩) hHeld ?_
              rotate_left
              · ((try dsimp only at hSw); go_split_ands; go_simp; (try with_reducible rfl))
              try simp only [Act.put, List.getElem_toArray, List.getElem_cons_zero, List.getElem_cons_succ, List.setIfInBounds_toArray, List.set_cons_zero, List.set_cons_succ]
              have hlB := kBox.lt
              have qb := kBox.cell
              have rb := kBox.frozen
              refine wpAnyH_ready (rs := [20]) (by kernel_rfl) (by simp) ?_
              refine AllReadyH.cons rfl (fun K hK => ?_) AllReadyH.nil
              try simp only [List.getElem_toArray, List.getElem_cons_zero, List.getElem_cons_succ]
              go_simp
              refine hK.out _ _ (⟨(((k0.next HBQ.out).far (p := ⟨xb, 0, none⟩) (by simp only; omega) _).far (p := ⟨xb, 1, none⟩) (by simp only; omega) _).cell, (((kx.next HBQ.out).far (p := ⟨xb, 0, none⟩) (by simp only; omega) _).far (p := ⟨xb, 1, none⟩) (by simp only; omega) _).cell⟩) (fun hHeldN => ?_)
              clear hHeld hK K
              have hHeld := hHeldN
              clear hHeldN
              try simp only [Act.put, List.getElem_toArray, List.getElem_cons_zero, List.getElem_cons_succ, List.setIfInBounds_toArray, List.set_cons_zero, List.set_cons_succ]
              refine wpAnyH_done (by kernel_rfl) ?_ _
              refine NoPanic.normal ?_
              go_wp2_with fail
              go_meet
              case rel =>
                refine ⟨xb, _, _, _, _, rfl, Lib.hid ((OF2.out.setT kBox (by decide) 0 _).setT (kBox.set_ 0 _) (by decide) 1 _), Lib.hid ((OB.out.setT kBox (by decide) 0 _).setT (kBox.set_ 0 _) (by decide) 1 _), ?_, hxbb, Lib.hid ((HBQ.out.setCell (p := ⟨xb, 0, none⟩) (by simp only; omega) _).setCell (p := ⟨xb, 1, none⟩) (by simp only; omega) _)⟩
                have := (kBox.set_ 0 (.slice F2 (a.facts.length + 1) e2)).set_ 1 (.slice G3 (a.atoms.length + 1) e4)
                simpa using this
          · skip
            try simp only [List.getElem_toArray, List.getElem_cons_zero, List.getElem_cons_succ]
            go_simp
            refine hK.out _ _ ⟨((k0.next HBQ.out).alloc _).cell, ((kx.next HBQ.out).alloc _).cell⟩ (fun hHeldN => ?_)
            clear hHeld hK K
            have hHeld := hHeldN
            clear hHeldN
            try simp only [Act.put, List.getElem_toArray, List.getElem_cons_zero, List.getElem_cons_succ, List.setIfInBounds_toArray, List.set_cons_zero, List.set_cons_succ]
            have hBq : Below wq.heap.size wq (wq.alloc (.cells #[.int .i64 2, .int .i64 m, .int .i64 x.b] tA)) := bbox (Below.refl _ _) _
            obtain ⟨y16, hy16⟩ : ∃ y, y = wq.heap.size := ⟨_, rfl⟩
            have hy16b : W.heap.size ≤ y16 := by omega
            replace HBQ := Lib.hid (HBQ.out.trans (hBq.mono hzq))
            replace hzq := Nat.le_trans hzq hBq.size
            try replace k7 := k7.next hBq
            try replace k16 := k16.next hBq
            try replace kBox := kBox.next hBq
            try replace OF2 := Lib.hid (OF2.out.below hBq)
            try replace OJ := Lib.hid (OJ.out.below hBq)
            try replace OB := Lib.hid (OB.out.below hBq)
            have k16 : Blk (wq.alloc (.cells #[.int .i64 2, .int .i64 m, .int .i64 x.b] tA)) y16 tA #[.int .i64 2, .int .i64 m, .int .i64 x.b] := Blk.newE hy16
            rw [← hy16]
            clear hBq hy16
            generalize wq.alloc (.cells #[.int .i64 2, .int .i64 m, .int .i64 x.b] tA) = wq at *
            refine wpAnyH_ready (rs := [8]) (by kernel_rfl) (by simp) ?_
            refine AllReadyH.cons rfl (fun K hK => ?_) AllReadyH.nil
            try simp only [List.getElem_toArray, List.getElem_cons_zero, List.getElem_cons_succ]
            go_simp
            refine (c_joinFn A1 (some ⟨y7, 0, none⟩) c1 1 (a.facts.length + 1) a.facts [⟨false, x.a, x.b⟩] _ (H1.out.below (bgo HB.out HBQ.out)) (FactsV.one (f := ⟨false, x.a, x.b⟩) k7) rfl (by omega)).mono ?_
            rintro e wq ⟨F2, e2, rfl, oF, hBq⟩
            have hbs : W.heap.size ≤ _ := hzq
            replace HBQ := Lib.hid (HBQ.out.trans (hBq.mono hzq))
            replace hzq := Nat.le_trans hzq hBq.size
            try replace k7 := k7.next hBq
            try replace k16 := k16.next hBq
            try replace kBox := kBox.next hBq
            try replace OF2 := Lib.hid (OF2.out.below hBq)
            try replace OJ := Lib.hid (OJ.out.below hBq)
            try replace OB := Lib.hid (OB.out.below hBq)
            have OF2 := Lib.hid (oF.lower (base' := W.heap.size) hbs)
            clear oF hBq hbs
            refine hK.out _ _ ⟨(k0.next HBQ.out).cell, (kx.next HBQ.out).cell⟩ (fun hHeldN => ?_)
            clear hHeld hK K
            have hHeld := hHeldN
            clear hHeldN
            try simp only [Act.put, List.getElem_toArray, List.getElem_cons_zero, List.getElem_cons_succ, List.setIfInBounds_toArray, List.set_cons_zero, List.set_cons_succ]
            refine wpAnyH_ready (rs := [11]) (by kernel_rfl) (by simp) ?_
            refine AllReadyH.cons rfl (fun K hK => ?_) AllReadyH.nil
            try simp only [List.getElem_toArray, List.getElem_cons_zero, List.getElem_cons_succ]
            go_simp
            refine (c_joinAn (some ⟨yE + 1, 0, none⟩) G1 1 d1 a.atoms.length [⟨1, x.a, (m : Int)⟩] (withoutL a.atoms i) _ (AtomsV.one (f := ⟨1, x.a, (m : Int)⟩) (kf.next HBQ.out)) (OR.out.readsI.2.below HBQ.out) (by simp <;> omega) (by omega)).mono ?_
            rintro e wq ⟨G2, e3, rfl, oJ, hBq⟩
            have hbs : W.heap.size ≤ _ := hzq
            replace HBQ := Lib.hid (HBQ.out.trans (hBq.mono hzq))
            replace hzq := Nat.le_trans hzq hBq.size
            try replace k7 := k7.next hBq
            try replace k16 := k16.next hBq
            try replace kBox := kBox.next hBq
            try replace OF2 := Lib.hid (OF2.out.below hBq)
            try replace OJ := Lib.hid (OJ.out.below hBq)
            try replace OB := Lib.hid (OB.out.below hBq)
            have OJ := Lib.hid (oJ.lower (base' := W.heap.size) hbs)
            clear oJ hBq hbs
            refine hK.out _ _ ⟨(k0.next HBQ.out).cell, (kx.next HBQ.out).cell⟩ (fun hHeldN => ?_)
            clear hHeld hK K
            have hHeld := hHeldN
            clear hHeldN
            try simp only [Act.put, List.getElem_toArray, List.getElem_cons_zero, List.getElem_cons_succ, List.setIfInBounds_toArray, List.set_cons_zero, List.set_cons_succ]
            refine wpAnyH_ready (rs := [17]) (by kernel_rfl) (by simp) ?_
            refine AllReadyH.cons rfl (fun K hK => ?_) AllReadyH.nil
            refine stepALn (ys := [⟨2, (m : Int), x.b⟩]) (n := a.atoms.length + 1) rfl _ _ rfl rfl OJ.out rfl (AtomsV.one (f := ⟨2, (m : Int), x.b⟩) k16) (by simp <;> omega) (by omega) hzq ?_
            intro G3 e4 wq oB hg hBq
            try replace kBox := Blk.grownO kBox OJ.out.1 hg (by decide)
            replace OF2 := Lib.hid (OF2.out.grownA OJ.out hg)
            replace HBQ := Lib.hid (HBQ.out.trans hBq)
            replace hzq := Nat.le_trans hzq hBq.size
            have OB := Lib.hid oB
            clear oB hg hBq OJ
            refine hK.out _ _ ⟨(k0.next HBQ.out).cell, (kx.next HBQ.out).cell⟩ (fun hHeldN => ?_)
            clear hHeld hK K
            have hHeld := hHeldN
            clear hHeldN
            try simp only [Act.put, List.getElem_toArray, List.getElem_cons_zero, List.getElem_cons_succ, List.setIfInBounds_toArray, List.set_cons_zero, List.set_cons_succ]
            refine wpAnyH_take (i := 18) (v := ?_) rfl (by kernel_rfl) (by kernel_rfl) (by kernel_rfl) (fun _ _ _ h => h) (Or.inl ⟨by rfl, fun w hSw => ?_⟩) hHeld ?_
            rotate_left
            · ((try dsimp only at hSw); go_split_ands; go_simp; (try with_reducible rfl))
            try simp only [Act.put, List.getElem_toArray, List.getElem_cons_zero, List.getElem_cons_succ, List.setIfInBounds_toArray, List.set_cons_zero, List.set_cons_succ]
            have hlB := kBox.lt
            have qb := kBox.cell
            have rb := kBox.frozen
            refine wpAnyH_ready (rs := [20]) (by kernel_rfl) (by simp) ?_
            refine AllReadyH.cons rfl (fun K hK => ?_) AllReadyH.nil
            try simp only [List.getElem_toArray, List.getElem_cons_zero, List.getElem_cons_succ]
            go_simp
            refine hK.out _ _ (⟨(((k0.next HBQ.out).far (p := ⟨xb, 0, none⟩) (by simp only; omega) _).far (p := ⟨xb, 1, none⟩) (by simp only; omega) _).cell, (((kx.next HBQ.out).far (p := ⟨xb, 0, none⟩) (by simp only; omega) _).far (p := ⟨xb, 1, none⟩) (by simp only; omega) _).cell⟩) (fun hHeldN => ?_)
            clear hHeld hK K
            have hHeld := hHeldN
            clear hHeldN
            try simp only [Act.put, List.getElem_toArray, List.getElem_cons_zero, List.getElem_cons_succ, List.setIfInBounds_toArray, List.set_cons_zero, List.set_cons_succ]
            refine wpAnyH_done (by kernel_rfl) ?_ _
            refine NoPanic.normal ?_
            go_wp2_with fail
            go_meet
            case rel =>
              refine ⟨xb, _, _, _, _, rfl, Lib.hid ((OF2.out.setT kBox (by decide) 0 _).setT (kBox.set_ 0 _) (by decide) 1 _), Lib.hid ((OB.out.setT kBox (by decide) 0 _).setT (kBox.set_ 0 _) (by decide) 1 _), ?_, hxbb, Lib.hid ((HBQ.out.setCell (p := ⟨xb, 0, none⟩) (by simp only; omega) _).setCell (p := ⟨xb, 1, none⟩) (by simp only; omega) _)⟩
              have := (kBox.set_ 0 (.slice F2 (a.facts.length + 1) e2)).set_ 1 (.slice G3 (a.atoms.length + 1) e4)
              simpa using this
      · skip
        try simp only [List.getElem_toArray, List.getElem_cons_zero, List.getElem_cons_succ]
        go_simp
        refine hK.out _ _ ⟨((k0.next HBQ.out).alloc _).cell, ((kx.next HBQ.out).alloc _).cell⟩ (fun hHeldN => ?_)
        clear hHeld hK K
        have hHeld := hHeldN
        clear hHeldN
        try simp only [Act.put, List.getElem_toArray, List.getElem_cons_zero, List.getElem_cons_succ, List.setIfInBounds_toArray, List.set_cons_zero, List.set_cons_succ]
        have hBq : Below wq.heap.size wq (wq.alloc (.cells #[.int .i64 2, .int .i64 m, .int .i64 x.b] tA)) := bbox (Below.refl _ _) _
        obtain ⟨y16, hy16⟩ : ∃ y, y = wq.heap.size := ⟨_, rfl⟩
        have hy16b : W.heap.size ≤ y16 := by omega
        replace HBQ := Lib.hid (HBQ.out.trans (hBq.mono hzq))
        replace hzq := Nat.le_trans hzq hBq.size
        try replace k7 := k7.next hBq
        try replace k16 := k16.next hBq
        try replace kBox := kBox.next hBq
        try replace OF2 := Lib.hid (OF2.out.below hBq)
        try replace OJ := Lib.hid (OJ.out.below hBq)
        try replace OB := Lib.hid (OB.out.below hBq)
        have k16 : Blk (wq.alloc (.cells #[.int .i64 2, .int .i64 m, .int .i64 x.b] tA)) y16 tA #[.int .i64 2, .int .i64 m, .int .i64 x.b] := Blk.newE hy16
        rw [← hy16]
        clear hBq hy16
        generalize wq.alloc (.cells #[.int .i64 2, .int .i64 m, .int .i64 x.b] tA) = wq at *
        refine wpAnyH_ready (rs := [7, 19]) (by kernel_rfl) (by simp) ?_
        refine AllReadyH.cons rfl (fun K hK => ?_) (AllReadyH.cons rfl (fun K hK => ?_) AllReadyH.nil)
        · skip
          try simp only [List.getElem_toArray, List.getElem_cons_zero, List.getElem_cons_succ]
          go_simp
          refine hK.out _ _ ⟨((k0.next HBQ.out).alloc _).cell, ((kx.next HBQ.out).alloc _).cell⟩ (fun hHeldN => ?_)
          clear hHeld hK K
          have hHeld := hHeldN
          clear hHeldN
          try simp only [Act.put, List.getElem_toArray, List.getElem_cons_zero, List.getElem_cons_succ, List.setIfInBounds_toArray, List.set_cons_zero, List.set_cons_succ]
          have hBq : Below wq.heap.size wq (wq.alloc (.cells #[.bool false, .int .i64 x.a, .int .i64 x.b] tF)) := bbox (Below.refl _ _) _
          obtain ⟨y7, hy7⟩ : ∃ y, y = wq.heap.size := ⟨_, rfl⟩
          have hy7b : W.heap.size ≤ y7 := by omega
          replace HBQ := Lib.hid (HBQ.out.trans (hBq.mono hzq))
          replace hzq := Nat.le_trans hzq hBq.size
          try replace k7 := k7.next hBq
          try replace k16 := k16.next hBq
          try replace kBox := kBox.next hBq
          try replace OF2 := Lib.hid (OF2.out.below hBq)
          try replace OJ := Lib.hid (OJ.out.below hBq)
          try replace OB := Lib.hid (OB.out.below hBq)
          have k7 : Blk (wq.alloc (.cells #[.bool false, .int .i64 x.a, .int .i64 x.b] tF)) y7 tF #[.bool false, .int .i64 x.a, .int .i64 x.b] := Blk.newE hy7
          rw [← hy7]
          clear hBq hy7
          generalize wq.alloc (.cells #[.bool false, .int .i64 x.a, .int .i64 x.b] tF) = wq at *
          refine wpAnyH_ready (rs := [8, 19]) (by kernel_rfl) (by simp) ?_
          refine AllReadyH.cons rfl (fun K hK => ?_) (AllReadyH.cons rfl (fun K hK => ?_) AllReadyH.nil)
          · skip
            try simp only [List.getElem_toArray, List.getElem_cons_zero, List.getElem_cons_succ]
            go_simp
            refine (c_joinFn A1 (some ⟨y7, 0, none⟩) c1 1 (a.facts.length + 1) a.facts [⟨false, x.a, x.b⟩] _ (H1.out.below (bgo HB.out HBQ.out)) (FactsV.one (f := ⟨false, x.a, x.b⟩) k7) rfl (by omega)).mono ?_
            rintro e wq ⟨F2, e2, rfl, oF, hBq⟩
            have hbs : W.heap.size ≤ _ := hzq
            replace HBQ := Lib.hid (HBQ.out.trans (hBq.mono hzq))
            replace hzq := Nat.le_trans hzq hBq.size
            try replace k7 := k7.next hBq
            try replace k16 := k16.next hBq
            try replace kBox := kBox.next hBq
            try replace OF2 := Lib.hid (OF2.out.below hBq)
            try replace OJ := Lib.hid (OJ.out.below hBq)
            try replace OB := Lib.hid (OB.out.below hBq)
            have OF2 := Lib.hid (oF.lower (base' := W.heap.size) hbs)
            clear oF hBq hbs
            refine hK.out _ _ ⟨(k0.next HBQ.out).cell, (kx.next HBQ.out).cell⟩ (fun hHeldN => ?_)
            clear hHeld hK K
            have hHeld := hHeldN
            clear hHeldN
            try simp only [Act.put, List.getElem_toArray, List.getElem_cons_zero, List.getElem_cons_succ, List.setIfInBounds_toArray, List.set_cons_zero, List.set_cons_succ]
            refine wpAnyH_ready (rs := [11, 19]) (by kernel_rfl) (by simp) ?_
            refine AllReadyH.cons rfl (fun K hK => ?_) (AllReadyH.cons rfl (fun K hK => ?_) AllReadyH.nil)
            · skip
              try simp only [List.getElem_toArray, List.getElem_cons_zero, List.getElem_cons_succ]
              go_simp
              refine (c_joinAn (some ⟨yE + 1, 0, none⟩) G1 1 d1 a.atoms.length [⟨1, x.a, (m : Int)⟩] (withoutL a.atoms i) _ (AtomsV.one (f := ⟨1, x.a, (m : Int)⟩) (kf.next HBQ.out)) (OR.out.readsI.2.below HBQ.out) (by simp <;> omega) (by omega)).mono ?_
              rintro e wq ⟨G2, e3, rfl, oJ, hBq⟩
              have hbs : W.heap.size ≤ _ := hzq
              replace HBQ := Lib.hid (HBQ.out.trans (hBq.mono hzq))
              replace hzq := Nat.le_trans hzq hBq.size
              try replace k7 := k7.next hBq
              try replace k16 := k16.next hBq
              try replace kBox := kBox.next hBq
              try replace OF2 := Lib.hid (OF2.out.below hBq)
              try replace OJ := Lib.hid (OJ.out.below hBq)
              try replace OB := Lib.hid (OB.out.below hBq)
              have OJ := Lib.hid (oJ.lower (base' := W.heap.size) hbs)
              clear oJ hBq hbs
              refine hK.out _ _ ⟨(k0.next HBQ.out).cell, (kx.next HBQ.out).cell⟩ (fun hHeldN => ?_)
              clear hHeld hK K
              have hHeld := hHeldN
              clear hHeldN
              try simp only [Act.put, List.getElem_toArray, List.getElem_cons_zero, List.getElem_cons_succ, List.setIfInBounds_toArray, List.set_cons_zero, List.set_cons_succ]
              refine wpAnyH_ready (rs := [17, 19]) (by kernel_rfl) (by simp) ?_
              refine AllReadyH.cons rfl (fun K hK => ?_) (AllReadyH.cons rfl (fun K hK => ?_) AllReadyH.nil)
              · skip
                refine stepALn (ys := [⟨2, (m : Int), x.b⟩]) (n := a.atoms.length + 1) rfl _ _ rfl rfl OJ.out rfl (AtomsV.one (f := ⟨2, (m : Int), x.b⟩) k16) (by simp <;> omega) (by omega) hzq ?_
                intro G3 e4 wq oB hg hBq
                try replace kBox := Blk.grownO kBox OJ.out.1 hg (by decide)
                replace OF2 := Lib.hid (OF2.out.grownA OJ.out hg)
                replace HBQ := Lib.hid (HBQ.out.trans hBq)
                replace hzq := Nat.le_trans hzq hBq.size
                have OB := Lib.hid oB
                clear oB hg hBq OJ
                refine hK.out _ _ ⟨(k0.next HBQ.out).cell, (kx.next HBQ.out).cell⟩ (fun hHeldN => ?_)
                clear hHeld hK K
                have hHeld := hHeldN
                clear hHeldN
                try simp only [Act.put, List.getElem_toArray, List.getElem_cons_zero, List.getElem_cons_succ, List.setIfInBounds_toArray, List.set_cons_zero, List.set_cons_succ]
                refine wpAnyH_take (i := 18) (v := ?_) rfl (by kernel_rfl) (by kernel_rfl) (by kernel_rfl) (fun _ _ _ h => h) (Or.inl ⟨by rfl, fun w hSw => ?_⟩) hHeld ?_
                rotate_left
                · ((try dsimp only at hSw); go_split_ands; go_simp; (try with_reducible rfl))
                try simp only [Act.put, List.getElem_toArray, List.getElem_cons_zero, List.getElem_cons_succ, List.setIfInBounds_toArray, List.set_cons_zero, List.set_cons_succ]
                refine wpAnyH_ready (rs := [19]) (by kernel_rfl) (by simp) ?_
                refine AllReadyH.cons rfl (fun K hK => ?_) AllReadyH.nil
                try simp only [List.getElem_toArray, List.getElem_cons_zero, List.getElem_cons_succ]
                go_simp
                refine hK.out _ _ ⟨((k0.next HBQ.out).alloc _).cell, ((kx.next HBQ.out).alloc _).cell⟩ (fun hHeldN => ?_)
                clear hHeld hK K
                have hHeld := hHeldN
                clear hHeldN
                try simp only [Act.put, List.getElem_toArray, List.getElem_cons_zero, List.getElem_cons_succ, List.setIfInBounds_toArray, List.set_cons_zero, List.set_cons_succ]
                have hBq : Below wq.heap.size wq (wq.alloc (.cells #[.slice none 0 0, .slice none 0 0] tAs)) := bbox (Below.refl _ _) _
                obtain ⟨xb, hxb⟩ : ∃ y, y = wq.heap.size := ⟨_, rfl⟩
                have hxbb : W.heap.size ≤ xb := by omega
                replace HBQ := Lib.hid (HBQ.out.trans (hBq.mono hzq))
                replace hzq := Nat.le_trans hzq hBq.size
                try replace k7 := k7.next hBq
                try replace k16 := k16.next hBq
                try replace kBox := kBox.next hBq
                try replace OF2 := Lib.hid (OF2.out.below hBq)
                try replace OJ := Lib.hid (OJ.out.below hBq)
                try replace OB := Lib.hid (OB.out.below hBq)
                have kBox : Blk (wq.alloc (.cells #[.slice none 0 0, .slice none 0 0] tAs)) xb tAs #[.slice none 0 0, .slice none 0 0] := Blk.newE hxb
                rw [← hxb]
                clear hBq hxb
                generalize wq.alloc (.cells #[.slice none 0 0, .slice none 0 0] tAs) = wq at *
                have hlB := kBox.lt
                have qb := kBox.cell
                have rb := kBox.frozen
                refine wpAnyH_ready (rs := [20]) (by kernel_rfl) (by simp) ?_
                refine AllReadyH.cons rfl (fun K hK => ?_) AllReadyH.nil
                try simp only [List.getElem_toArray, List.getElem_cons_zero, List.getElem_cons_succ]
                go_simp
                refine hK.out _ _ (⟨(((k0.next HBQ.out).far (p := ⟨xb, 0, none⟩) (by simp only; omega) _).far (p := ⟨xb, 1, none⟩) (by simp only; omega) _).cell, (((kx.next HBQ.out).far (p := ⟨xb, 0, none⟩) (by simp only; omega) _).far (p := ⟨xb, 1, none⟩) (by simp only; omega) _).cell⟩) (fun hHeldN => ?_)
                clear hHeld hK K
                have hHeld := hHeldN
                clear hHeldN
                try simp only [Act.put, List.getElem_toArray, List.getElem_cons_zero, List.getElem_cons_succ, List.setIfInBounds_toArray, List.set_cons_zero, List.set_cons_succ]
                refine wpAnyH_done (by kernel_rfl) ?_ _
                refine NoPanic.normal ?_
                go_wp2_with fail
                go_meet
                case rel =>
                  refine ⟨xb, _, _, _, _, rfl, Lib.hid ((OF2.out.setT kBox (by decide) 0 _).setT (kBox.set_ 0 _) (by decide) 1 _), Lib.hid ((OB.out.setT kBox (by decide) 0 _).setT (kBox.set_ 0 _) (by decide) 1 _), ?_, hxbb, Lib.hid ((HBQ.out.setCell (p := ⟨xb, 0, none⟩) (by simp only; omega) _).setCell (p := ⟨xb, 1, none⟩) (by simp only; omega) _)⟩
                  have := (kBox.set_ 0 (.slice F2 (a.facts.length + 1) e2)).set_ 1 (.slice G3 (a.atoms.length + 1) e4)
                  simpa using this
              · skip
                try simp only [List.getElem_toArray, List.getElem_cons_zero, List.getElem_cons_succ]
                go_simp
                refine hK.out _ _ ⟨((k0.next HBQ.out).alloc _).cell, ((kx.next HBQ.out).alloc _).cell⟩ (fun hHeldN => ?_)
                clear hHeld hK K
                have hHeld := hHeldN
                clear hHeldN
                try simp only [Act.put, List.getElem_toArray, List.getElem_cons_zero, List.getElem_cons_succ, List.setIfInBounds_toArray, List.set_cons_zero, List.set_cons_succ]
                have hBq : Below wq.heap.size wq (wq.alloc (.cells #[.slice none 0 0, .slice none 0 0] tAs)) := bbox (Below.refl _ _) _
                obtain ⟨xb, hxb⟩ : ∃ y, y = wq.heap.size := ⟨_, rfl⟩
                have hxbb : W.heap.size ≤ xb := by omega
                replace HBQ := Lib.hid (HBQ.out.trans (hBq.mono hzq))
                replace hzq := Nat.le_trans hzq hBq.size
                try replace k7 := k7.next hBq
                try replace k16 := k16.next hBq
                try replace kBox := kBox.next hBq
                try replace OF2 := Lib.hid (OF2.out.below hBq)
                try replace OJ := Lib.hid (OJ.out.below hBq)
                try replace OB := Lib.hid (OB.out.below hBq)
                have kBox : Blk (wq.alloc (.cells #[.slice none 0 0, .slice none 0 0] tAs)) xb tAs #[.slice none 0 0, .slice none 0 0] := Blk.newE hxb
                rw [← hxb]
                clear hBq hxb
                generalize wq.alloc (.cells #[.slice none 0 0, .slice none 0 0] tAs) = wq at *
                refine wpAnyH_ready (rs := [17]) (by kernel_rfl) (by simp) ?_
                refine AllReadyH.cons rfl (fun K hK => ?_) AllReadyH.nil
                refine stepALn (ys := [⟨2, (m : Int), x.b⟩]) (n := a.atoms.length + 1) rfl _ _ rfl rfl OJ.out rfl (AtomsV.one (f := ⟨2, (m : Int), x.b⟩) k16) (by simp <;> omega) (by omega) hzq ?_
                intro G3 e4 wq oB hg hBq
                try replace kBox := Blk.grownO kBox OJ.out.1 hg (by decide)
                replace OF2 := Lib.hid (OF2.out.grownA OJ.out hg)
                replace HBQ := Lib.hid (HBQ.out.trans hBq)
                replace hzq := Nat.le_trans hzq hBq.size
                have OB := Lib.hid oB
                clear oB hg hBq OJ
                refine hK.out _ _ ⟨(k0.next HBQ.out).cell, (kx.next HBQ.out).cell⟩ (fun hHeldN => ?_)
                clear hHeld hK K
                have hHeld := hHeldN
                clear hHeldN
                try simp only [Act.put, List.getElem_toArray, List.getElem_cons_zero, List.getElem_cons_succ, List.setIfInBounds_toArray, List.set_cons_zero, List.set_cons_succ]
                refine wpAnyH_take (i := 18) (v := ?_) rfl (by kernel_rfl) (by kernel_rfl) (by kernel_rfl) (fun _ _ _ h => h) (Or.inl ⟨by rfl, fun w hSw => ?_⟩) hHeld ?_
                rotate_left
                · ((try dsimp only at hSw); go_split_ands; go_simp; (try with_reducible rfl))
                try simp only [Act.put, List.getElem_toArray, List.getElem_cons_zero, List.getElem_cons_succ, List.setIfInBounds_toArray, List.set_cons_zero, List.set_cons_succ]
                have hlB := kBox.lt
                have qb := kBox.cell
                have rb := kBox.frozen
                refine wpAnyH_ready (rs := [20]) (by kernel_rfl) (by simp) ?_
                refine AllReadyH.cons rfl (fun K hK => ?_) AllReadyH.nil
                try simp only [List.getElem_toArray, List.getElem_cons_zero, List.getElem_cons_succ]
                go_simp
                refine hK.out _ _ (⟨(((k0.next HBQ.out).far (p := ⟨xb, 0, none⟩) (by simp only; omega) _).far (p := ⟨xb, 1, none⟩) (by simp only; omega) _).cell, (((kx.next HBQ.out).far (p := ⟨xb, 0, none⟩) (by simp only; omega) _).far (p := ⟨xb, 1, none⟩) (by simp only; omega) _).cell⟩) (fun hHeldN => ?_)
                clear hHeld hK K
                have hHeld := hHeldN
                clear hHeldN
                try simp only [Act.put, List.getElem_toArray, List.getElem_cons_zero, List.getElem_cons_succ, List.setIfInBounds_toArray, List.set_cons_zero, List.set_cons_succ]
                refine wpAnyH_done (by kernel_rfl) ?_ _
                refine NoPanic.normal ?_
                go_wp2_with fail
                go_meet
                case rel =>
                  refine ⟨xb, _, _, _, _, rfl, Lib.hid ((OF2.out.setT kBox (by decide) 0 _).setT (kBox.set_ 0 _) (by decide) 1 _), Lib.hid ((OB.out.setT kBox (by decide) 0 _).setT (kBox.set_ 0 _) (by decide) 1 _), ?_, hxbb, Lib.hid ((HBQ.out.setCell (p := ⟨xb, 0, none⟩) (by simp only; omega) _).setCell (p := ⟨xb, 1, none⟩) (by simp only; omega) _)⟩
                  have := (kBox.set_ 0 (.slice F2 (a.facts.length + 1) e2)).set_ 1 (.slice G3 (a.atoms.length + 1) e4)
                  simpa using this
            · skip
              try simp only [List.getElem_toArray, List.getElem_cons_zero, List.getElem_cons_succ]
              go_simp
              refine hK.out _ _ ⟨((k0.next HBQ.out).alloc _).cell, ((kx.next HBQ.out).alloc _).cell⟩ (fun hHeldN => ?_)
              clear hHeld hK K
              have hHeld := hHeldN
              clear hHeldN
              try simp only [Act.put, List.getElem_toArray, List.getElem_cons_zero, List.getElem_cons_succ, List.setIfInBounds_toArray, List.set_cons_zero, List.set_cons_succ]
              have hBq : Below wq.heap.size wq (wq.alloc (.cells #[.slice none 0 0, .slice none 0 0] tAs)) := bbox (Below.refl _ _) _
              obtain ⟨xb, hxb⟩ : ∃ y, y = wq.heap.size := ⟨_, rfl⟩
              have hxbb : W.heap.size ≤ xb := by omega
              replace HBQ := Lib.hid (HBQ.out.trans (hBq.mono hzq))
              replace hzq := Nat.le_trans hzq hBq.size
              try replace k7 := k7.next hBq
              try replace k16 := k16.next hBq
              try replace kBox := kBox.next hBq
              try replace OF2 := Lib.hid (OF2.out.below hBq)
              try replace OJ := Lib.hid (OJ.out.below hBq)
              try replace OB := Lib.hid (OB.out.below hBq)
              have kBox : Blk (wq.alloc (.cells #[.slice none 0 0, .slice none 0 0] tAs)) xb tAs #[.slice none 0 0, .slice none 0 0] := Blk.newE hxb
              rw [← hxb]
              clear hBq hxb
              generalize wq.alloc (.cells #[.slice none 0 0, .slice none 0 0] tAs) = wq at *
              refine wpAnyH_ready (rs := [11]) (by kernel_rfl) (by simp) ?_
              refine AllReadyH.cons rfl (fun K hK => ?_) AllReadyH.nil
              try simp only [List.getElem_toArray, List.getElem_cons_zero, List.getElem_cons_succ]
              go_simp
              refine (c_joinAn (some ⟨yE + 1, 0, none⟩) G1 1 d1 a.atoms.length [⟨1, x.a, (m : Int)⟩] (withoutL a.atoms i) _ (AtomsV.one (f := ⟨1, x.a, (m : Int)⟩) (kf.next HBQ.out)) (OR.out.readsI.2.below HBQ.out) (by simp <;> omega) (by omega)).mono ?_
              rintro e wq ⟨G2, e3, rfl, oJ, hBq⟩
              have hbs : W.heap.size ≤ _ := hzq
              replace HBQ := Lib.hid (HBQ.out.trans (hBq.mono hzq))
              replace hzq := Nat.le_trans hzq hBq.size
              try replace k7 := k7.next hBq
              try replace k16 := k16.next hBq
              try replace kBox := kBox.next hBq
              try replace OF2 := Lib.hid (OF2.out.below hBq)
              try replace OJ := Lib.hid (OJ.out.below hBq)
              try replace OB := Lib.hid (OB.out.below hBq)
              have OJ := Lib.hid (oJ.lower (base' := W.heap.size) hbs)
              clear oJ hBq hbs
              refine hK.out _ _ ⟨(k0.next HBQ.out).cell, (kx.next HBQ.out).cell⟩ (fun hHeldN => ?_)
              clear hHeld hK K
              have hHeld := hHeldN
              clear hHeldN
              try simp only [Act.put, List.getElem_toArray, List.getElem_cons_zero, List.getElem_cons_succ, List.setIfInBounds_toArray, List.set_cons_zero, List.set_cons_succ]
              refine wpAnyH_ready (rs := [17]) (by kernel_rfl) (by simp) ?_
              refine AllReadyH.cons rfl (fun K hK => ?_) AllReadyH.nil
              refine stepALn (ys := [⟨2, (m : Int), x.b⟩]) (n := a.atoms.length + 1) rfl _ _ rfl rfl OJ.out rfl (AtomsV.one (f := ⟨2, (m : Int), x.b⟩) k16) (by simp <;> omega) (by omega) hzq ?_
              intro G3 e4 wq oB hg hBq
              try replace kBox := Blk.grownO kBox OJ.out.1 hg (by decide)
              replace OF2 := Lib.hid (OF2.out.grownA OJ.out hg)
              replace HBQ := Lib.hid (HBQ.out.trans hBq)
              replace hzq := Nat.le_trans hzq hBq.size
              have OB := Lib.hid oB
              clear oB hg hBq OJ
              refine hK.out _ _ ⟨(k0.next HBQ.out).cell, (kx.next HBQ.out).cell⟩ (fun hHeldN => ?_)
              clear hHeld hK K
              have hHeld := hHeldN
              clear hHeldN
              try simp only [Act.put, List.getElem_toArray, List.getElem_cons_zero, List.getElem_cons_succ, List.setIfInBounds_toArray, List.set_cons_zero, List.set_cons_succ]
              refine wpAnyH_take (i := 18) (v := ?_) rfl (by kernel_rfl) (by kernel_rfl) (by kernel_rfl) (fun _ _ _ h => h) (Or.inl ⟨by rfl, fun w hSw => ?_⟩) hHeld ?_
              rotate_left
              · ((try dsimp only at hSw); go_split_ands; go_simp; (try with_reducible rfl))
              try simp only [Act.put, List.getElem_toArray, List.getElem_cons_zero, List.getElem_cons_succ, List.setIfInBounds_toArray, List.set_cons_zero, List.set_cons_succ]
              have hlB := kBox.lt
              have qb := kBox.cell
              have rb := kBox.frozen
              refine wpAnyH_ready (rs := [20]) (by kernel_rfl) (by simp) ?_
              refine AllReadyH.cons rfl (fun K hK => ?_) AllReadyH.nil
              try simp only [List.getElem_toArray, List.getElem_cons_zero, List.getElem_cons_succ]
              go_simp
              refine hK.out _ _ (⟨(((k0.next HBQ.out).far (p := ⟨xb, 0, none⟩) (by simp only; omega) _).far (p := ⟨xb, 1, none⟩) (by simp only; omega) _).cell, (((kx.next HBQ.out).far (p := ⟨xb, 0, none⟩) (by simp only; omega) _).far (p := ⟨xb, 1, none⟩) (by simp only; omega) _).cell⟩) (fun hHeldN => ?_)
              clear hHeld hK K
              have hHeld := hHeldN
              clear hHeldN
              try simp only [Act.put, List.getElem_toArray, List.getElem_cons_zero, List.getElem_cons_succ, List.setIfInBounds_toArray, List.set_cons_zero, List.set_cons_succ]
              refine wpAnyH_done (by kernel_rfl) ?_ _
              refine NoPanic.normal ?_
              go_wp2_with fail
              go_meet
              case rel =>
                refine ⟨xb, _, _, _, _, rfl, Lib.hid ((OF2.out.setT kBox (by decide) 0 _).setT (kBox.set_ 0 _) (by decide) 1 _), Lib.hid ((OB.out.setT kBox (by decide) 0 _).setT (kBox.set_ 0 _) (by decide) 1 _), ?_, hxbb, Lib.hid ((HBQ.out.setCell (p := ⟨xb, 0, none⟩) (by simp only; omega) _).setCell (p := ⟨xb, 1, none⟩) (by simp only; omega) _)⟩
                have := (kBox.set_ 0 (.slice F2 (a.facts.length + 1) e2)).set_ 1 (.slice G3 (a.atoms.length + 1) e4)
                simpa using this
          · skip
            try simp only [List.getElem_toArray, List.getElem_cons_zero, List.getElem_cons_succ]
            go_simp
            refine hK.out _ _ ⟨((k0.next HBQ.out).alloc _).cell, ((kx.next HBQ.out).alloc _).cell⟩ (fun hHeldN => ?_)
            clear hHeld hK K
            have hHeld := hHeldN
            clear hHeldN
            try simp only [Act.put, List.getElem_toArray, List.getElem_cons_zero, List.getElem_cons_succ, List.setIfInBounds_toArray, List.set_cons_zero, List.set_cons_succ]
            have hBq : Below wq.heap.size wq (wq.alloc (.cells #[.slice none 0 0, .slice none 0 0] tAs)) := bbox (Below.refl _ _) _
            obtain ⟨xb, hxb⟩ : ∃ y, y = wq.heap.size := ⟨_, rfl⟩
            have hxbb : W.heap.size ≤ xb := by omega
            replace HBQ := Lib.hid (HBQ.out.trans (hBq.mono hzq))
            replace hzq := Nat.le_trans hzq hBq.size
            try replace k7 := k7.next hBq
            try replace k16 := k16.next hBq
            try replace kBox := kBox.next hBq
            try replace OF2 := Lib.hid (OF2.out.below hBq)
            try replace OJ := Lib.hid (OJ.out.below hBq)
            try replace OB := Lib.hid (OB.out.below hBq)
            have kBox : Blk (wq.alloc (.cells #[.slice none 0 0, .slice none 0 0] tAs)) xb tAs #[.slice none 0 0, .slice none 0 0] := Blk.newE hxb
            rw [← hxb]
            clear hBq hxb
            generalize wq.alloc (.cells #[.slice none 0 0, .slice none 0 0] tAs) = wq at *
            refine wpAnyH_ready (rs := [8]) (by kernel_rfl) (by simp) ?_
            refine AllReadyH.cons rfl (fun K hK => ?_) AllReadyH.nil
            try simp only [List.getElem_toArray, List.getElem_cons_zero, List.getElem_cons_succ]
            go_simp
            refine (c_joinFn A1 (some ⟨y7, 0, none⟩) c1 1 (a.facts.length + 1) a.facts [⟨false, x.a, x.b⟩] _ (H1.out.below (bgo HB.out HBQ.out)) (FactsV.one (f := ⟨false, x.a, x.b⟩) k7) rfl (by omega)).mono ?_
            rintro e wq ⟨F2, e2, rfl, oF, hBq⟩
            have hbs : W.heap.size ≤ _ := hzq
            replace HBQ := Lib.hid (HBQ.out.trans (hBq.mono hzq))
            replace hzq := Nat.le_trans hzq hBq.size
            try replace k7 := k7.next hBq
            try replace k16 := k16.next hBq
            try replace kBox := kBox.next hBq
            try replace OF2 := Lib.hid (OF2.out.below hBq)
            try replace OJ := Lib.hid (OJ.out.below hBq)
            try replace OB := Lib.hid (OB.out.below hBq)
            have OF2 := Lib.hid (oF.lower (base' := W.heap.size) hbs)
            clear oF hBq hbs
            refine hK.out _ _ ⟨(k0.next HBQ.out).cell, (kx.next HBQ.out).cell⟩ (fun hHeldN => ?_)
            clear hHeld hK K
            have hHeld := hHeldN
            clear hHeldN
            try simp only [Act.put, List.getElem_toArray, List.getElem_cons_zero, List.getElem_cons_succ, List.setIfInBounds_toArray, List.set_cons_zero, List.set_cons_succ]
            refine wpAnyH_ready (rs := [11]) (by kernel_rfl) (by simp) ?_
            refine AllReadyH.cons rfl (fun K hK => ?_) AllReadyH.nil
            try simp only [List.getElem_toArray, List.getElem_cons_zero, List.getElem_cons_succ]
            go_simp
            refine (c_joinAn (some ⟨yE + 1, 0, none⟩) G1 1 d1 a.atoms.length [⟨1, x.a, (m : Int)⟩] (withoutL a.atoms i) _ (AtomsV.one (f := ⟨1, x.a, (m : Int)⟩) (kf.next HBQ.out)) (OR.out.readsI.2.below HBQ.out) (by simp <;> omega) (by omega)).mono ?_
            rintro e wq ⟨G2, e3, rfl, oJ, hBq⟩
            have hbs : W.heap.size ≤ _ := hzq
            replace HBQ := Lib.hid (HBQ.out.trans (hBq.mono hzq))
            replace hzq := Nat.le_trans hzq hBq.size
            try replace k7 := k7.next hBq
            try replace k16 := k16.next hBq
            try replace kBox := kBox.next hBq
            try replace OF2 := Lib.hid (OF2.out.below hBq)
            try replace OJ := Lib.hid (OJ.out.below hBq)
            try replace OB := Lib.hid (OB.out.below hBq)
            have OJ := Lib.hid (oJ.lower (base' := W.heap.size) hbs)
            clear oJ hBq hbs
            refine hK.out _ _ ⟨(k0.next HBQ.out).cell, (kx.next HBQ.out).cell⟩ (fun hHeldN => ?_)
            clear hHeld hK K
            have hHeld := hHeldN
            clear hHeldN
            try simp only [Act.put, List.getElem_toArray, List.getElem_cons_zero, List.getElem_cons_succ, List.setIfInBounds_toArray, List.set_cons_zero, List.set_cons_succ]
            refine wpAnyH_ready (rs := [17]) (by kernel_rfl) (by simp) ?_
            refine AllReadyH.cons rfl (fun K hK => ?_) AllReadyH.nil
            refine stepALn (ys := [⟨2, (m : Int), x.b⟩]) (n := a.atoms.length + 1) rfl _ _ rfl rfl OJ.out rfl (AtomsV.one (f := ⟨2, (m : Int), x.b⟩) k16) (by simp <;> omega) (by omega) hzq ?_
            intro G3 e4 wq oB hg hBq
            try replace kBox := Blk.grownO kBox OJ.out.1 hg (by decide)
            replace OF2 := Lib.hid (OF2.out.grownA OJ.out hg)
            replace HBQ := Lib.hid (HBQ.out.trans hBq)
            replace hzq := Nat.le_trans hzq hBq.size
            have OB := Lib.hid oB
            clear oB hg hBq OJ
            refine hK.out _ _ ⟨(k0.next HBQ.out).cell, (kx.next HBQ.out).cell⟩ (fun hHeldN => ?_)
            clear hHeld hK K
            have hHeld := hHeldN
            clear hHeldN
            try simp only [Act.put, List.getElem_toArray, List.getElem_cons_zero, List.getElem_cons_succ, List.setIfInBounds_toArray, List.set_cons_zero, List.set_cons_succ]
            refine wpAnyH_take (i := 18) (v := ?_) rfl (by kernel_rfl) (by kernel_rfl) (by kernel_rfl) (fun _ _ _ h => h) (Or.inl ⟨by rfl, fun w hSw => ?_⟩) hHeld ?_
            rotate_left
            · ((try dsimp only at hSw); go_split_ands; go_simp; (try with_reducible rfl))
            try simp only [Act.put, List.getElem_toArray, List.getElem_cons_zero, List.getElem_cons_succ, List.setIfInBounds_toArray, List.set_cons_zero, List.set_cons_succ]
            have hlB := kBox.lt
            have qb := kBox.cell
            have rb := kBox.frozen
            refine wpAnyH_ready (rs := [20]) (by kernel_rfl) (by simp) ?_
            refine AllReadyH.cons rfl (fun K hK => ?_) AllReadyH.nil
            try simp only [List.getElem_toArray, List.getElem_cons_zero, List.getElem_cons_succ]
            go_simp
            refine hK.out _ _ (⟨(((k0.next HBQ.out).far (p := ⟨xb, 0, none⟩) (by simp only; omega) _).far (p := ⟨xb, 1, none⟩) (by simp only; omega) _).cell, (((kx.next HBQ.out).far (p := ⟨xb, 0, none⟩) (by simp only; omega) _).far (p := ⟨xb, 1, none⟩) (by simp only; omega) _).cell⟩) (fun hHeldN => ?_)
            clear hHeld hK K
            have hHeld := hHeldN
            clear hHeldN
            try simp only [Act.put, List.getElem_toArray, List.getElem_cons_zero, List.getElem_cons_succ, List.setIfInBounds_toArray, List.set_cons_zero, List.set_cons_succ]
            refine wpAnyH_done (by kernel_rfl) ?_ _
            refine NoPanic.normal ?_
            go_wp2_with fail
            go_meet
            case rel =>
              refine ⟨xb, _, _, _, _, rfl, Lib.hid ((OF2.out.setT kBox (by decide) 0 _).setT (kBox.set_ 0 _) (by decide) 1 _), Lib.hid ((OB.out.setT kBox (by decide) 0 _).setT (kBox.set_ 0 _) (by decide) 1 _), ?_, hxbb, Lib.hid ((HBQ.out.setCell (p := ⟨xb, 0, none⟩) (by simp only; omega) _).setCell (p := ⟨xb, 1, none⟩) (by simp only; omega) _)⟩
              have := (kBox.set_ 0 (.slice F2 (a.facts.length + 1) e2)).set_ 1 (.slice G3 (a.atoms.length + 1) e4)
              simpa using this
        · skip
          try simp only [List.getElem_toArray, List.getElem_cons_zero, List.getElem_cons_succ]
          go_simp
          refine hK.out _ _ ⟨((k0.next HBQ.out).alloc _).cell, ((kx.next HBQ.out).alloc _).cell⟩ (fun hHeldN => ?_)
          clear hHeld hK K
          have hHeld := hHeldN
          clear hHeldN
          try simp only [Act.put, List.getElem_toArray, List.getElem_cons_zero, List.getElem_cons_succ, List.setIfInBounds_toArray, List.set_cons_zero, List.set_cons_succ]
          have hBq : Below wq.heap.size wq (wq.alloc (.cells #[.slice none 0 0, .slice none 0 0] tAs)) := bbox (Below.refl _ _) _
          obtain ⟨xb, hxb⟩ : ∃ y, y = wq.heap.size := ⟨_, rfl⟩
          have hxbb : W.heap.size ≤ xb := by omega
          replace HBQ := Lib.hid (HBQ.out.trans (hBq.mono hzq))
          replace hzq := Nat.le_trans hzq hBq.size
          try replace k7 := k7.next hBq
          try replace k16 := k16.next hBq
          try replace kBox := kBox.next hBq
          try replace OF2 := Lib.hid (OF2.out.below hBq)
          try replace OJ := Lib.hid (OJ.out.below hBq)
          try replace OB := Lib.hid (OB.out.below hBq)
          have kBox : Blk (wq.alloc (.cells #[.slice none 0 0, .slice none 0 0] tAs)) xb tAs #[.slice none 0 0, .slice none 0 0] := Blk.newE hxb
          rw [← hxb]
          clear hBq hxb
          generalize wq.alloc (.cells #[.slice none 0 0, .slice none 0 0] tAs) = wq at *
          refine wpAnyH_ready (rs := [7]) (by kernel_rfl) (by simp) ?_
          refine AllReadyH.cons rfl (fun K hK => ?_) AllReadyH.nil
          try simp only [List.getElem_toArray, List.getElem_cons_zero, List.getElem_cons_succ]
          go_simp
          refine hK.out _ _ ⟨((k0.next HBQ.out).alloc _).cell, ((kx.next HBQ.out).alloc _).cell⟩ (fun hHeldN => ?_)
          clear hHeld hK K
          have hHeld := hHeldN
          clear hHeldN
          try simp only [Act.put, List.getElem_toArray, List.getElem_cons_zero, List.getElem_cons_succ, List.setIfInBounds_toArray, List.set_cons_zero, List.set_cons_succ]
          have hBq : Below wq.heap.size wq (wq.alloc (.cells #[.bool false, .int .i64 x.a, .int .i64 x.b] tF)) := bbox (Below.refl _ _) _
          obtain ⟨y7, hy7⟩ : ∃ y, y = wq.heap.size := ⟨_, rfl⟩
          have hy7b : W.heap.size ≤ y7 := by omega
          replace HBQ := Lib.hid (HBQ.out.trans (hBq.mono hzq))
          replace hzq := Nat.le_trans hzq hBq.size
          try replace k7 := k7.next hBq
          try replace k16 := k16.next hBq
          try replace kBox := kBox.next hBq
          try replace OF2 := Lib.hid (OF2.out.below hBq)
          try replace OJ := Lib.hid (OJ.out.below hBq)
          try replace OB := Lib.hid (OB.out.below hBq)
          have k7 : Blk (wq.alloc (.cells #[.bool false, .int .i64 x.a, .int .i64 x.b] tF)) y7 tF #[.bool false, .int .i64 x.a, .int .i64 x.b] := Blk.newE hy7
          rw [← hy7]
          clear hBq hy7
          generalize wq.alloc (.cells #[.bool false, .int .i64 x.a, .int .i64 x.b] tF) = wq at *
          refine wpAnyH_ready (rs := [8]) (by kernel_rfl) (by simp) ?_
          refine AllReadyH.cons rfl (fun K hK => ?_) AllReadyH.nil
          try simp only [List.getElem_toArray, List.getElem_cons_zero, List.getElem_cons_succ]
          go_simp
          refine (c_joinFn A1 (some ⟨y7, 0, none⟩) c1 1 (a.facts.length + 1) a.facts [⟨false, x.a, x.b⟩] _ (H1.out.below (bgo HB.out HBQ.out)) (FactsV.one (f := ⟨false, x.a, x.b⟩) k7) rfl (by omega)).mono ?_
          rintro e wq ⟨F2, e2, rfl, oF, hBq⟩
          have hbs : W.heap.size ≤ _ := hzq
          replace HBQ := Lib.hid (HBQ.out.trans (hBq.mono hzq))
          replace hzq := Nat.le_trans hzq hBq.size
          try replace k7 := k7.next hBq
          try replace k16 := k16.next hBq
          try replace kBox := kBox.next hBq
          try replace OF2 := Lib.hid (OF2.out.below hBq)
          try replace OJ := Lib.hid (OJ.out.below hBq)
          try replace OB := Lib.hid (OB.out.below hBq)
          have OF2 := Lib.hid (oF.lower (base' := W.heap.size) hbs)
          clear oF hBq hbs
          refine hK.out _ _ ⟨(k0.next HBQ.out).cell, (kx.next HBQ.out).cell⟩ (fun hHeldN => ?_)
          clear hHeld hK K
          have hHeld := hHeldN
          clear hHeldN
          try simp only [Act.put, List.getElem_toArray, List.getElem_cons_zero, List.getElem_cons_succ, List.setIfInBounds_toArray, List.set_cons_zero, List.set_cons_succ]
          refine wpAnyH_ready (rs := [11]) (by kernel_rfl) (by simp) ?_
          refine AllReadyH.cons rfl (fun K hK => ?_) AllReadyH.nil
          try simp only [List.getElem_toArray, List.getElem_cons_zero, List.getElem_cons_succ]
          go_simp
          refine (c_joinAn (some ⟨yE + 1, 0, none⟩) G1 1 d1 a.atoms.length [⟨1, x.a, (m : Int)⟩] (withoutL a.atoms i) _ (AtomsV.one (f := ⟨1, x.a, (m : Int)⟩) (kf.next HBQ.out)) (OR.out.readsI.2.below HBQ.out) (by simp <;> omega) (by omega)).mono ?_
          rintro e wq ⟨G2, e3, rfl, oJ, hBq⟩
          have hbs : W.heap.size ≤ _ := hzq
          replace HBQ := Lib.hid (HBQ.out.trans (hBq.mono hzq))
          replace hzq := Nat.le_trans hzq hBq.size
          try replace k7 := k7.next hBq
          try replace k16 := k16.next hBq
          try replace kBox := kBox.next hBq
          try replace OF2 := Lib.hid (OF2.out.below hBq)
          try replace OJ := Lib.hid (OJ.out.below hBq)
          try replace OB := Lib.hid (OB.out.below hBq)
          have OJ := Lib.hid (oJ.lower (base' := W.heap.size) hbs)
          clear oJ hBq hbs
          refine hK.out _ _ ⟨(k0.next HBQ.out).cell, (kx.next HBQ.out).cell⟩ (fun hHeldN => ?_)
          clear hHeld hK K
          have hHeld := hHeldN
          clear hHeldN
          try simp only [Act.put, List.getElem_toArray, List.getElem_cons_zero, List.getElem_cons_succ, List.setIfInBounds_toArray, List.set_cons_zero, List.set_cons_succ]
          refine wpAnyH_ready (rs := [17]) (by kernel_rfl) (by simp) ?_
          refine AllReadyH.cons rfl (fun K hK => ?_) AllReadyH.nil
          refine stepALn (ys := [⟨2, (m : Int), x.b⟩]) (n := a.atoms.length + 1) rfl _ _ rfl rfl OJ.out rfl (AtomsV.one (f := ⟨2, (m : Int), x.b⟩) k16) (by simp <;> omega) (by omega) hzq ?_
          intro G3 e4 wq oB hg hBq
          try replace kBox := Blk.grownO kBox OJ.out.1 hg (by decide)
          replace OF2 := Lib.hid (OF2.out.grownA OJ.out hg)
          replace HBQ := Lib.hid (HBQ.out.trans hBq)
          replace hzq := Nat.le_trans hzq hBq.size
          have OB := Lib.hid oB
          clear oB hg hBq OJ
          refine hK.out _ _ ⟨(k0.next HBQ.out).cell, (kx.next HBQ.out).cell⟩ (fun hHeldN => ?_)
          clear hHeld hK K
          have hHeld := hHeldN
          clear hHeldN
          try simp only [Act.put, List.getElem_toArray, List.getElem_cons_zero, List.getElem_cons_succ, List.setIfInBounds_toArray, List.set_cons_zero, List.set_cons_succ]
          refine wpAnyH_take (i := 18) (v := ?_) rfl (by kernel_rfl) (by kernel_rfl) (by kernel_rfl) (fun _ _ _ h => h) (Or.inl ⟨by rfl, fun w hSw => ?_⟩) hHeld ?_
          rotate_left
          · ((try dsimp only at hSw); go_split_ands; go_simp; (try with_reducible rfl))
          try simp only [Act.put, List.getElem_toArray, List.getElem_cons_zero, List.getElem_cons_succ, List.setIfInBounds_toArray, List.set_cons_zero, List.set_cons_succ]
          have hlB := kBox.lt
          have qb := kBox.cell
          have rb := kBox.frozen
          refine wpAnyH_ready (rs := [20]) (by kernel_rfl) (by simp) ?_
          refine AllReadyH.cons rfl (fun K hK => ?_) AllReadyH.nil
          try simp only [List.getElem_toArray, List.getElem_cons_zero, List.getElem_cons_succ]
          go_simp
          refine hK.out _ _ (⟨(((k0.next HBQ.out).far (p := ⟨xb, 0, none⟩) (by simp only; omega) _).far (p := ⟨xb, 1, none⟩) (by simp only; omega) _).cell, (((kx.next HBQ.out).far (p := ⟨xb, 0, none⟩) (by simp only; omega) _).far (p := ⟨xb, 1, none⟩) (by simp only; omega) _).cell⟩) (fun hHeldN => ?_)
          clear hHeld hK K
          have hHeld := hHeldN
          clear hHeldN
          try simp only [Act.put, List.getElem_toArray, List.getElem_cons_zero, List.getElem_cons_succ, List.setIfInBounds_toArray, List.set_cons_zero, List.set_cons_succ]
          refine wpAnyH_done (by kernel_rfl) ?_ _
          refine NoPanic.normal ?_
          go_wp2_with fail
          go_meet
          case rel =>
            refine ⟨xb, _, _, _, _, rfl, Lib.hid ((OF2.out.setT kBox (by decide) 0 _).setT (kBox.set_ 0 _) (by decide) 1 _), Lib.hid ((OB.out.setT kBox (by decide) 0 _).setT (kBox.set_ 0 _) (by decide) 1 _), ?_, hxbb, Lib.hid ((HBQ.out.setCell (p := ⟨xb, 0, none⟩) (by simp only; omega) _).setCell (p := ⟨xb, 1, none⟩) (by simp only; omega) _)⟩
            have := (kBox.set_ 0 (.slice F2 (a.facts.length + 1) e2)).set_ 1 (.slice G3 (a.atoms.length + 1) e4)
            simpa using this
      · skip
        try simp only [List.getElem_toArray, List.getElem_cons_zero, List.getElem_cons_succ]
        go_simp
        refine hK.out _ _ ⟨((k0.next HBQ.out).alloc _).cell, ((kx.next HBQ.out).alloc _).cell⟩ (fun hHeldN => ?_)
        clear hHeld hK K
        have hHeld := hHeldN
        clear hHeldN
        try simp only [Act.put, List.getElem_toArray, List.getElem_cons_zero, List.getElem_cons_succ, List.setIfInBounds_toArray, List.set_cons_zero, List.set_cons_succ]
        have hBq : Below wq.heap.size wq (wq.alloc (.cells #[.slice none 0 0, .slice none 0 0] tAs)) := bbox (Below.refl _ _) _
        obtain ⟨xb, hxb⟩ : ∃ y, y = wq.heap.size := ⟨_, rfl⟩
        have hxbb : W.heap.size ≤ xb := by omega
        replace HBQ := Lib.hid (HBQ.out.trans (hBq.mono hzq))
        replace hzq := Nat.le_trans hzq hBq.size
        try replace k7 := k7.next hBq
        try replace k16 := k16.next hBq
        try replace kBox := kBox.next hBq
        try replace OF2 := Lib.hid (OF2.out.below hBq)
        try replace OJ := Lib.hid (OJ.out.below hBq)
        try replace OB := Lib.hid (OB.out.below hBq)
        have kBox : Blk (wq.alloc (.cells #[.slice none 0 0, .slice none 0 0] tAs)) xb tAs #[.slice none 0 0, .slice none 0 0] := Blk.newE hxb
        rw [← hxb]
        clear hBq hxb
        generalize wq.alloc (.cells #[.slice none 0 0, .slice none 0 0] tAs) = wq at *
        refine wpAnyH_ready (rs := [7, 16]) (by kernel_rfl) (by simp) ?_
        refine AllReadyH.cons rfl (fun K hK => ?_) (AllReadyH.cons rfl (fun K hK => ?_) AllReadyH.nil)
        · skip
          try simp only [List.getElem_toArray, List.getElem_cons_zero, List.getElem_cons_succ]
          go_simp
          refine hK.out _ _ ⟨((k0.next HBQ.out).alloc _).cell, ((kx.next HBQ.out).alloc _).cell⟩ (fun hHeldN => ?_)
          clear hHeld hK K
          have hHeld := hHeldN
          clear hHeldN
          try simp only [Act.put, List.getElem_toArray, List.getElem_cons_zero, List.getElem_cons_succ, List.setIfInBounds_toArray, List.set_cons_zero, List.set_cons_succ]
          have hBq : Below wq.heap.size wq (wq.alloc (.cells #[.bool false, .int .i64 x.a, .int .i64 x.b] tF)) := bbox (Below.refl _ _) _
          obtain ⟨y7, hy7⟩ : ∃ y, y = wq.heap.size := ⟨_, rfl⟩
          have hy7b : W.heap.size ≤ y7 := by omega
          replace HBQ := Lib.hid (HBQ.out.trans (hBq.mono hzq))
          replace hzq := Nat.le_trans hzq hBq.size
          try replace k7 := k7.next hBq
          try replace k16 := k16.next hBq
          try replace kBox := kBox.next hBq
          try replace OF2 := Lib.hid (OF2.out.below hBq)
          try replace OJ := Lib.hid (OJ.out.below hBq)
          try replace OB := Lib.hid (OB.out.below hBq)
          have k7 : Blk (wq.alloc (.cells #[.bool false, .int .i64 x.a, .int .i64 x.b] tF)) y7 tF #[.bool false, .int .i64 x.a, .int .i64 x.b] := Blk.newE hy7
          rw [← hy7]
          clear hBq hy7
          generalize wq.alloc (.cells #[.bool false, .int .i64 x.a, .int .i64 x.b] tF) = wq at *
          refine wpAnyH_ready (rs := [8, 16]) (by kernel_rfl) (by simp) ?_
          refine AllReadyH.cons rfl (fun K hK => ?_) (AllReadyH.cons rfl (fun K hK => ?_) AllReadyH.nil)
          · skip
            try simp only [List.getElem_toArray, List.getElem_cons_zero, List.getElem_cons_succ]
            go_simp
            refine (c_joinFn A1 (some ⟨y7, 0, none⟩) c1 1 (a.facts.length + 1) a.facts [⟨false, x.a, x.b⟩] _ (H1.out.below (bgo HB.out HBQ.out)) (FactsV.one (f := ⟨false, x.a, x.b⟩) k7) rfl (by omega)).mono ?_
            rintro e wq ⟨F2, e2, rfl, oF, hBq⟩
            have hbs : W.heap.size ≤ _ := hzq
            replace HBQ := Lib.hid (HBQ.out.trans (hBq.mono hzq))
            replace hzq := Nat.le_trans hzq hBq.size
            try replace k7 := k7.next hBq
            try replace k16 := k16.next hBq
            try replace kBox := kBox.next hBq
            try replace OF2 := Lib.hid (OF2.out.below hBq)
            try replace OJ := Lib.hid (OJ.out.below hBq)
            try replace OB := Lib.hid (OB.out.below hBq)
            have OF2 := Lib.hid (oF.lower (base' := W.heap.size) hbs)
            clear oF hBq hbs
            refine hK.out _ _ ⟨(k0.next HBQ.out).cell, (kx.next HBQ.out).cell⟩ (fun hHeldN => ?_)
            clear hHeld hK K
            have hHeld := hHeldN
            clear hHeldN
            try simp only [Act.put, List.getElem_toArray, List.getElem_cons_zero, List.getElem_cons_succ, List.setIfInBounds_toArray, List.set_cons_zero, List.set_cons_succ]
            refine wpAnyH_ready (rs := [11, 16]) (by kernel_rfl) (by simp) ?_
            refine AllReadyH.cons rfl (fun K hK => ?_) (AllReadyH.cons rfl (fun K hK => ?_) AllReadyH.nil)
            · skip
              try simp only [List.getElem_toArray, List.getElem_cons_zero, List.getElem_cons_succ]
              go_simp
              refine (c_joinAn (some ⟨yE + 1, 0, none⟩) G1 1 d1 a.atoms.length [⟨1, x.a, (m : Int)⟩] (withoutL a.atoms i) _ (AtomsV.one (f := ⟨1, x.a, (m : Int)⟩) (kf.next HBQ.out)) (OR.out.readsI.2.below HBQ.out) (by simp <;> omega) (by omega)).mono ?_
              rintro e wq ⟨G2, e3, rfl, oJ, hBq⟩
              have hbs : W.heap.size ≤ _ := hzq
              replace HBQ := Lib.hid (HBQ.out.trans (hBq.mono hzq))
              replace hzq := Nat.le_trans hzq hBq.size
              try replace k7 := k7.next hBq
              try replace k16 := k16.next hBq
              try replace kBox := kBox.next hBq
              try replace OF2 := Lib.hid (OF2.out.below hBq)
              try replace OJ := Lib.hid (OJ.out.below hBq)
              try replace OB := Lib.hid (OB.out.below hBq)
              have OJ := Lib.hid (oJ.lower (base' := W.heap.size) hbs)
              clear oJ hBq hbs
              refine hK.out _ _ ⟨(k0.next HBQ.out).cell, (kx.next HBQ.out).cell⟩ (fun hHeldN => ?_)
              clear hHeld hK K
              have hHeld := hHeldN
              clear hHeldN
              try simp only [Act.put, List.getElem_toArray, List.getElem_cons_zero, List.getElem_cons_succ, List.setIfInBounds_toArray, List.set_cons_zero, List.set_cons_succ]
              refine wpAnyH_ready (rs := [16]) (by kernel_rfl) (by simp) ?_
              refine AllReadyH.cons rfl (fun K hK => ?_) AllReadyH.nil
              try simp only [List.getElem_toArray, List.getElem_cons_zero, List.getElem_cons_succ]
              go_simp
              refine hK.out _ _ ⟨((k0.next HBQ.out).alloc _).cell, ((kx.next HBQ.out).alloc _).cell⟩ (fun hHeldN => ?_)
              clear hHeld hK K
              have hHeld := hHeldN
              clear hHeldN
              try simp only [Act.put, List.getElem_toArray, List.getElem_cons_zero, List.getElem_cons_succ, List.setIfInBounds_toArray, List.set_cons_zero, List.set_cons_succ]
              have hBq : Below wq.heap.size wq (wq.alloc (.cells #[.int .i64 2, .int .i64 m, .int .i64 x.b] tA)) := bbox (Below.refl _ _) _
              obtain ⟨y16, hy16⟩ : ∃ y, y = wq.heap.size := ⟨_, rfl⟩
              have hy16b : W.heap.size ≤ y16 := by omega
              replace HBQ := Lib.hid (HBQ.out.trans (hBq.mono hzq))
              replace hzq := Nat.le_trans hzq hBq.size
              try replace k7 := k7.next hBq
              try replace k16 := k16.next hBq
              try replace kBox := kBox.next hBq
              try replace OF2 := Lib.hid (OF2.out.below hBq)
              try replace OJ := Lib.hid (OJ.out.below hBq)
              try replace OB := Lib.hid (OB.out.below hBq)
              have k16 : Blk (wq.alloc (.cells #[.int .i64 2, .int .i64 m, .int .i64 x.b] tA)) y16 tA #[.int .i64 2, .int .i64 m, .int .i64 x.b] := Blk.newE hy16
              rw [← hy16]
              clear hBq hy16
              generalize wq.alloc (.cells #[.int .i64 2, .int .i64 m, .int .i64 x.b] tA) = wq at *
              refine wpAnyH_ready (rs := [17]) (by kernel_rfl) (by simp) ?_
              refine AllReadyH.cons rfl (fun K hK => ?_) AllReadyH.nil
              refine stepALn (ys := [⟨2, (m : Int), x.b⟩]) (n := a.atoms.length + 1) rfl _ _ rfl rfl OJ.out rfl (AtomsV.one (f := ⟨2, (m : Int), x.b⟩) k16) (by simp <;> omega) (by omega) hzq ?_
              intro G3 e4 wq oB hg hBq
              try replace kBox := Blk.grownO kBox OJ.out.1 hg (by decide)
              replace OF2 := Lib.hid (OF2.out.grownA OJ.out hg)
              replace HBQ := Lib.hid (HBQ.out.trans hBq)
              replace hzq := Nat.le_trans hzq hBq.size
              have OB := Lib.hid oB
              clear oB hg hBq OJ
              refine hK.out _ _ ⟨(k0.next HBQ.out).cell, (kx.next HBQ.out).cell⟩ (fun hHeldN => ?_)
              clear hHeld hK K
              have hHeld := hHeldN
              clear hHeldN
              try simp only [Act.put, List.getElem_toArray, List.getElem_cons_zero, List.getElem_cons_succ, List.setIfInBounds_toArray, List.set_cons_zero, List.set_cons_succ]
              refine wpAnyH_take (i := 18) (v := ?_) rfl (by kernel_rfl) (by kernel_rfl) (by kernel_rfl) (fun _ _ _ h => h) (Or.inl ⟨by rfl, fun w hSw => ?_⟩) hHeld ?_
              rotate_left
              · ((try dsimp only at hSw); go_split_ands; go_simp; (try with_reducible rfl))
              try simp only [Act.put, List.getElem_toArray, List.getElem_cons_zero, List.getElem_cons_succ, List.setIfInBounds_toArray, List.set_cons_zero, List.set_cons_succ]
              have hlB := kBox.lt
              have qb := kBox.cell
              have rb := kBox.frozen
              refine wpAnyH_ready (rs := [20]) (by kernel_rfl) (by simp) ?_
              refine AllReadyH.cons rfl (fun K hK => ?_) AllReadyH.nil
              try simp only [List.getElem_toArray, List.getElem_cons_zero, List.getElem_cons_succ]
              go_simp
              refine hK.out _ _ (⟨(((k0.next HBQ.out).far (p := ⟨xb, 0, none⟩) (by simp only; omega) _).far (p := ⟨xb, 1, none⟩) (by simp only; omega) _).cell, (((kx.next HBQ.out).far (p := ⟨xb, 0, none⟩) (by simp only; omega) _).far (p := ⟨xb, 1, none⟩) (by simp only; omega) _).cell⟩) (fun hHeldN => ?_)
              clear hHeld hK K
              have hHeld := hHeldN
              clear hHeldN
              try simp only [Act.put, List.getElem_toArray, List.getElem_cons_zero, List.getElem_cons_succ, List.setIfInBounds_toArray, List.set_cons_zero, List.set_cons_succ]
              refine wpAnyH_done (by kernel_rfl) ?_ _
              refine NoPanic.normal ?_
              go_wp2_with fail
              go_meet
              case rel =>
                refine ⟨xb, _, _, _, _, rfl, Lib.hid ((OF2.out.setT kBox (by decide) 0 _).setT (kBox.set_ 0 _) (by decide) 1 _), Lib.hid ((OB.out.setT kBox (by decide) 0 _).setT (kBox.set_ 0 _) (by decide) 1 _), ?_, hxbb, Lib.hid ((HBQ.out.setCell (p := ⟨xb, 0, none⟩) (by simp only; omega) _).setCell (p := ⟨xb, 1, none⟩) (by simp only; omega) _)⟩
                have := (kBox.set_ 0 (.slice F2 (a.facts.length + 1) e2)).set_ 1 (.slice G3 (a.atoms.length + 1) e4)
                simpa using this
            · skip
              try simp only [List.getElem_toArray, List.getElem_cons_zero, List.getElem_cons_succ]
              go_simp
              refine hK.out _ _ ⟨((k0.next HBQ.out).alloc _).cell, ((kx.next HBQ.out).alloc _).cell⟩ (fun hHeldN => ?_)
              clear hHeld hK K
              have hHeld := hHeldN
              clear hHeldN
              try simp only [Act.put, List.getElem_toArray, List.getElem_cons_zero, List.getElem_cons_succ, List.setIfInBounds_toArray, List.set_cons_zero, List.set_cons_succ]
              have hBq : Below wq.heap.size wq (wq.alloc (.cells #[.int .i64 2, .int .i64 m, .int .i64 x.b] tA)) := bbox (Below.refl _ _) _
              obtain ⟨y16, hy16⟩ : ∃ y, y = wq.heap.size := ⟨_, rfl⟩
              have hy16b : W.heap.size ≤ y16 := by omega
              replace HBQ := Lib.hid (HBQ.out.trans (hBq.mono hzq))
              replace hzq := Nat.le_trans hzq hBq.size
              try replace k7 := k7.next hBq
              try replace k16 := k16.next hBq
              try replace kBox := kBox.next hBq
              try replace OF2 := Lib.hid (OF2.out.below hBq)
              try replace OJ := Lib.hid (OJ.out.below hBq)
              try replace OB := Lib.hid (OB.out.below hBq)
              have k16 : Blk (wq.alloc (.cells #[.int .i64 2, .int .i64 m, .int .i64 x.b] tA)) y16 tA #[.int .i64 2, .int .i64 m, .int .i64 x.b] := Blk.newE hy16
              rw [← hy16]
              clear hBq hy16
              generalize wq.alloc (.cells #[.int .i64 2, .int .i64 m, .int .i64 x.b] tA) = wq at *
              refine wpAnyH_ready (rs := [11]) (by kernel_rfl) (by simp) ?_
              refine AllReadyH.cons rfl (fun K hK => ?_) AllReadyH.nil
              try simp only [List.getElem_toArray, List.getElem_cons_zero, List.getElem_cons_succ]
              go_simp
              refine (c_joinAn (some ⟨yE + 1, 0, none⟩) G1 1 d1 a.atoms.length [⟨1, x.a, (m : Int)⟩] (withoutL a.atoms i) _ (AtomsV.one (f := ⟨1, x.a, (m : Int)⟩) (kf.next HBQ.out)) (OR.out.readsI.2.below HBQ.out) (by simp <;> omega) (by omega)).mono ?_
              rintro e wq ⟨G2, e3, rfl, oJ, hBq⟩
              have hbs : W.heap.size ≤ _ := hzq
              replace HBQ := Lib.hid (HBQ.out.trans (hBq.mono hzq))
              replace hzq := Nat.le_trans hzq hBq.size
              try replace k7 := k7.next hBq
              try replace k16 := k16.next hBq
              try replace kBox := kBox.next hBq
              try replace OF2 := Lib.hid (OF2.out.below hBq)
              try replace OJ := Lib.hid (OJ.out.below hBq)
              try replace OB := Lib.hid (OB.out.below hBq)
              have OJ := Lib.hid (oJ.lower (base' := W.heap.size) hbs)
              clear oJ hBq hbs
              refine hK.out _ _ ⟨(k0.next HBQ.out).cell, (kx.next HBQ.out).cell⟩ (fun hHeldN => ?_)
              clear hHeld hK K
              have hHeld := hHeldN
              clear hHeldN
              try simp only [Act.put, List.getElem_toArray, List.getElem_cons_zero, List.getElem_cons_succ, List.setIfInBounds_toArray, List.set_cons_zero, List.set_cons_succ]
              refine wpAnyH_ready (rs := [17]) (by kernel_rfl) (by simp) ?_
              refine AllReadyH.cons rfl (fun K hK => ?_) AllReadyH.nil
              refine stepALn (ys := [⟨2, (m : Int), x.b⟩]) (n := a.atoms.length + 1) rfl _ _ rfl rfl OJ.out rfl (AtomsV.one (f := ⟨2, (m : Int), x.b⟩) k16) (by simp <;> omega) (by omega) hzq ?_
              intro G3 e4 wq oB hg hBq
              try replace kBox := Blk.grownO kBox OJ.out.1 hg (by decide)
              replace OF2 := Lib.hid (OF2.out.grownA OJ.out hg)
              replace HBQ := Lib.hid (HBQ.out.trans hBq)
              replace hzq := Nat.le_trans hzq hBq.size
              have OB := Lib.hid oB
              clear oB hg hBq OJ
              refine hK.out _ _ ⟨(k0.next HBQ.out).cell, (kx.next HBQ.out).cell⟩ (fun hHeldN => ?_)
              clear hHeld hK K
              have hHeld := hHeldN
              clear hHeldN
              try simp only [Act.put, List.getElem_toArray, List.getElem_cons_zero, List.getElem_cons_succ, List.setIfInBounds_toArray, List.set_cons_zero, List.set_cons_succ]
              refine wpAnyH_take (i := 18) (v := ?_) rfl (by kernel_rfl) (by kernel_rfl) (by kernel_rfl) (fun _ _ _ h => h) (Or.inl ⟨by rfl, fun w hSw => ?_⟩) hHeld ?_
              rotate_left
              · ((try dsimp only at hSw); go_split_ands; go_simp; (try with_reducible rfl))
              try simp only [Act.put, List.getElem_toArray, List.getElem_cons_zero, List.getElem_cons_succ, List.setIfInBounds_toArray, List.set_cons_zero, List.set_cons_succ]
              have hlB := kBox.lt
              have qb := kBox.cell
              have rb := kBox.frozen
              refine wpAnyH_ready (rs := [20]) (by kernel_rfl) (by simp) ?_
              refine AllReadyH.cons rfl (fun K hK => ?_) AllReadyH.nil
              try simp only [List.getElem_toArray, List.getElem_cons_zero, List.getElem_cons_succ]
              go_simp
              refine hK.out _ _ (⟨(((k0.next HBQ.out).far (p := ⟨xb, 0, none⟩) (by simp only; omega) _).far (p := ⟨xb, 1, none⟩) (by simp only; omega) _).cell, (((kx.next HBQ.out).far (p := ⟨xb, 0, none⟩) (by simp only; omega) _).far (p := ⟨xb, 1, none⟩) (by simp only; omega) _).cell⟩) (fun hHeldN => ?_)
              clear hHeld hK K
              have hHeld := hHeldN
              clear hHeldN
              try simp only [Act.put, List.getElem_toArray, List.getElem_cons_zero, List.getElem_cons_succ, List.setIfInBounds_toArray, List.set_cons_zero, List.set_cons_succ]
              refine wpAnyH_done (by kernel_rfl) ?_ _
              refine NoPanic.normal ?_
              go_wp2_with fail
              go_meet
              case rel =>
                refine ⟨xb, _, _, _, _, rfl, Lib.hid ((OF2.out.setT kBox (by decide) 0 _).setT (kBox.set_ 0 _) (by decide) 1 _), Lib.hid ((OB.out.setT kBox (by decide) 0 _).setT (kBox.set_ 0 _) (by decide) 1 _), ?_, hxbb, Lib.hid ((HBQ.out.setCell (p := ⟨xb, 0, none⟩) (by simp only; omega) _).setCell (p := ⟨xb, 1, none⟩) (by simp only; omega) _)⟩
                have := (kBox.set_ 0 (.slice F2 (a.facts.length + 1) e2)).set_ 1 (.slice G3 (a.atoms.length + 1) e4)
                simpa using this
          · skip
            try simp only [List.getElem_toArray, List.getElem_cons_zero, List.getElem_cons_succ]
            go_simp
            refine hK.out _ _ ⟨((k0.next HBQ.out).alloc _).cell, ((kx.next HBQ.out).alloc _).cell⟩ (fun hHeldN => ?_)
            clear hHeld hK K
            have hHeld := hHeldN
            clear hHeldN
            try simp only [Act.put, List.getElem_toArray, List.getElem_cons_zero, List.getElem_cons_succ, List.setIfInBounds_toArray, List.set_cons_zero, List.set_cons_succ]
            have hBq : Below wq.heap.size wq (wq.alloc (.cells #[.int .i64 2, .int .i64 m, .int .i64 x.b] tA)) := bbox (Below.refl _ _) _
            obtain ⟨y16, hy16⟩ : ∃ y, y = wq.heap.size := ⟨_, rfl⟩
            have hy16b : W.heap.size ≤ y16 := by omega
            replace HBQ := Lib.hid (HBQ.out.trans (hBq.mono hzq))
            replace hzq := Nat.le_trans hzq hBq.size
            try replace k7 := k7.next hBq
            try replace k16 := k16.next hBq
            try replace kBox := kBox.next hBq
            try replace OF2 := Lib.hid (OF2.out.below hBq)
            try replace OJ := Lib.hid (OJ.out.below hBq)
            try replace OB := Lib.hid (OB.out.below hBq)
            have k16 : Blk (wq.alloc (.cells #[.int .i64 2, .int .i64 m, .int .i64 x.b] tA)) y16 tA #[.int .i64 2, .int .i64 m, .int .i64 x.b] := Blk.newE hy16
            rw [← hy16]
            clear hBq hy16
            generalize wq.alloc (.cells #[.int .i64 2, .int .i64 m, .int .i64 x.b] tA) = wq at *
            refine wpAnyH_ready (rs := [8]) (by kernel_rfl) (by simp) ?_
            refine AllReadyH.cons rfl (fun K hK => ?_) AllReadyH.nil
            try simp only [List.getElem_toArray, List.getElem_cons_zero, List.getElem_cons_succ]
            go_simp
            refine (c_joinFn A1 (some ⟨y7, 0, none⟩) c1 1 (a.facts.length + 1) a.facts [⟨false, x.a, x.b⟩] _ (H1.out.below (bgo HB.out HBQ.out)) (FactsV.one (f := ⟨false, x.a, x.b⟩) k7) rfl (by omega)).mono ?_
            rintro e wq ⟨F2, e2, rfl, oF, hBq⟩
            have hbs : W.heap.size ≤ _ := hzq
            replace HBQ := Lib.hid (HBQ.out.trans (hBq.mono hzq))
            replace hzq := Nat.le_trans hzq hBq.size
            try replace k7 := k7.next hBq
            try replace k16 := k16.next hBq
            try replace kBox := kBox.next hBq
            try replace OF2 := Lib.hid (OF2.out.below hBq)
            try replace OJ := Lib.hid (OJ.out.below hBq)
            try replace OB := Lib.hid (OB.out.below hBq)
            have OF2 := Lib.hid (oF.lower (base' := W.heap.size) hbs)
            clear oF hBq hbs
            refine hK.out _ _ ⟨(k0.next HBQ.out).cell, (kx.next HBQ.out).cell⟩ (fun hHeldN => ?_)
            clear hHeld hK K
            have hHeld := hHeldN
            clear hHeldN
            try simp only [Act.put, List.getElem_toArray, List.getElem_cons_zero, List.getElem_cons_succ, List.setIfInBounds_toArray, List.set_cons_zero, List.set_cons_succ]
            refine wpAnyH_ready (rs := [11]) (by kernel_rfl) (by simp) ?_
            refine AllReadyH.cons rfl (fun K hK => ?_) AllReadyH.nil
            try simp only [List.getElem_toArray, List.getElem_cons_zero, List.getElem_cons_succ]
            go_simp
            refine (c_joinAn (some ⟨yE + 1, 0, none⟩) G1 1 d1 a.atoms.length [⟨1, x.a, (m : Int)⟩] (withoutL a.atoms i) _ (AtomsV.one (f := ⟨1, x.a, (m : Int)⟩) (kf.next HBQ.out)) (OR.out.readsI.2.below HBQ.out) (by simp <;> omega) (by omega)).mono ?_
            rintro e wq ⟨G2, e3, rfl, oJ, hBq⟩
            have hbs : W.heap.size ≤ _ := hzq
            replace HBQ := Lib.hid (HBQ.out.trans (hBq.mono hzq))
            replace hzq := Nat.le_trans hzq hBq.size
            try replace k7 := k7.next hBq
            try replace k16 := k16.next hBq
            try replace kBox := kBox.next hBq
            try replace OF2 := Lib.hid (OF2.out.below hBq)
            try replace OJ := Lib.hid (OJ.out.below hBq)
            try replace OB := Lib.hid (OB.out.below hBq)
            have OJ := Lib.hid (oJ.lower (base' := W.heap.size) hbs)
            clear oJ hBq hbs
            refine hK.out _ _ ⟨(k0.next HBQ.out).cell, (kx.next HBQ.out).cell⟩ (fun hHeldN => ?_)
            clear hHeld hK K
            have hHeld := hHeldN
            clear hHeldN
            try simp only [Act.put, List.getElem_toArray, List.getElem_cons_zero, List.getElem_cons_succ, List.setIfInBounds_toArray, List.set_cons_zero, List.set_cons_succ]
            refine wpAnyH_ready (rs := [17]) (by kernel_rfl) (by simp) ?_
            refine AllReadyH.cons rfl (fun K hK => ?_) AllReadyH.nil
            refine stepALn (ys := [⟨2, (m : Int), x.b⟩]) (n := a.atoms.length + 1) rfl _ _ rfl rfl OJ.out rfl (AtomsV.one (f := ⟨2, (m : Int), x.b⟩) k16) (by simp <;> omega) (by omega) hzq ?_
            intro G3 e4 wq oB hg hBq
            try replace kBox := Blk.grownO kBox OJ.out.1 hg (by decide)
            replace OF2 := Lib.hid (OF2.out.grownA OJ.out hg)
            replace HBQ := Lib.hid (HBQ.out.trans hBq)
            replace hzq := Nat.le_trans hzq hBq.size
            have OB := Lib.hid oB
            clear oB hg hBq OJ
            refine hK.out _ _ ⟨(k0.next HBQ.out).cell, (kx.next HBQ.out).cell⟩ (fun hHeldN => ?_)
            clear hHeld hK K
            have hHeld := hHeldN
            clear hHeldN
            try simp only [Act.put, List.getElem_toArray, List.getElem_cons_zero, List.getElem_cons_succ, List.setIfInBounds_toArray, List.set_cons_zero, List.set_cons_succ]
            refine wpAnyH_take (i := 18) (v := ?_) rfl (by kernel_rfl) (by kernel_rfl) (by kernel_rfl) (fun _ _ _ h => h) (Or.inl ⟨by rfl, fun w hSw => ?_⟩) hHeld ?_
            rotate_left
            · ((try dsimp only at hSw); go_split_ands; go_simp; (try with_reducible rfl))
            try simp only [Act.put, List.getElem_toArray, List.getElem_cons_zero, List.getElem_cons_succ, List.setIfInBounds_toArray, List.set_cons_zero, List.set_cons_succ]
            have hlB := kBox.lt
            have qb := kBox.cell
            have rb := kBox.frozen
            refine wpAnyH_ready (rs := [20]) (by kernel_rfl) (by simp) ?_
            refine AllReadyH.cons rfl (fun K hK => ?_) AllReadyH.nil
            try simp only [List.getElem_toArray, List.getElem_cons_zero, List.getElem_cons_succ]
            go_simp
            refine hK.out _ _ (⟨(((k0.next HBQ.out).far (p := ⟨xb, 0, none⟩) (by simp only; omega) _).far (p := ⟨xb, 1, none⟩) (by simp only; omega) _).cell, (((kx.next HBQ.out).far (p := ⟨xb, 0, none⟩) (by simp only; omega) _).far (p := ⟨xb, 1, none⟩) (by simp only; omega) _).cell⟩) (fun hHeldN => ?_)
            clear hHeld hK K
            have hHeld := hHeldN
            clear hHeldN
            try simp only [Act.put, List.getElem_toArray, List.getElem_cons_zero, List.getElem_cons_succ, List.setIfInBounds_toArray, List.set_cons_zero, List.set_cons_succ]
            refine wpAnyH_done (by kernel_rfl) ?_ _
            refine NoPanic.normal ?_
            go_wp2_with fail
            go_meet
            case rel =>
              refine ⟨xb, _, _, _, _, rfl, Lib.hid ((OF2.out.setT kBox (by decide) 0 _).setT (kBox.set_ 0 _) (by decide) 1 _), Lib.hid ((OB.out.setT kBox (by decide) 0 _).setT (kBox.set_ 0 _) (by decide) 1 _), ?_, hxbb, Lib.hid ((HBQ.out.setCell (p := ⟨xb, 0, none⟩) (by simp only; omega) _).setCell (p := ⟨xb, 1, none⟩) (by simp only; omega) _)⟩
              have := (kBox.set_ 0 (.slice F2 (a.facts.length + 1) e2)).set_ 1 (.slice G3 (a.atoms.length + 1) e4)
              simpa using this
        · skip
          try simp only [List.getElem_toArray, List.getElem_cons_zero, List.getElem_cons_succ]
          go_simp
          refine hK.out _ _ ⟨((k0.next HBQ.out).alloc _).cell, ((kx.next HBQ.out).alloc _).cell⟩ (fun hHeldN => ?_)
          clear hHeld hK K
          have hHeld := hHeldN
          clear hHeldN
          try simp only [Act.put, List.getElem_toArray, List.getElem_cons_zero, List.getElem_cons_succ, List.setIfInBounds_toArray, List.set_cons_zero, List.set_cons_succ]
          have hBq : Below wq.heap.size wq (wq.alloc (.cells #[.int .i64 2, .int .i64 m, .int .i64 x.b] tA)) := bbox (Below.refl _ _) _
          obtain ⟨y16, hy16⟩ : ∃ y, y = wq.heap.size := ⟨_, rfl⟩
          have hy16b : W.heap.size ≤ y16 := by omega
          replace HBQ := Lib.hid (HBQ.out.trans (hBq.mono hzq))
          replace hzq := Nat.le_trans hzq hBq.size
          try replace k7 := k7.next hBq
          try replace k16 := k16.next hBq
          try replace kBox := kBox.next hBq
          try replace OF2 := Lib.hid (OF2.out.below hBq)
          try replace OJ := Lib.hid (OJ.out.below hBq)
          try replace OB := Lib.hid (OB.out.below hBq)
          have k16 : Blk (wq.alloc (.cells #[.int .i64 2, .int .i64 m, .int .i64 x.b] tA)) y16 tA #[.int .i64 2, .int .i64 m, .int .i64 x.b] := Blk.newE hy16
          rw [← hy16]
          clear hBq hy16
          generalize wq.alloc (.cells #[.int .i64 2, .int .i64 m, .int .i64 x.b] tA) = wq at *
          refine wpAnyH_ready (rs := [7]) (by kernel_rfl) (by simp) ?_
          refine AllReadyH.cons rfl (fun K hK => ?_) AllReadyH.nil
          try simp only [List.getElem_toArray, List.getElem_cons_zero, List.getElem_cons_succ]
          go_simp
          refine hK.out _ _ ⟨((k0.next HBQ.out).alloc _).cell, ((kx.next HBQ.out).alloc _).cell⟩ (fun hHeldN => ?_)
          clear hHeld hK K
          have hHeld := hHeldN
          clear hHeldN
          try simp only [Act.put, List.getElem_toArray, List.getElem_cons_zero, List.getElem_cons_succ, List.setIfInBounds_toArray, List.set_cons_zero, List.set_cons_succ]
          have hBq : Below wq.heap.size wq (wq.alloc (.cells #[.bool false, .int .i64 x.a, .int .i64 x.b] tF)) := bbox (Below.refl _ _) _
          obtain ⟨y7, hy7⟩ : ∃ y, y = wq.heap.size := ⟨_, rfl⟩
          have hy7b : W.heap.size ≤ y7 := by omega
          replace HBQ := Lib.hid (HBQ.out.trans (hBq.mono hzq))
          replace hzq := Nat.le_trans hzq hBq.size
          try replace k7 := k7.next hBq
          try replace k16 := k16.next hBq
          try replace kBox := kBox.next hBq
          try replace OF2 := Lib.hid (OF2.out.below hBq)
          try replace OJ := Lib.hid (OJ.out.below hBq)
          try replace OB := Lib.hid (OB.out.below hBq)
          have k7 : Blk (wq.alloc (.cells #[.bool false, .int .i64 x.a, .int .i64 x.b] tF)) y7 tF #[.bool false, .int .i64 x.a, .int .i64 x.b] := Blk.newE hy7
          rw [← hy7]
          clear hBq hy7
          generalize wq.alloc (.cells #[.bool false, .int .i64 x.a, .int .i64 x.b] tF) = wq at *
          refine wpAnyH_ready (rs := [8]) (by kernel_rfl) (by simp) ?_
          refine AllReadyH.cons rfl (fun K hK => ?_) AllReadyH.nil
          try simp only [List.getElem_toArray, List.getElem_cons_zero, List.getElem_cons_succ]
          go_simp
          refine (c_joinFn A1 (some ⟨y7, 0, none⟩) c1 1 (a.facts.length + 1) a.facts [⟨false, x.a, x.b⟩] _ (H1.out.below (bgo HB.out HBQ.out)) (FactsV.one (f := ⟨false, x.a, x.b⟩) k7) rfl (by omega)).mono ?_
          rintro e wq ⟨F2, e2, rfl, oF, hBq⟩
          have hbs : W.heap.size ≤ _ := hzq
          replace HBQ := Lib.hid (HBQ.out.trans (hBq.mono hzq))
          replace hzq := Nat.le_trans hzq hBq.size
          try replace k7 := k7.next hBq
          try replace k16 := k16.next hBq
          try replace kBox := kBox.next hBq
          try replace OF2 := Lib.hid (OF2.out.below hBq)
          try replace OJ := Lib.hid (OJ.out.below hBq)
          try replace OB := Lib.hid (OB.out.below hBq)
          have OF2 := Lib.hid (oF.lower (base' := W.heap.size) hbs)
          clear oF hBq hbs
          refine hK.out _ _ ⟨(k0.next HBQ.out).cell, (kx.next HBQ.out).cell⟩ (fun hHeldN => ?_)
          clear hHeld hK K
          have hHeld := hHeldN
          clear hHeldN
          try simp only [Act.put, List.getElem_toArray, List.getElem_cons_zero, List.getElem_cons_succ, List.setIfInBounds_toArray, List.set_cons_zero, List.set_cons_succ]
          refine wpAnyH_ready (rs := [11]) (by kernel_rfl) (by simp) ?_
          refine AllReadyH.cons rfl (fun K hK => ?_) AllReadyH.nil
          try simp only [List.getElem_toArray, List.getElem_cons_zero, List.getElem_cons_succ]
          go_simp
          refine (c_joinAn (some ⟨yE + 1, 0, none⟩) G1 1 d1 a.atoms.length [⟨1, x.a, (m : Int)⟩] (withoutL a.atoms i) _ (AtomsV.one (f := ⟨1, x.a, (m : Int)⟩) (kf.next HBQ.out)) (OR.out.readsI.2.below HBQ.out) (by simp <;> omega) (by omega)).mono ?_
          rintro e wq ⟨G2, e3, rfl, oJ, hBq⟩
          have hbs : W.heap.size ≤ _ := hzq
          replace HBQ := Lib.hid (HBQ.out.trans (hBq.mono hzq))
          replace hzq := Nat.le_trans hzq hBq.size
          try replace k7 := k7.next hBq
          try replace k16 := k16.next hBq
          try replace kBox := kBox.next hBq
          try replace OF2 := Lib.hid (OF2.out.below hBq)
          try replace OJ := Lib.hid (OJ.out.below hBq)
          try replace OB := Lib.hid (OB.out.below hBq)
          have OJ := Lib.hid (oJ.lower (base' := W.heap.size) hbs)
          clear oJ hBq hbs
          refine hK.out _ _ ⟨(k0.next HBQ.out).cell, (kx.next HBQ.out).cell⟩ (fun hHeldN => ?_)
          clear hHeld hK K
          have hHeld := hHeldN
          clear hHeldN
          try simp only [Act.put, List.getElem_toArray, List.getElem_cons_zero, List.getElem_cons_succ, List.setIfInBounds_toArray, List.set_cons_zero, List.set_cons_succ]
          refine wpAnyH_ready (rs := [17]) (by kernel_rfl) (by simp) ?_
          refine AllReadyH.cons rfl (fun K hK => ?_) AllReadyH.nil
          refine stepALn (ys := [⟨2, (m : Int), x.b⟩]) (n := a.atoms.length + 1) rfl _ _ rfl rfl OJ.out rfl (AtomsV.one (f := ⟨2, (m : Int), x.b⟩) k16) (by simp <;> omega) (by omega) hzq ?_
          intro G3 e4 wq oB hg hBq
          try replace kBox := Blk.grownO kBox OJ.out.1 hg (by decide)
          replace OF2 := Lib.hid (OF2.out.grownA OJ.out hg)
          replace HBQ := Lib.hid (HBQ.out.trans hBq)
          replace hzq := Nat.le_trans hzq hBq.size
          have OB := Lib.hid oB
          clear oB hg hBq OJ
          refine hK.out _ _ ⟨(k0.next HBQ.out).cell, (kx.next HBQ.out).cell⟩ (fun hHeldN => ?_)
          clear hHeld hK K
          have hHeld := hHeldN
          clear hHeldN
          try simp only [Act.put, List.getElem_toArray, List.getElem_cons_zero, List.getElem_cons_succ, List.setIfInBounds_toArray, List.set_cons_zero, List.set_cons_succ]
          refine wpAnyH_take (i := 18) (v := ?_) rfl (by kernel_rfl) (by kernel_rfl) (by kernel_rfl) (fun _ _ _ h => h) (Or.inl ⟨by rfl, fun w hSw => ?_⟩) hHeld ?_
          rotate_left
          · ((try dsimp only at hSw); go_split_ands; go_simp; (try with_reducible rfl))
          try simp only [Act.put, List.getElem_toArray, List.getElem_cons_zero, List.getElem_cons_succ, List.setIfInBounds_toArray, List.set_cons_zero, List.set_cons_succ]
          have hlB := kBox.lt
          have qb := kBox.cell
          have rb := kBox.frozen
          refine wpAnyH_ready (rs := [20]) (by kernel_rfl) (by simp) ?_
          refine AllReadyH.cons rfl (fun K hK => ?_) AllReadyH.nil
          try simp only [List.getElem_toArray, List.getElem_cons_zero, List.getElem_cons_succ]
          go_simp
          refine hK.out _ _ (⟨(((k0.next HBQ.out).far (p := ⟨xb, 0, none⟩) (by simp only; omega) _).far (p := ⟨xb, 1, none⟩) (by simp only; omega) _).cell, (((kx.next HBQ.out).far (p := ⟨xb, 0, none⟩) (by simp only; omega) _).far (p := ⟨xb, 1, none⟩) (by simp only; omega) _).cell⟩) (fun hHeldN => ?_)
          clear hHeld hK K
          have hHeld := hHeldN
          clear hHeldN
          try simp only [Act.put, List.getElem_toArray, List.getElem_cons_zero, List.getElem_cons_succ, List.setIfInBounds_toArray, List.set_cons_zero, List.set_cons_succ]
          refine wpAnyH_done (by kernel_rfl) ?_ _
          refine NoPanic.normal ?_
          go_wp2_with fail
          go_meet
          case rel =>
            refine ⟨xb, _, _, _, _, rfl, Lib.hid ((OF2.out.setT kBox (by decide) 0 _).setT (kBox.set_ 0 _) (by decide) 1 _), Lib.hid ((OB.out.setT kBox (by decide) 0 _).setT (kBox.set_ 0 _) (by decide) 1 _), ?_, hxbb, Lib.hid ((HBQ.out.setCell (p := ⟨xb, 0, none⟩) (by simp only; omega) _).setCell (p := ⟨xb, 1, none⟩) (by simp only; omega) _)⟩
            have := (kBox.set_ 0 (.slice F2 (a.facts.length + 1) e2)).set_ 1 (.slice G3 (a.atoms.length + 1) e4)
            simpa using this
    case rest =>
      obtain ⟨xb, F2, e2, G2, e3, rfl, OF2, OB2, kb, hxb, HBC⟩ := hcut
      have kE1 := kE.next HBC.out
      have HBw := Lib.hid (bgo HB.out HBC.out)
      have hsc := HBC.out.size
      have OE : Hid (AsnO wc w.heap.size (.agg #[.slice F1 (a.facts.length + 1) e1, .slice G1 (withoutL a.atoms i).length d1]) (emptyX a x i)) := Lib.hid ⟨_, _, rfl, OF.out.below HBC.out, OR.out.below HBC.out⟩
      have OX : Hid (AsnO wc W.heap.size (.agg #[.slice F2 (a.facts.length + 1) e2, .slice G2 (a.atoms.length + 1) e3]) (fullX a x i (m : Int))) := Lib.hid ⟨_, _, rfl, OF2.out, OB2.out⟩
      clear HBC kE kf OF OR k0 kx OF2 OB2 HB
      (replace qkE1 := kE1.cell; replace rkE1 := kE1.frozen; replace lkE1 := kE1.lt)
      have hlb0 := kb.lt
      go_wp2_with fail
      refine (c_impl_AssertionValid _ (emptyX a x i) _ (OE.out.reads.below bel)).mono ?_
      rintro e w6 ⟨rfl, hB6⟩
      replace kE1 := kE1.next hB6
      replace kb := kb.next hB6
      have HB6 := Lib.hid (bgo HBw.out hB6)
      have hs6 := hB6.size
      replace OE := Lib.hid (OE.out.below hB6)
      replace OX := Lib.hid (OX.out.below hB6)
      clear hB6 HBw qkE1 rkE1 lkE1
      cases hve : (emptyX a x i).valid
      · have E := Lib.hid (list_bad (n := n) HNT.out (.inl hve))
        clear hve
        go_wp2_with fail
        go_ret2
        exact ⟨_, _, by rw [E.out]; rfl, by rw [E.out]; exact A2O.nil _ _, HB6.out⟩
      have HVE := Lib.hid hve
      clear hve
      (replace qkb := kb.cell; replace rkb := kb.frozen; replace lkb := kb.lt)
      go_wp2_with fail
      refine (c_impl_AssertionValid _ (fullX a x i (m : Int)) _ (OX.out.reads.below bel)).mono ?_
      rintro e w7 ⟨rfl, hB7⟩
      replace kE1 := kE1.next hB7
      replace kb := kb.next hB7
      have HB7 := Lib.hid (bgo HB6.out hB7)
      have hs7 := hB7.size
      replace OE := Lib.hid (OE.out.below hB7)
      replace OX := Lib.hid (OX.out.below hB7)
      clear hB7 HB6 qkb rkb lkb
      cases hvf : (fullX a x i (m : Int)).valid
      · have E := Lib.hid (list_bad (n := n) HNT.out (.inr hvf))
        clear hvf
        go_wp2_with fail
        go_ret2
        exact ⟨_, _, by rw [E.out]; rfl, by rw [E.out]; exact A2O.nil _ _, HB7.out⟩
      have HVF := Lib.hid hvf
      clear hvf
      (replace qkE1 := kE1.cell; replace rkE1 := kE1.frozen; replace lkE1 := kE1.lt)
      go_wp2_with fail
      refine (HEH.out w.heap.size _ _ _ OE.out.C (Nat.le_refl _) HVE.out).mono ?_
      rintro e w8 ⟨r1, vs1, rfl, o1, hB8⟩
      obtain ⟨R1, z1, rfl⟩ := o1.form
      replace kb := kb.next hB8
      have HB8 := Lib.hid (bgo HB7.out hB8)
      have hs8 := hB8.size
      have O1 := Lib.hid o1
      replace OX := Lib.hid (OX.out.below hB8)
      clear hB8 HB7 qkE1 rkE1 lkE1 kE1 o1 OE
      cases he1 : exposeF n (emptyX a x i) t Ks
      case none =>
        have E := Lib.hid (list_first (n := n) HNT.out he1)
        clear he1
        go_wp2_with fail
        go_ret2
        exact ⟨_, _, by rw [E.out]; rfl, by rw [E.out]; exact A2O.nil _ _, HB8.out⟩
      case some l1 =>
      have HE1 := Lib.hid he1
      rw [he1] at O1
      clear he1
      (replace qkb := kb.cell; replace rkb := kb.frozen; replace lkb := kb.lt)
      go_wp2_with fail
      refine (HFH.out m w.heap.size _ _ _ (AsnO.C (OX.out.lower (by omega))) (Nat.le_refl _) HVF.out).mono ?_
      rintro e w9 ⟨r2, vs2, rfl, o2, hB9⟩
      obtain ⟨R2, z2, rfl⟩ := o2.form
      have HB9 := Lib.hid (bgo HB8.out hB9)
      have hs9 := hB9.size
      have HB9' := Lib.hid hB9
      have O2 := Lib.hid o2
      clear hB9 HB8 qkb rkb lkb kb o2 OX
      cases he2 : exposeF n (fullX a x i (m : Int)) t Ks
      case none =>
        have E := Lib.hid (list_second (n := n) HNT.out he2)
        clear he2
        go_wp2_with fail
        go_ret2
        exact ⟨_, _, by rw [E.out]; rfl, by rw [E.out]; exact A2O.nil _ _, HB9.out⟩
      case some l2 =>
      have HE2 := Lib.hid he2
      rw [he2] at O2
      clear he2
      simp only [Option.getD_some] at O1 O2 ⊢
      have E := Lib.hid (list_both (n := n) HNT.out HE1.out HE2.out)
      have hl1 := (expose_ok HE1.out).1
      have hl2 := (expose_ok HE2.out).1
      have hll : l1.length + l2.length ≤ 1049600 := by have := HN.out; omega
      clear hl1 hl2
      go_wp2_with fail
      refine (c_joinAs R1 R2 l1.length l2.length z1 z2 vs1 vs2 _ (O1.out.rd.below HB9'.out) O2.out.rd O1.out.els.one_cell O2.out.els.one_cell hll).mono ?_
      rintro e w10 ⟨r3, rfl, o3, hB10⟩
      have O3 := Lib.hid o3
      have HB10 := Lib.hid hB10
      have HB11 := Lib.hid (bgo HB9.out hB10)
      obtain ⟨R3, z3, rfl, -⟩ := own_reads o3 hll
      clear o3 hB10
      go_wp2_with fail
      go_ret2
      refine ⟨_, vs1 ++ vs2, by rw [E.out]; rfl, ?_, HB11.out⟩
      rw [E.out]
      exact A2O.join O1.out HB9'.out O2.out (Nat.le_refl _) HB10.out (by omega) (by omega) O3.out (by omega) hll

--@
end Go.Proofs.YtlmjjflalmegfaaGreat
