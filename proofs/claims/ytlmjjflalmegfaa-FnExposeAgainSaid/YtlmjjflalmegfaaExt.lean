/- Contracts: impl's search for cases, an iterator. -/
import Derived.Test.YtlmjjflalmegfaaMCaseS
import Derived.Test.YtlmjjflalmegfaaRange
import Derived.Shelf.Abstract
set_option linter.unusedSimpArgs false
set_option linter.unusedVariables false
namespace Go.Proofs.Ytlmjjflalmegfaa
open Go Go.RowKit Go.Proofs
attribute [local go_sem ↓] Go.wp_at_zero Go.wp_at_succ
attribute [local go_sem] Oper.semAt_some

abbrev tAs : Nat := 34
/-- a case's nine cells, written out -/
abbrev case9 (c : List Int) : Array Value := #[.int .i64 (cl c 0), .int .i64 (cl c 1), .int .i64 (cl c 2), .int .i64 (cl c 3), .int .i64 (cl c 4), .int .i64 (cl c 5), .int .i64 (cl c 6), .int .i64 (cl c 7), .int .i64 (cl c 8)]
theorem case9_eq {c : List Int} (h : c.length = 9) : case9 c = (encI c).toArray := by
  match c, h with
  | [c0, c1, c2, c3, c4, c5, c6, c7, c8], _ => rfl
theorem case9_set {c : List Int} (h : c.length = 9) (m : Nat) (v : Int) : (case9 c).setIfInBounds m (.int .i64 v) = case9 (c.set m v) := by
  rw [case9_eq h, case9_eq (by simpa using h)]
  simp [encI]
theorem Blk.case {w : World} {g : Nat} {t : TypeId} {c : List Int} (h : Blk w g t (case9 c)) (hc : c.length = 9) : Blk w g t (encI c).toArray := by rw [← case9_eq hc]; exact h
theorem Blk.caseSet {w : World} {g : Nat} {t : TypeId} {c : List Int} (h : Blk w g t (case9 c)) (hc : c.length = 9) (m : Nat) (v : Int) : Blk (w.setCell ⟨g, m, none⟩ (.int .i64 v)) g t (case9 (c.set m v)) := by
  rw [← case9_set hc]; exact h.set_ _ _
theorem case9_cells {w : World} {g : Nat} {t : TypeId} {c : List Int} (h : Blk w g t (case9 c)) :
    w.cell? ⟨g, 0, none⟩ = some (.int .i64 (cl c 0)) ∧ w.cell? ⟨g, 1, none⟩ = some (.int .i64 (cl c 1)) ∧ w.cell? ⟨g, 2, none⟩ = some (.int .i64 (cl c 2)) ∧ w.cell? ⟨g, 3, none⟩ = some (.int .i64 (cl c 3)) ∧ w.cell? ⟨g, 4, none⟩ = some (.int .i64 (cl c 4)) ∧ w.cell? ⟨g, 5, none⟩ = some (.int .i64 (cl c 5)) ∧ w.cell? ⟨g, 6, none⟩ = some (.int .i64 (cl c 6)) ∧ w.cell? ⟨g, 7, none⟩ = some (.int .i64 (cl c 7)) ∧ w.cell? ⟨g, 8, none⟩ = some (.int .i64 (cl c 8)) := by
  have q := h.cell
  exact ⟨q 0, q 1, q 2, q 3, q 4, q 5, q 6, q 7, q 8⟩
theorem Rw.keepB {w w' : World} {lo hi size n n₀ : Nat} {A : Option Addr} {xs : List Value} (h : Rw w lo hi size A n xs) (hb : Below n₀ w w') (hh : hi ≤ n₀) : Rw w' lo hi size A n xs := h.keep fun b _ h2 => hb.block b (by omega)
theorem AsnV.keepB {w w' : World} {lo hi n₀ : Nat} {v : Value} {a : Asn} (h : AsnV w lo hi v a) (hb : Below n₀ w w') (hh : hi ≤ n₀) : AsnV w' lo hi v a := by
  obtain ⟨A1, c1, A2, c2, e, h1, h2⟩ := h
  exact ⟨A1, c1, A2, c2, e, ⟨h1.raw.keepB hb hh, h1.lim⟩, ⟨h2.raw.keepB hb hh, h2.lim⟩⟩
/-- a case of a for the terms of S -/
abbrev CaseT (a : Asn) (S : Nat) := { c : List Int // c ∈ cases a S }
theorem CaseT.len {a : Asn} {S : Nat} (x : CaseT a S) : x.1.length = 9 := by
  have h := x.2
  unfold cases at h
  exact (gen_ok S 9 zeros x.1 (by omega) rfl (List.mem_filter.1 h).1).1
theorem CaseT.pos {a : Asn} {S : Nat} (x : CaseT a S) (j : Nat) (hj : j < 9) : (S.testBit j = true → 0 ≤ cl x.1 j ∧ cl x.1 j ≤ j) ∧ (S.testBit j = false → cl x.1 j = -1) := by
  have h := x.2
  unfold cases at h
  exact (gen_ok S 9 zeros x.1 (by omega) rfl (List.mem_filter.1 h).1).2.2 j (by omega) hj
/-- the parts that the loop at one place runs through -/
def extAt (a : Asn) (S n : Nat) (c : List Int) (k : Nat) : List (List Int) := if k < 8 - n ∧ cl c k ≠ k then [] else if poss a (c.set (8 - n) k) (8 - n : Nat) then ext a S n (c.set (8 - n) k) else []
theorem ext_loop (a : Asn) (S n : Nat) (c : List Int) (h : S.testBit (8 - n) = true) : ext a S (n + 1) c = (List.range (9 - n)).flatMap (extAt a S n c) := by
  conv => lhs; unfold ext
  rw [h, if_pos rfl]; rfl
theorem range_pre {α : Type} {f : Nat → List α} {k n : Nat} (h : k < n) {ys : List α} (hy : ys <+: f k) : (List.range k).flatMap f ++ ys <+: (List.range n).flatMap f := by
  obtain ⟨zs, hz⟩ := hy
  obtain ⟨m, rfl⟩ : ∃ m, n = k + (m + 1) := ⟨n - k - 1, by omega⟩
  rw [List.range_add, List.range_succ_eq_map, List.map_cons, List.flatMap_append, List.flatMap_cons, Nat.add_zero, ← hz]
  exact ⟨zs ++ (List.map (fun x => k + x) (List.map Nat.succ (List.range m))).flatMap f, by simp [List.append_assoc]⟩

theorem Kept.setNew {T1 T2 : TypeId} {n₀ : Nat} {W W' : World} (h : Kept T1 T2 n₀ W W') {p : Addr} (hp : W.heap.size ≤ p.block) (hn : n₀ ≤ W.heap.size) (u : Value) : Kept T1 T2 n₀ W (W'.setCell p u) :=
  ⟨h.below.setCell (by omega) _, fun g t cs ht hb => (h.keep g t cs ht hb).far (by have := hb.lt; omega) _⟩

--@ (impl.termCase).extend
set_option maxRecDepth 100000 in
set_option maxHeartbeats 6400000 in
theorem c_impl_extend {a : Asn} {S lo hi l n₀ B : Nat} {v : Value} (hv : a.valid = true) (hS : S < 512) (hT : ∀ t ∈ termsL a, S.testBit t.toNat = true) (hhi : hi ≤ n₀)
    (J Jx : List (CaseT a S) → World → Prop) (hJ : AbT tTc B J)
    (hY : ∀ m pre (x : CaseT a S) W, J pre W → (pre ++ [x]).map Subtype.val <+: cases a S → YieldAt Fence.wide m Try.prog l #[.agg (case9 x.1)] W fun e W' => (e = .returned (.bool true) ∧ J (pre ++ [x]) W' ∧ Kept tTc tAs n₀ W W') ∨ (e = .returned (.bool false) ∧ Jx (pre ++ [x]) W')) :
    ∀ (n : Nat) (c : List Int) (pre : List (CaseT a S)) (W : World), n ≤ 9 → c.length = 9 → pre.map Subtype.val ++ ext a S n c <+: cases a S → (∀ j : Nat, j < 9 - n → S.testBit j = true → 0 ≤ cl c j ∧ cl c j ≤ j) → AsnV W lo hi v a → B ≤ W.heap.size → n₀ ≤ W.heap.size → J pre W →
      Calls Try.prog 128 #[.agg (case9 c), .int .i64 ((9 - n : Nat) : Int), v, .int .u16 (S : Nat), .func (.yield l) #[] #[]] W fun e W' =>
        (e = .returned (.bool true) ∧ ∃ ys : List (CaseT a S), ys.map Subtype.val = ext a S n c ∧ J (pre ++ ys) W' ∧ Kept tTc tAs n₀ W W') ∨ (e = .returned (.bool false) ∧ ∃ ys : List (CaseT a S), ys.map Subtype.val <+: ext a S n c ∧ Jx (pre ++ ys) W') := by
  intro n
  induction n with
  | zero =>
    intro c pre W _ hc hm _ hA hBW hn0 hJp
    obtain ⟨A1, c1, A2, c2, rfl, -, -⟩ := hA
    have hB0 : Below W.heap.size W ((W.alloc (.cells (case9 c) tTc)).alloc (.cells #[.slice A1 a.facts.length c1, .slice A2 a.atoms.length c2] tAs)) := bel
    have hJ1 := hJ.next hJp hB0
    have hx : c ∈ cases a S := hm.subset (by simp [ext])
    obtain ⟨fn, tmps, assign, body, hy, hR⟩ := hY 0 pre ⟨c, hx⟩ _ hJ1 (by simpa [ext] using hm)
    have hk0 := Kept.next (T1 := tTc) (T2 := tAs) (n₀ := n₀) hB0 hn0
    dsimp only at hy
    have hR := RoundIn.mono hR (R' := fun e W' => (e = .returned (.bool true) ∧ J (pre ++ [⟨c, hx⟩]) W' ∧ Kept tTc tAs n₀ W W') ∨ (e = .returned (.bool false) ∧ Jx (pre ++ [⟨c, hx⟩]) W')) (fun e W' h => h.elim (fun h => Or.inl ⟨h.1, h.2.1, hk0.trans h.2.2⟩) Or.inr)
    clear hY hJ hk0 hJ1 hB0 hJp hm
    refine (callsIn_wide (n := 1)).1 ?_
    (refine callsIn_of_wp Try.func128 rfl trivial ?_ rfl; simp only [Try.ntmps128, List.size_toArray, List.length_cons, List.length_nil, Nat.reduceAdd, Nat.reduceSub, Array.replicate_succ, Array.replicate_zero, List.push_toArray, List.append_toArray, List.nil_append, List.cons_append])
    gi_wp2
    refine hR.mono ?_
    rintro e W' (⟨rfl, h1, h2⟩ | ⟨rfl, h1⟩)
    · gi_wp2
      go_ret
      exact Or.inl ⟨rfl, [⟨c, hx⟩], by simp [ext], h1, h2⟩
    · gi_wp2
      go_ret
      exact Or.inr ⟨rfl, [⟨c, hx⟩], by simp [ext], h1⟩
  | succ n ih =>
    intro c pre W hn hc hm hcl hA hBW hn0 hJp
    have hV := Lib.hid hA
    obtain ⟨A1, c1, A2, c2, rfl, -, -⟩ := hA
    obtain ⟨m, hm8⟩ : ∃ m, m = 8 - n := ⟨_, rfl⟩
    have e1 : ((9 - n : Nat) : Int) = (m : Int) + 1 := by omega
    rw [show 9 - (n + 1) = m from by omega] at hcl ⊢
    have hmi : (m : Int) ≤ 8 := by omega
    have hmi9 : (m : Int) < 9 := by omega
    have hit : isTermB (m : Int) = true := by rw [isTermB_iff]; omega
    have HO := Lib.hid (Asn.valid_ok hv)
    have IH := Lib.hid ih
    have HJ := Lib.hid hJ
    have HJP := Lib.hid hJp
    have HM := Lib.hid hm
    have HCL := Lib.hid hcl
    have HM8 := Lib.hid hm8
    have HT := Lib.hid hT
    have HC := Lib.hid hc
    have hmg : ¬ (8 < (m : Int)) := by omega
    have hmn := Lib.hid hn
    have E1 := Lib.hid e1
    clear ih hJ hJp hY hm hcl hT hm8 hc hn e1
    obtain ⟨W2, hW2⟩ : ∃ W2, W2 = ((W.alloc (.cells (case9 c) tTc)).alloc (.cells #[.slice A1 a.facts.length c1, .slice A2 a.atoms.length c2] tAs)) := ⟨_, rfl⟩
    have k0 : Blk W2 W.heap.size tTc (case9 c) := by rw [hW2]; exact blks
    have k1 : Blk W2 (W.heap.size + 1) tAs #[.slice A1 a.facts.length c1, .slice A2 a.atoms.length c2] := by rw [hW2]; exact blks
    have hB : Below W.heap.size W W2 := by rw [hW2]; exact bel
    have HW2 := Lib.hid hW2
    clear hW2
    go_enter Try.func128, Try.ntmps128
    go_wp2_with fail
    refine (c_impl_tHas S (m : Int) _ hS).mono ?_
    rintro e W3 ⟨rfl, rfl⟩
    rw [hit, Int.toNat_natCast, Bool.true_and, ← HW2.out]
    have lk0 := k0.lt
    have lk1 := k1.lt
    have rk0 := k0.frozen
    clear HW2
    cases ht : S.testBit m
    · have HTS := Lib.hid ht
      have HE : Hid (ext a S (n + 1) c = ext a S n (c.set m (-1))) := by
        show _ = _
        conv => lhs; unfold ext
        rw [← HM8.out, ht]; rfl
      have k0' := k0.caseSet HC.out m (-1)
      obtain ⟨p0, p1, p2, p3, p4, p5, p6, p7, p8⟩ := case9_cells k0'
      have qm : W2.cell? ⟨W.heap.size, m, none⟩ = some (.int .i64 (cl c m)) := case_cell (k0.case HC.out) (by rw [HC.out]; omega)
      have qk1 := (k1.far (p := ⟨W.heap.size, m, none⟩) (by simp) (.int .i64 (-1))).cell
      have hB3 : Below W.heap.size W (W2.setCell ⟨W.heap.size, m, none⟩ (.int .i64 (-1))) := bel
      have hz := hB3.size
      clear ht k0 k1 k0' hB
      go_wp2_with fail
      have ih1 := IH.out (c.set m (-1)) pre _ (by have := hmn.out; omega) (by simpa using HC.out) (by rw [← HE.out]; exact HM.out) (fun j hj hSj => by
        have := HM8.out
        rw [cl_set HC.out (by omega) _ (by omega)]
        by_cases ej : j = m
        · subst ej; rw [HTS.out] at hSj; cases hSj
        · rw [if_neg (by omega)]; exact HCL.out j (by omega) hSj) (hV.out.below hB3) (Nat.le_trans hBW hz) (Nat.le_trans hn0 hz) (HJ.out.next HJP.out hB3)
      rw [E1.out] at ih1
      refine ih1.mono ?_
      clear ih1
      rintro e W' (⟨rfl, ys, y1, y2, y3⟩ | ⟨rfl, ys, y1, y2⟩)
      · have Y := Lib.hid (⟨y1, y2, y3⟩ : _ ∧ _ ∧ _)
        clear y1 y2 y3
        go_wp2_with fail
        go_ret
        exact Or.inl ⟨rfl, ys, by rw [HE.out]; exact Y.out.1, Y.out.2.1, (Kept.next hB3 hn0).trans Y.out.2.2⟩
      · have Y := Lib.hid (⟨y1, y2⟩ : _ ∧ _)
        clear y1 y2
        go_wp2_with fail
        go_ret
        exact Or.inr ⟨rfl, ys, by rw [HE.out]; exact Y.out.1, Y.out.2⟩
    · have HTS := Lib.hid ht
      have HE := Lib.hid (ext_loop a S n c (by rw [← HM8.out]; exact ht))
      clear ht
      go_wp2_with fail
      go_loopw [11] (fun i wr => ∃ (k : Nat) (d : List Int) (ys : List (CaseT a S)), k ≤ m + 1 ∧ i = .int .i64 k ∧ Hid (d.length = 9) ∧ Hid (∀ v, d.set m v = c.set m v) ∧ Hid (ys.map Subtype.val = (List.range k).flatMap (extAt a S n c)) ∧ Blk wr W.heap.size tTc (case9 d) ∧ Blk wr (W.heap.size + 1) tAs #[.slice A1 a.facts.length c1, .slice A2 a.atoms.length c2] ∧ Hid (J (pre ++ ys) wr) ∧ Hid (Kept tTc tAs n₀ W wr)) (fun i _ => 9 - (intOf i).toNat)
      case atStart => exact ⟨0, c, [], Nat.zero_le _, rfl, HC, fun _ => rfl, rfl, k0, k1, by rw [List.append_nil]; exact HJ.out.next HJP.out hB, Kept.next hB hn0⟩
      case round =>
        clear k0 k1 lk0 lk1 rk0 hB
        obtain ⟨k, d, ys, hk, rfl, HDL, HDS, HYS, k0, k1, HJW, HKW⟩ := hrel
        have lk0 := k0.lt
        have lk1 := k1.lt
        have rk0 := k0.frozen
        by_cases hlt : k ≤ m
        · have hki : (k : Int) ≤ (m : Int) := by omega
          have hk9 : (k : Int) < 9 := by omega
          have hkc : wr.cell? ⟨W.heap.size, k, none⟩ = some (.int .i64 (cl d k)) := case_cell (k0.case HDL.out) (by rw [HDL.out]; omega)
          have HNX : Hid ((List.range (k + 1)).flatMap (extAt a S n c) = (List.range k).flatMap (extAt a S n c) ++ extAt a S n c k) := by show _ = _; rw [List.range_succ, List.flatMap_append]; simp
          have hdc : k < m → cl d k = cl c k := fun h => by
            have h1 := cl_set HDL.out (t := m) (by omega) 0 (j := (k : Int)) (by omega)
            have h2 := cl_set HC.out (t := m) (by omega) 0 (j := (k : Int)) (by omega)
            rw [if_neg (by omega)] at h1 h2
            rw [← h1, ← h2, HDS.out]
          have HDC := Lib.hid hdc
          clear hdc
          by_cases hskip : k < m ∧ cl c k ≠ k
          · have HX : Hid (extAt a S n c k = []) := by show _ = _; rw [extAt, if_pos (by rw [← HM8.out]; exact hskip)]
            have hkm : (k : Int) < (m : Int) := by omega
            have hne : (cl d k != (k : Int)) = true := by rw [HDC.out hskip.1]; simpa using hskip.2
            clear hskip hki hlt
            go_wp2_with fail
            go_round
            case rel => exact ⟨k + 1, d, ys, by omega, by go_num, HDL, HDS, by show _ = _; rw [HNX.out, HX.out, List.append_nil]; exact HYS.out, k0, k1, HJW, HKW⟩
            case measure => simp [intOf]; omega
          · have hsk2 : k < m → (cl d k != (k : Int)) = false := fun h => by
              rw [HDC.out h]
              cases Int.decEq (cl c k) k with
              | isTrue h => simp [h]
              | isFalse h' => exact absurd ⟨h, h'⟩ hskip
            have HX : Hid (extAt a S n c k = if poss a (c.set m k) m then ext a S n (c.set m k) else []) := by
              show _ = _
              rw [extAt, ← HM8.out, if_neg hskip]
            clear hskip
            have k0' : Blk (wr.setCell ⟨W.heap.size, m, none⟩ (.int .i64 k)) W.heap.size tTc (case9 (c.set m k)) := by rw [← HDS.out k]; exact k0.caseSet HDL.out m k
            have k1' := k1.far (p := ⟨W.heap.size, m, none⟩) (by simp) (.int .i64 (k : Int))
            have qk1 := k1'.cell
            have qm : wr.cell? ⟨W.heap.size, m, none⟩ = some (.int .i64 (cl d m)) := case_cell (k0.case HDL.out) (by rw [HDL.out]; omega)
            have HKW' := Lib.hid (HKW.out.setNew (p := ⟨W.heap.size, m, none⟩) (Nat.le_refl _) hn0 (.int .i64 (k : Int)))
            have HJW' := Lib.hid (HJ.out.set HJW.out k0 hBW m (.int .i64 (k : Int)))
            have HA' := Lib.hid (hV.out.keepB HKW'.out.below hhi)
            have hcs : (c.set m (k : Int)).length = 9 := by simpa using HC.out
            have HCS := Lib.hid hcs
            have hcl' : ∀ j : Nat, j ≤ m → S.testBit j = true → 0 ≤ cl (c.set m (k : Int)) j ∧ cl (c.set m (k : Int)) j ≤ j := fun j hj hSj => by
              rw [cl_set HC.out (by omega) _ (by omega)]
              split
              · omega
              · exact HCL.out j (by omega) hSj
            have HCL' := Lib.hid hcl'
            have hpo : ∀ x ∈ a.atoms, x.a ≤ (m : Int) → isTermB (cl (c.set m (k : Int)) x.a) = true := fun x hx hxm => by
              have h0 := (HO.out.2 x hx).1
              obtain ⟨t, et⟩ := Int.eq_ofNat_of_zero_le h0.1
              have hb := HT.out x.a (by simp only [termsL, List.mem_append, List.mem_flatMap]; exact Or.inr ⟨x, hx, by simp [atomT]⟩)
              rw [et] at hb hxm ⊢
              have := hcl' t (by omega) (by simpa using hb)
              rw [isTermB_iff]; omega
            have HPO := Lib.hid hpo
            clear hcl' hpo hcs k1
            have K1' := Lib.hid k1'
            clear k1'
            have hwz : W.heap.size ≤ wr.heap.size := by omega
            obtain hkm | hkm : k < m ∨ k = m := by omega
            case' inl => have h1 : (k : Int) < (m : Int) := by omega
            case' inl => have h2 := hsk2 hkm
            case' inr => have h1 : ¬ (k : Int) < (m : Int) := by omega
            all_goals
              clear hkm hsk2
              go_wp2_with fail
              refine (c_impl_possible _ a (m : Int) (c.set m (k : Int)) W.heap.size _ HA'.out (k0'.case HCS.out) HCS.out HO.out.1 HO.out.2 HPO.out).mono ?_
              rintro e w1 ⟨rfl, hB1⟩
              have k0 := k0'.next hB1
              have k1 := K1'.out.next hB1
              replace qk1 := k1.cell
              obtain ⟨p0, p1, p2, p3, p4, p5, p6, p7, p8⟩ := case9_cells k0
              have hz := hB1.size
              simp only [World.size_setCell] at hz
              have HKW1 := Lib.hid (HKW'.out.trans (Kept.next hB1 (by simp only [World.size_setCell]; omega)))
              have HJ1 := Lib.hid (HJ.out.next HJW'.out hB1)
              have HA1 := Lib.hid (hV.out.keepB HKW1.out.below hhi)
              clear hB1 qm k0' rk0
              cases hps : poss a (c.set m (k : Int)) (m : Int)
              · have HX2 := Lib.hid (show extAt a S n c k = [] by rw [HX.out, hps]; rfl)
                clear hps
                go_wp2_with fail
                go_round
                case rel => exact ⟨k + 1, c.set m (k : Int), ys, by omega, by go_num, HCS, fun v => by rw [List.set_set], by show _ = _; rw [HNX.out, HX2.out, List.append_nil]; exact HYS.out, k0, k1, HJ1, HKW1⟩
                case measure => simp [intOf]; omega
              · have HX2 := Lib.hid (show extAt a S n c k = ext a S n (c.set m (k : Int)) by rw [HX.out, hps]; rfl)
                clear hps
                have hk9n : k < 9 - n := by have := HM8.out; have := hmn.out; omega
                have ih1 := IH.out (c.set m (k : Int)) (pre ++ ys) w1 (by have := hmn.out; omega) HCS.out (by
                  refine List.IsPrefix.trans ?_ HM.out
                  rw [HE.out, List.map_append, HYS.out, List.append_assoc]
                  exact (List.prefix_append_right_inj _).2 (range_pre hk9n (by rw [HX2.out]; exact List.prefix_rfl))) (fun j hj => HCL'.out j (by have := HM8.out; have := hmn.out; omega)) HA1.out (by omega) (by omega) HJ1.out
                rw [E1.out] at ih1
                have IH1 := Lib.hid ih1
                clear ih1
                go_wp2_with fail
                refine IH1.out.mono ?_
                rintro e W' (⟨rfl, ys2, y1, y2, y3⟩ | ⟨rfl, ys2, y1, y2⟩)
                · have z0 := y3.keep _ _ _ (Or.inl rfl) k0
                  have z1 := y3.keep _ _ _ (Or.inr rfl) k1
                  have Y := Lib.hid (⟨y1, y2, y3⟩ : _ ∧ _ ∧ _)
                  clear y1 y2 y3 k0 k1 qk1 p0 p1 p2 p3 p4 p5 p6 p7 p8
                  go_wp2_with fail
                  go_round
                  case rel => exact ⟨k + 1, c.set m (k : Int), ys ++ ys2, by omega, by go_num, HCS, fun v => by rw [List.set_set], by show _ = _; rw [HNX.out, HX2.out, List.map_append, Y.out.1, HYS.out], z0, z1, by rw [← List.append_assoc]; exact Y.out.2.1, HKW1.out.trans Y.out.2.2⟩
                  case measure => simp [intOf]; omega
                · have Y := Lib.hid (⟨y1, y2⟩ : _ ∧ _)
                  clear y1 y2 k0 k1 qk1 p0 p1 p2 p3 p4 p5 p6 p7 p8
                  go_wp2_with fail
                  go_ret
                  refine Or.inr ⟨rfl, ys ++ ys2, ?_, by rw [← List.append_assoc]; exact Y.out.2⟩
                  rw [HE.out, List.map_append, HYS.out]
                  exact range_pre hk9n (by rw [HX2.out]; exact Y.out.1)
        · obtain rfl : k = m + 1 := by omega
          go_wp2_with fail
          go_ret
          refine Or.inl ⟨rfl, ys, ?_, HJW.out, HKW.out⟩
          rw [HE.out, HYS.out, show 9 - n = m + 1 from by have := HM8.out; have := hmn.out; omega]
end Go.Proofs.Ytlmjjflalmegfaa
