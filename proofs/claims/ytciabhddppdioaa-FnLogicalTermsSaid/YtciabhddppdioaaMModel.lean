/- Contracts: impl's search for cases, an iterator. -/
import Derived.Test.YtciabhddppdioaaCaseW
import Derived.Test.YtciabhddppdioaaMMatch
import Derived.Shelf.Abstract
import Derived.Test.YtciabhddppdioaaMSte
set_option linter.unusedSimpArgs false
set_option linter.unusedVariables false
namespace Go.Proofs.Ytciabhddppdioaa
open Go Go.RowKit Go.Proofs
attribute [local go_sem ↓] Go.wp_at_zero Go.wp_at_succ
attribute [local go_sem] Oper.semAt_some

abbrev tAs : Nat := 41
/-- a case's nine cells, written out -/
abbrev case9 (c : List Int) : Array Value := #[.int .i64 (cl c 0), .int .i64 (cl c 1), .int .i64 (cl c 2), .int .i64 (cl c 3), .int .i64 (cl c 4), .int .i64 (cl c 5), .int .i64 (cl c 6), .int .i64 (cl c 7), .int .i64 (cl c 8)]
theorem case9_eq {c : List Int} (h : c.length = 9) : case9 c = (encI c).toArray := by
  match c, h with
  | [c0, c1, c2, c3, c4, c5, c6, c7, c8], _ => rfl
theorem case9_set {c : List Int} (h : c.length = 9) (m : Nat) (v : Int) : (case9 c).setIfInBounds m (.int .i64 v) = case9 (c.set m v) := by
  rw [case9_eq h, case9_eq (by simpa using h)]
  simp [encI]
theorem Blk.case {w : World} {g : Nat} {t : TypeId} {c : List Int} (h : Blk w g t (case9 c)) (hc : c.length = 9) : Blk w g t (encI c).toArray := by rw [← case9_eq hc]; exact h
theorem Blk.caseSet {w : World} {g : Nat} {t : TypeId} {c : List Int} (h : Blk w g t (case9 c)) (hc : c.length = 9) (m : Nat) (v : Int) : Blk (w.setCell ⟨g, m, none⟩ (.int .i64 v)) g t (case9 (c.set m v)) := by
  rw [← case9_set hc]; exact h.set_ _ _
theorem case9_cells {w : World} {g : Nat} {t : TypeId} {c : List Int} (h : Blk w g t (case9 c)) :
    w.cell? ⟨g, 0, none⟩ = some (.int .i64 (cl c 0)) ∧ w.cell? ⟨g, 1, none⟩ = some (.int .i64 (cl c 1)) ∧ w.cell? ⟨g, 2, none⟩ = some (.int .i64 (cl c 2)) ∧ w.cell? ⟨g, 3, none⟩ = some (.int .i64 (cl c 3)) ∧ w.cell? ⟨g, 4, none⟩ = some (.int .i64 (cl c 4)) ∧ w.cell? ⟨g, 5, none⟩ = some (.int .i64 (cl c 5)) ∧ w.cell? ⟨g, 6, none⟩ = some (.int .i64 (cl c 6)) ∧ w.cell? ⟨g, 7, none⟩ = some (.int .i64 (cl c 7)) ∧ w.cell? ⟨g, 8, none⟩ = some (.int .i64 (cl c 8)) := by
  have q := h.cell
  exact ⟨q 0, q 1, q 2, q 3, q 4, q 5, q 6, q 7, q 8⟩
theorem Rw.keepB {w w' : World} {lo hi size n n₀ : Nat} {A : Option Addr} {xs : List Value} (h : Rw w lo hi size A n xs) (hb : Below n₀ w w') (hh : hi ≤ n₀) : Rw w' lo hi size A n xs := h.keep fun b _ h2 => hb.block b (by omega)
theorem AsnV.keepB {w w' : World} {lo hi n₀ : Nat} {v : Value} {a : Asn} (h : AsnV w lo hi v a) (hb : Below n₀ w w') (hh : hi ≤ n₀) : AsnV w' lo hi v a := by
  obtain ⟨A1, c1, A2, c2, e, h1, h2⟩ := h
  exact ⟨A1, c1, A2, c2, e, ⟨h1.raw.keepB hb hh, h1.lim⟩, ⟨h2.raw.keepB hb hh, h2.lim⟩⟩
/-- a case of a for the terms of S -/
abbrev CaseT (a : Asn) (S : Nat) := { c : List Int // c ∈ cases a S }
theorem CaseT.len {a : Asn} {S : Nat} (x : CaseT a S) : x.1.length = 9 := by
  have h := x.2
  unfold cases at h
  exact (gen_ok S 9 zeros x.1 (by omega) rfl (List.mem_filter.1 h).1).1
theorem CaseT.pos {a : Asn} {S : Nat} (x : CaseT a S) (j : Nat) (hj : j < 9) : (S.testBit j = true → 0 ≤ cl x.1 j ∧ cl x.1 j ≤ j) ∧ (S.testBit j = false → cl x.1 j = -1) := by
  have h := x.2
  unfold cases at h
  exact (gen_ok S 9 zeros x.1 (by omega) rfl (List.mem_filter.1 h).1).2.2 j (by omega) hj
/-- the parts that the loop at one place runs through -/
def extAt (a : Asn) (S n : Nat) (c : List Int) (k : Nat) : List (List Int) := if k < 8 - n ∧ cl c k ≠ k then [] else if poss a (c.set (8 - n) k) (8 - n : Nat) then ext a S n (c.set (8 - n) k) else []
theorem ext_loop (a : Asn) (S n : Nat) (c : List Int) (h : S.testBit (8 - n) = true) : ext a S (n + 1) c = (List.range (9 - n)).flatMap (extAt a S n c) := by
  conv => lhs; unfold ext
  rw [h, if_pos rfl]; rfl
theorem range_pre {α : Type} {f : Nat → List α} {k n : Nat} (h : k < n) {ys : List α} (hy : ys <+: f k) : (List.range k).flatMap f ++ ys <+: (List.range n).flatMap f := by
  obtain ⟨zs, hz⟩ := hy
  obtain ⟨m, rfl⟩ : ∃ m, n = k + (m + 1) := ⟨n - k - 1, by omega⟩
  rw [List.range_add, List.range_succ_eq_map, List.map_cons, List.flatMap_append, List.flatMap_cons, Nat.add_zero, ← hz]
  exact ⟨zs ++ (List.map (fun x => k + x) (List.map Nat.succ (List.range m))).flatMap f, by simp [List.append_assoc]⟩

theorem Kept.setNew {T1 T2 : TypeId} {n₀ : Nat} {W W' : World} (h : Kept T1 T2 n₀ W W') {p : Addr} (hp : W.heap.size ≤ p.block) (hn : n₀ ≤ W.heap.size) (u : Value) : Kept T1 T2 n₀ W (W'.setCell p u) :=
  ⟨h.below.setCell (by omega) _, fun g t cs ht hb => (h.keep g t cs ht hb).far (by have := hb.lt; omega) _⟩

--@ (impl.termCase).extend
set_option maxRecDepth 100000 in
set_option maxHeartbeats 6400000 in
theorem c_impl_extend {a : Asn} {S lo hi l n₀ B : Nat} {v : Value} (hv : a.valid = true) (hS : S < 512) (hT : ∀ t ∈ termsL a, S.testBit t.toNat = true) (hhi : hi ≤ n₀)
    (J Jx : List (CaseT a S) → World → Prop) (hJ : AbT tTc B J)
    (hY : ∀ m pre (x : CaseT a S) W, J pre W → (pre ++ [x]).map Subtype.val <+: cases a S → YieldAt Fence.wide m Try.prog l #[.agg (case9 x.1)] W fun e W' => (e = .returned (.bool true) ∧ J (pre ++ [x]) W' ∧ Kept tTc tAs n₀ W W') ∨ (e = .returned (.bool false) ∧ Jx (pre ++ [x]) W')) :
    ∀ (n : Nat) (c : List Int) (pre : List (CaseT a S)) (W : World), n ≤ 9 → c.length = 9 → pre.map Subtype.val ++ ext a S n c <+: cases a S → (∀ j : Nat, j < 9 - n → S.testBit j = true → 0 ≤ cl c j ∧ cl c j ≤ j) → AsnV W lo hi v a → B ≤ W.heap.size → n₀ ≤ W.heap.size → J pre W →
      Calls Try.prog 143 #[.agg (case9 c), .int .i64 ((9 - n : Nat) : Int), v, .int .u16 (S : Nat), .func (.yield l) #[] #[]] W fun e W' =>
        (e = .returned (.bool true) ∧ ∃ ys : List (CaseT a S), ys.map Subtype.val = ext a S n c ∧ J (pre ++ ys) W' ∧ Kept tTc tAs n₀ W W') ∨ (e = .returned (.bool false) ∧ ∃ ys : List (CaseT a S), ys.map Subtype.val <+: ext a S n c ∧ Jx (pre ++ ys) W') := by
  intro n
  induction n with
  | zero =>
    intro c pre W _ hc hm _ hA hBW hn0 hJp
    obtain ⟨A1, c1, A2, c2, rfl, -, -⟩ := hA
    have hB0 : Below W.heap.size W ((W.alloc (.cells (case9 c) tTc)).alloc (.cells #[.slice A1 a.facts.length c1, .slice A2 a.atoms.length c2] tAs)) := bel
    have hJ1 := hJ.next hJp hB0
    have hx : c ∈ cases a S := hm.subset (by simp [ext])
    obtain ⟨fn, tmps, assign, body, hy, hR⟩ := hY 0 pre ⟨c, hx⟩ _ hJ1 (by simpa [ext] using hm)
    have hk0 := Kept.next (T1 := tTc) (T2 := tAs) (n₀ := n₀) hB0 hn0
    dsimp only at hy
    have hR := RoundIn.mono hR (R' := fun e W' => (e = .returned (.bool true) ∧ J (pre ++ [⟨c, hx⟩]) W' ∧ Kept tTc tAs n₀ W W') ∨ (e = .returned (.bool false) ∧ Jx (pre ++ [⟨c, hx⟩]) W')) (fun e W' h => h.elim (fun h => Or.inl ⟨h.1, h.2.1, hk0.trans h.2.2⟩) Or.inr)
    clear hY hJ hk0 hJ1 hB0 hJp hm
    refine (callsIn_wide (n := 1)).1 ?_
    (refine callsIn_of_wp Try.func143 rfl trivial ?_ rfl; simp only [Try.ntmps143, List.size_toArray, List.length_cons, List.length_nil, Nat.reduceAdd, Nat.reduceSub, Array.replicate_succ, Array.replicate_zero, List.push_toArray, List.append_toArray, List.nil_append, List.cons_append])
    gi_wp2
    refine hR.mono ?_
    rintro e W' (⟨rfl, h1, h2⟩ | ⟨rfl, h1⟩)
    · gi_wp2
      go_ret
      exact Or.inl ⟨rfl, [⟨c, hx⟩], by simp [ext], h1, h2⟩
    · gi_wp2
      go_ret
      exact Or.inr ⟨rfl, [⟨c, hx⟩], by simp [ext], h1⟩
  | succ n ih =>
    intro c pre W hn hc hm hcl hA hBW hn0 hJp
    have hV := Lib.hid hA
    obtain ⟨A1, c1, A2, c2, rfl, -, -⟩ := hA
    obtain ⟨m, hm8⟩ : ∃ m, m = 8 - n := ⟨_, rfl⟩
    have e1 : ((9 - n : Nat) : Int) = (m : Int) + 1 := by omega
    rw [show 9 - (n + 1) = m from by omega] at hcl ⊢
    have hmi : (m : Int) ≤ 8 := by omega
    have hmi9 : (m : Int) < 9 := by omega
    have hit : isTermB (m : Int) = true := by rw [isTermB_iff]; omega
    have HO := Lib.hid (Asn.valid_ok hv)
    have IH := Lib.hid ih
    have HJ := Lib.hid hJ
    have HJP := Lib.hid hJp
    have HM := Lib.hid hm
    have HCL := Lib.hid hcl
    have HM8 := Lib.hid hm8
    have HT := Lib.hid hT
    have HC := Lib.hid hc
    have hmg : ¬ (8 < (m : Int)) := by omega
    have hmn := Lib.hid hn
    have E1 := Lib.hid e1
    clear ih hJ hJp hY hm hcl hT hm8 hc hn e1
    obtain ⟨W2, hW2⟩ : ∃ W2, W2 = ((W.alloc (.cells (case9 c) tTc)).alloc (.cells #[.slice A1 a.facts.length c1, .slice A2 a.atoms.length c2] tAs)) := ⟨_, rfl⟩
    have k0 : Blk W2 W.heap.size tTc (case9 c) := by rw [hW2]; exact blks
    have k1 : Blk W2 (W.heap.size + 1) tAs #[.slice A1 a.facts.length c1, .slice A2 a.atoms.length c2] := by rw [hW2]; exact blks
    have hB : Below W.heap.size W W2 := by rw [hW2]; exact bel
    have HW2 := Lib.hid hW2
    clear hW2
    go_enter Try.func143, Try.ntmps143
    go_wp2_with fail
    refine (c_impl_tHas S (m : Int) _ hS).mono ?_
    rintro e W3 ⟨rfl, rfl⟩
    rw [hit, Int.toNat_natCast, Bool.true_and, ← HW2.out]
    have lk0 := k0.lt
    have lk1 := k1.lt
    have rk0 := k0.frozen
    clear HW2
    cases ht : S.testBit m
    · have HTS := Lib.hid ht
      have HE : Hid (ext a S (n + 1) c = ext a S n (c.set m (-1))) := by
        show _ = _
        conv => lhs; unfold ext
        rw [← HM8.out, ht]; rfl
      have k0' := k0.caseSet HC.out m (-1)
      obtain ⟨p0, p1, p2, p3, p4, p5, p6, p7, p8⟩ := case9_cells k0'
      have qm : W2.cell? ⟨W.heap.size, m, none⟩ = some (.int .i64 (cl c m)) := case_cell (k0.case HC.out) (by rw [HC.out]; omega)
      have qk1 := (k1.far (p := ⟨W.heap.size, m, none⟩) (by simp) (.int .i64 (-1))).cell
      have hB3 : Below W.heap.size W (W2.setCell ⟨W.heap.size, m, none⟩ (.int .i64 (-1))) := bel
      have hz := hB3.size
      clear ht k0 k1 k0' hB
      go_wp2_with fail
      have ih1 := IH.out (c.set m (-1)) pre _ (by have := hmn.out; omega) (by simpa using HC.out) (by rw [← HE.out]; exact HM.out) (fun j hj hSj => by
        have := HM8.out
        rw [cl_set HC.out (by omega) _ (by omega)]
        by_cases ej : j = m
        · subst ej; rw [HTS.out] at hSj; cases hSj
        · rw [if_neg (by omega)]; exact HCL.out j (by omega) hSj) (hV.out.below hB3) (Nat.le_trans hBW hz) (Nat.le_trans hn0 hz) (HJ.out.next HJP.out hB3)
      rw [E1.out] at ih1
      refine ih1.mono ?_
      clear ih1
      rintro e W' (⟨rfl, ys, y1, y2, y3⟩ | ⟨rfl, ys, y1, y2⟩)
      · have Y := Lib.hid (⟨y1, y2, y3⟩ : _ ∧ _ ∧ _)
        clear y1 y2 y3
        go_wp2_with fail
        go_ret
        exact Or.inl ⟨rfl, ys, by rw [HE.out]; exact Y.out.1, Y.out.2.1, (Kept.next hB3 hn0).trans Y.out.2.2⟩
      · have Y := Lib.hid (⟨y1, y2⟩ : _ ∧ _)
        clear y1 y2
        go_wp2_with fail
        go_ret
        exact Or.inr ⟨rfl, ys, by rw [HE.out]; exact Y.out.1, Y.out.2⟩
    · have HTS := Lib.hid ht
      have HE := Lib.hid (ext_loop a S n c (by rw [← HM8.out]; exact ht))
      clear ht
      go_wp2_with fail
      go_loopw [11] (fun i wr => ∃ (k : Nat) (d : List Int) (ys : List (CaseT a S)), k ≤ m + 1 ∧ i = .int .i64 k ∧ Hid (d.length = 9) ∧ Hid (∀ v, d.set m v = c.set m v) ∧ Hid (ys.map Subtype.val = (List.range k).flatMap (extAt a S n c)) ∧ Blk wr W.heap.size tTc (case9 d) ∧ Blk wr (W.heap.size + 1) tAs #[.slice A1 a.facts.length c1, .slice A2 a.atoms.length c2] ∧ Hid (J (pre ++ ys) wr) ∧ Hid (Kept tTc tAs n₀ W wr)) (fun i _ => 9 - (intOf i).toNat)
      case atStart => exact ⟨0, c, [], Nat.zero_le _, rfl, HC, fun _ => rfl, rfl, k0, k1, by rw [List.append_nil]; exact HJ.out.next HJP.out hB, Kept.next hB hn0⟩
      case round =>
        clear k0 k1 lk0 lk1 rk0 hB
        obtain ⟨k, d, ys, hk, rfl, HDL, HDS, HYS, k0, k1, HJW, HKW⟩ := hrel
        have lk0 := k0.lt
        have lk1 := k1.lt
        have rk0 := k0.frozen
        by_cases hlt : k ≤ m
        · have hki : (k : Int) ≤ (m : Int) := by omega
          have hk9 : (k : Int) < 9 := by omega
          have hkc : wr.cell? ⟨W.heap.size, k, none⟩ = some (.int .i64 (cl d k)) := case_cell (k0.case HDL.out) (by rw [HDL.out]; omega)
          have HNX : Hid ((List.range (k + 1)).flatMap (extAt a S n c) = (List.range k).flatMap (extAt a S n c) ++ extAt a S n c k) := by show _ = _; rw [List.range_succ, List.flatMap_append]; simp
          have hdc : k < m → cl d k = cl c k := fun h => by
            have h1 := cl_set HDL.out (t := m) (by omega) 0 (j := (k : Int)) (by omega)
            have h2 := cl_set HC.out (t := m) (by omega) 0 (j := (k : Int)) (by omega)
            rw [if_neg (by omega)] at h1 h2
            rw [← h1, ← h2, HDS.out]
          have HDC := Lib.hid hdc
          clear hdc
          by_cases hskip : k < m ∧ cl c k ≠ k
          · have HX : Hid (extAt a S n c k = []) := by show _ = _; rw [extAt, if_pos (by rw [← HM8.out]; exact hskip)]
            have hkm : (k : Int) < (m : Int) := by omega
            have hne : (cl d k != (k : Int)) = true := by rw [HDC.out hskip.1]; simpa using hskip.2
            clear hskip hki hlt
            go_wp2_with fail
            go_round
            case rel => exact ⟨k + 1, d, ys, by omega, by go_num, HDL, HDS, by show _ = _; rw [HNX.out, HX.out, List.append_nil]; exact HYS.out, k0, k1, HJW, HKW⟩
            case measure => simp [intOf]; omega
          · have hsk2 : k < m → (cl d k != (k : Int)) = false := fun h => by
              rw [HDC.out h]
              cases Int.decEq (cl c k) k with
              | isTrue h => simp [h]
              | isFalse h' => exact absurd ⟨h, h'⟩ hskip
            have HX : Hid (extAt a S n c k = if poss a (c.set m k) m then ext a S n (c.set m k) else []) := by
              show _ = _
              rw [extAt, ← HM8.out, if_neg hskip]
            clear hskip
            have k0' : Blk (wr.setCell ⟨W.heap.size, m, none⟩ (.int .i64 k)) W.heap.size tTc (case9 (c.set m k)) := by rw [← HDS.out k]; exact k0.caseSet HDL.out m k
            have k1' := k1.far (p := ⟨W.heap.size, m, none⟩) (by simp) (.int .i64 (k : Int))
            have qk1 := k1'.cell
            have qm : wr.cell? ⟨W.heap.size, m, none⟩ = some (.int .i64 (cl d m)) := case_cell (k0.case HDL.out) (by rw [HDL.out]; omega)
            have HKW' := Lib.hid (HKW.out.setNew (p := ⟨W.heap.size, m, none⟩) (Nat.le_refl _) hn0 (.int .i64 (k : Int)))
            have HJW' := Lib.hid (HJ.out.set HJW.out k0 hBW m (.int .i64 (k : Int)))
            have HA' := Lib.hid (hV.out.keepB HKW'.out.below hhi)
            have hcs : (c.set m (k : Int)).length = 9 := by simpa using HC.out
            have HCS := Lib.hid hcs
            have hcl' : ∀ j : Nat, j ≤ m → S.testBit j = true → 0 ≤ cl (c.set m (k : Int)) j ∧ cl (c.set m (k : Int)) j ≤ j := fun j hj hSj => by
              rw [cl_set HC.out (by omega) _ (by omega)]
              split
              · omega
              · exact HCL.out j (by omega) hSj
            have HCL' := Lib.hid hcl'
            have hpo : ∀ x ∈ a.atoms, x.a ≤ (m : Int) → isTermB (cl (c.set m (k : Int)) x.a) = true := fun x hx hxm => by
              have h0 := (HO.out.2 x hx).1
              obtain ⟨t, et⟩ := Int.eq_ofNat_of_zero_le h0.1
              have hb := HT.out x.a (by simp only [termsL, List.mem_append, List.mem_flatMap]; exact Or.inr ⟨x, hx, by simp [atomT]⟩)
              rw [et] at hb hxm ⊢
              have := hcl' t (by omega) (by simpa using hb)
              rw [isTermB_iff]; omega
            have HPO := Lib.hid hpo
            clear hcl' hpo hcs k1
            have K1' := Lib.hid k1'
            clear k1'
            have hwz : W.heap.size ≤ wr.heap.size := by omega
            obtain hkm | hkm : k < m ∨ k = m := by omega
            case' inl => have h1 : (k : Int) < (m : Int) := by omega
            case' inl => have h2 := hsk2 hkm
            case' inr => have h1 : ¬ (k : Int) < (m : Int) := by omega
            all_goals
              clear hkm hsk2
              go_wp2_with fail
              refine (c_impl_possible _ a (m : Int) (c.set m (k : Int)) W.heap.size _ HA'.out (k0'.case HCS.out) HCS.out HO.out.1 HO.out.2 HPO.out).mono ?_
              rintro e w1 ⟨rfl, hB1⟩
              have k0 := k0'.next hB1
              have k1 := K1'.out.next hB1
              replace qk1 := k1.cell
              obtain ⟨p0, p1, p2, p3, p4, p5, p6, p7, p8⟩ := case9_cells k0
              have hz := hB1.size
              simp only [World.size_setCell] at hz
              have HKW1 := Lib.hid (HKW'.out.trans (Kept.next hB1 (by simp only [World.size_setCell]; omega)))
              have HJ1 := Lib.hid (HJ.out.next HJW'.out hB1)
              have HA1 := Lib.hid (hV.out.keepB HKW1.out.below hhi)
              clear hB1 qm k0' rk0
              cases hps : poss a (c.set m (k : Int)) (m : Int)
              · have HX2 := Lib.hid (show extAt a S n c k = [] by rw [HX.out, hps]; rfl)
                clear hps
                go_wp2_with fail
                go_round
                case rel => exact ⟨k + 1, c.set m (k : Int), ys, by omega, by go_num, HCS, fun v => by rw [List.set_set], by show _ = _; rw [HNX.out, HX2.out, List.append_nil]; exact HYS.out, k0, k1, HJ1, HKW1⟩
                case measure => simp [intOf]; omega
              · have HX2 := Lib.hid (show extAt a S n c k = ext a S n (c.set m (k : Int)) by rw [HX.out, hps]; rfl)
                clear hps
                have hk9n : k < 9 - n := by have := HM8.out; have := hmn.out; omega
                have ih1 := IH.out (c.set m (k : Int)) (pre ++ ys) w1 (by have := hmn.out; omega) HCS.out (by
                  refine List.IsPrefix.trans ?_ HM.out
                  rw [HE.out, List.map_append, HYS.out, List.append_assoc]
                  exact (List.prefix_append_right_inj _).2 (range_pre hk9n (by rw [HX2.out]; exact List.prefix_rfl))) (fun j hj => HCL'.out j (by have := HM8.out; have := hmn.out; omega)) HA1.out (by omega) (by omega) HJ1.out
                rw [E1.out] at ih1
                have IH1 := Lib.hid ih1
                clear ih1
                go_wp2_with fail
                refine IH1.out.mono ?_
                rintro e W' (⟨rfl, ys2, y1, y2, y3⟩ | ⟨rfl, ys2, y1, y2⟩)
                · have z0 := y3.keep _ _ _ (Or.inl rfl) k0
                  have z1 := y3.keep _ _ _ (Or.inr rfl) k1
                  have Y := Lib.hid (⟨y1, y2, y3⟩ : _ ∧ _ ∧ _)
                  clear y1 y2 y3 k0 k1 qk1 p0 p1 p2 p3 p4 p5 p6 p7 p8
                  go_wp2_with fail
                  go_round
                  case rel => exact ⟨k + 1, c.set m (k : Int), ys ++ ys2, by omega, by go_num, HCS, fun v => by rw [List.set_set], by show _ = _; rw [HNX.out, HX2.out, List.map_append, Y.out.1, HYS.out], z0, z1, by rw [← List.append_assoc]; exact Y.out.2.1, HKW1.out.trans Y.out.2.2⟩
                  case measure => simp [intOf]; omega
                · have Y := Lib.hid (⟨y1, y2⟩ : _ ∧ _)
                  clear y1 y2 k0 k1 qk1 p0 p1 p2 p3 p4 p5 p6 p7 p8
                  go_wp2_with fail
                  go_ret
                  refine Or.inr ⟨rfl, ys ++ ys2, ?_, by rw [← List.append_assoc]; exact Y.out.2⟩
                  rw [HE.out, List.map_append, HYS.out]
                  exact range_pre hk9n (by rw [HX2.out]; exact Y.out.1)
        · obtain rfl : k = m + 1 := by omega
          go_wp2_with fail
          go_ret
          refine Or.inl ⟨rfl, ys, ?_, HJW.out, HKW.out⟩
          rw [HE.out, HYS.out, show 9 - n = m + 1 from by have := HM8.out; have := hmn.out; omega]
end Go.Proofs.Ytciabhddppdioaa

/- Contracts: impl's cases as an iterator value; the first case. -/
namespace Go.Proofs.Ytciabhddppdioaa
open Go Go.RowKit Go.Proofs
attribute [local go_sem ↓] Go.wp_at_zero Go.wp_at_succ
attribute [local go_sem] Oper.semAt_some

abbrev tTS : Nat := 84
/-- the terms of a case of a: nil, a's and the further ones F -/
def caseS (a : Asn) (F : Nat) : Nat := tins (tset (termsL a)) 0 ||| F
theorem caseS_lt {a : Asn} {F : Nat} (h : F < 512) : caseS a F < 512 := Nat.or_lt_two_pow (n := 9) (tins_lt (tset_lt _) 0) h
theorem caseS_bit (a : Asn) (F n : Nat) : (caseS a F).testBit n = (decide (isTermB (n : Int) = true ∧ (n : Int) ∈ termsL a) || decide (n = 0) || F.testBit n) := by
  unfold caseS
  rw [Nat.testBit_or, tins_bit, tset_bit]
  congr 2
  rw [decide_eq_decide]
  constructor
  · rintro ⟨_, h⟩; omega
  · intro h; subst h; exact ⟨by decide, rfl⟩
theorem caseS_zero (a : Asn) (F : Nat) : (caseS a F).testBit 0 = true := by rw [caseS_bit]; simp
theorem caseS_terms {a : Asn} (h : a.valid = true) (F : Nat) : ∀ t ∈ termsL a, (caseS a F).testBit t.toNat = true := by
  intro t ht
  have hb := termsL_ok h t ht
  have := isTermB_iff.1 hb
  rw [caseS_bit]
  have e : ((t.toNat : Nat) : Int) = t := by omega
  rw [e]
  simp [hb, ht]
theorem caseS_not {a : Asn} (h : a.valid = true) (F : Nat) : ∀ t : Nat, (caseS a F).testBit t = false → (∀ f ∈ a.facts, f.a ≠ t ∧ f.b ≠ t) ∧ (∀ x ∈ a.atoms, x.a ≠ t ∧ x.b ≠ t) := by
  intro t ht
  have key : (t : Int) ∉ termsL a := fun hm => by
    have := caseS_terms h F _ hm
    rw [Int.toNat_natCast, ht] at this; cases this
  refine ⟨fun f hf => ⟨fun e => key ?_, fun e => key ?_⟩, fun x hx => ⟨fun e => key ?_, fun e => key ?_⟩⟩
  all_goals simp only [termsL, List.mem_append, List.mem_flatMap]
  · exact Or.inl ⟨f, hf, by simp [factT, e]⟩
  · exact Or.inl ⟨f, hf, by simp [factT, e]⟩
  · exact Or.inr ⟨x, hx, by simp [atomT, e]⟩
  · exact Or.inr ⟨x, hx, by simp [atomT, e]⟩
theorem ext_caseS {a : Asn} (h : a.valid = true) (F : Nat) : ext a (caseS a F) 9 zeros = cases a (caseS a F) := ext_cases (Asn.valid_ok h).1 (Asn.valid_ok h).2 (caseS_not h F)

--@ impl.possibleCases$1
set_option maxHeartbeats 1600000 in
theorem c_seq {a : Asn} {F lo hi n₀ gA gT : Nat} {A1 A2 : Option Addr} {d1 d2 : Nat} (w : World) (hv : a.valid = true) (hF : F < 512) (hA : AsnV w lo hi (.agg #[.slice A1 a.facts.length d1, .slice A2 a.atoms.length d2]) a) (hhi : hi ≤ n₀) (hn : n₀ ≤ w.heap.size)
    (kA : Blk w gA tAs #[.slice A1 a.facts.length d1, .slice A2 a.atoms.length d2]) (kT : Blk w gT tTS #[.int .u16 (caseS a F : Nat)]) :
    SeqT (α := CaseT a (caseS a F)) Try.prog 142 #[.pointer (some ⟨gA, 0, none⟩), .pointer (some ⟨gT, 0, none⟩)] (fun x => #[.agg (case9 x.1)]) tTc (Kept tTc tAs n₀) (fun p => p.map Subtype.val <+: cases a (caseS a F)) (fun xs => xs.map Subtype.val = cases a (caseS a F)) (fun pre => pre.map Subtype.val <+: cases a (caseS a F)) w := by
  intro n l J Jx W hW hJ hJx hY h0
  have kA' := kA.next hW
  have kT' := kT.next hW
  have hA' := hA.below hW
  have hz := hW.size
  have hB1 : Below W.heap.size W (W.alloc (.cells (case9 zeros) tTc)) := bel
  have h1 := c_impl_extend hv (caseS_lt hF) (caseS_terms hv F) hhi J Jx hJ hY 9 zeros [] _ (by omega) rfl (by rw [ext_caseS hv]; simp) (fun j hj => by omega) (hA'.below hB1) hB1.size (by have := hB1.size; omega) (hJ.next h0 hB1)
  rw [show ((9 - 9 : Nat) : Int) = 0 from rfl, ext_caseS hv] at h1
  have H1 := Lib.hid h1
  have lA := kA'.lt
  have lT := kT'.lt
  have qA := kA'.cell
  have qT := kT'.cell
  clear h1 hY hJ hJx h0 hA' hA
  refine callsIn_wide.2 ?_
  go_enter Try.func142, Try.ntmps142
  go_wp2_with fail
  refine H1.out.mono ?_
  rintro e W' (⟨rfl, ys, y1, y2, -⟩ | ⟨rfl, ys, y1, y2⟩)
  · have Y := Lib.hid (⟨y1, y2⟩ : _ ∧ _)
    clear y1 y2
    go_wp2_with fail
    go_end0
    exact ⟨⟨_, rfl⟩, .inl ⟨ys, Y.out.1, Y.out.2⟩⟩
  · have Y := Lib.hid (⟨y1, y2⟩ : _ ∧ _)
    clear y1 y2
    go_wp2_with fail
    go_end0
    exact ⟨⟨_, rfl⟩, .inr ⟨ys, Y.out.1, Y.out.2⟩⟩

--@ impl.possibleCases
set_option maxHeartbeats 1600000 in
theorem c_impl_possibleCases {lo hi : Nat} (A1 A2 : Option Addr) (d1 d2 : Nat) (a : Asn) (F : Nat) (w : World) (h : AsnV w lo hi (.agg #[.slice A1 a.facts.length d1, .slice A2 a.atoms.length d2]) a) (hF : F < 512) :
    Calls Try.prog 71 #[.agg #[.slice A1 a.facts.length d1, .slice A2 a.atoms.length d2], .int .u16 (F : Nat)] w fun e w' => ∃ gA gT, e = .returned (.func (.func 142) #[] #[.pointer (some ⟨gA, 0, none⟩), .pointer (some ⟨gT, 0, none⟩)]) ∧
      w.heap.size ≤ gA ∧ w.heap.size ≤ gT ∧ Blk w' gA tAs #[.slice A1 a.facts.length d1, .slice A2 a.atoms.length d2] ∧ Blk w' gT tTS #[.int .u16 (caseS a F : Nat)] ∧ Below w.heap.size w w' := by
  have hV := Lib.hid h
  clear h
  have hT := tset_lt (termsL a)
  have hT2 := tins_lt hT 0
  have hU := u16_or_nat (tins (tset (termsL a)) 0) F (by omega) (by omega)
  go_enter Try.func71, Try.ntmps71
  go_wp2_with fail
  refine (c_impl_termsIn _ a _ (hV.out.below bel)).mono ?_
  rintro e w1 ⟨rfl, hB1⟩
  have k0 : Blk w1 w.heap.size tAs #[.slice A1 a.facts.length d1, .slice A2 a.atoms.length d2] := Blk.next blks hB1
  have hB : Below w.heap.size w w1 := bgo (w := w) bel hB1
  have hz := hB1.size
  simp only [World.size_alloc] at hz
  clear hB1
  go_wp2_with fail
  refine (c_impl_with _ 0 _ hT).mono ?_
  rintro e w2 ⟨rfl, rfl⟩
  go_wp2_with fail
  go_ret
  refine ⟨w.heap.size, w1.heap.size, rfl, Nat.le_refl _, by omega, k0.alloc _, ?_, bel⟩
  exact Blk.new _ _ _

--@ impl.firstCase
theorem head_pre {y : List Int} {L : List (List Int)} (h : [y] <+: L) : L.head?.getD zeros = y ∧ L.isEmpty = false := by
  obtain ⟨zs, rfl⟩ := h
  exact ⟨rfl, rfl⟩
/-- nine cells of one block, stored -/
abbrev set9 (w : World) (g : Nat) (v0 v1 v2 v3 v4 v5 v6 v7 v8 : Value) : World := (((((((((w.setCell ⟨g, 0, none⟩ v0).setCell ⟨g, 1, none⟩ v1).setCell ⟨g, 2, none⟩ v2).setCell ⟨g, 3, none⟩ v3).setCell ⟨g, 4, none⟩ v4).setCell ⟨g, 5, none⟩ v5).setCell ⟨g, 6, none⟩ v6).setCell ⟨g, 7, none⟩ v7).setCell ⟨g, 8, none⟩ v8)
theorem Blk.nine {w : World} {g : Nat} {t : TypeId} {a0 a1 a2 a3 a4 a5 a6 a7 a8 v0 v1 v2 v3 v4 v5 v6 v7 v8 : Value} (h : Blk w g t #[a0, a1, a2, a3, a4, a5, a6, a7, a8]) : Blk (set9 w g v0 v1 v2 v3 v4 v5 v6 v7 v8) g t #[v0, v1, v2, v3, v4, v5, v6, v7, v8] := by
  have h0 := h.set_ 0 v0
  simp only [List.setIfInBounds_toArray, List.set_cons_zero] at h0
  have h1 := h0.set_ 1 v1
  simp only [List.setIfInBounds_toArray, List.set_cons_zero, List.set_cons_succ] at h1
  have h2 := h1.set_ 2 v2
  simp only [List.setIfInBounds_toArray, List.set_cons_zero, List.set_cons_succ] at h2
  have h3 := h2.set_ 3 v3
  simp only [List.setIfInBounds_toArray, List.set_cons_zero, List.set_cons_succ] at h3
  have h4 := h3.set_ 4 v4
  simp only [List.setIfInBounds_toArray, List.set_cons_zero, List.set_cons_succ] at h4
  have h5 := h4.set_ 5 v5
  simp only [List.setIfInBounds_toArray, List.set_cons_zero, List.set_cons_succ] at h5
  have h6 := h5.set_ 6 v6
  simp only [List.setIfInBounds_toArray, List.set_cons_zero, List.set_cons_succ] at h6
  have h7 := h6.set_ 7 v7
  simp only [List.setIfInBounds_toArray, List.set_cons_zero, List.set_cons_succ] at h7
  have h8 := h7.set_ 8 v8
  simp only [List.setIfInBounds_toArray, List.set_cons_zero, List.set_cons_succ] at h8
  exact h8
theorem Blk.nineFar {w : World} {g g2 : Nat} {t : TypeId} {cs : Array Value} {v0 v1 v2 v3 v4 v5 v6 v7 v8 : Value} (h : Blk w g2 t cs) (hn : g2 ≠ g) : Blk (set9 w g v0 v1 v2 v3 v4 v5 v6 v7 v8) g2 t cs :=
  ((((((((h.far (p := ⟨g, 0, none⟩) hn v0).far (p := ⟨g, 1, none⟩) hn v1).far (p := ⟨g, 2, none⟩) hn v2).far (p := ⟨g, 3, none⟩) hn v3).far (p := ⟨g, 4, none⟩) hn v4).far (p := ⟨g, 5, none⟩) hn v5).far (p := ⟨g, 6, none⟩) hn v6).far (p := ⟨g, 7, none⟩) hn v7).far (p := ⟨g, 8, none⟩) hn v8
theorem below9 {w w0 : World} {B g : Nat} {v0 v1 v2 v3 v4 v5 v6 v7 v8 : Value} (h : Below B w0 w) (hn : B ≤ g) : Below B w0 (set9 w g v0 v1 v2 v3 v4 v5 v6 v7 v8) :=
  ((((((((h.setCell (p := ⟨g, 0, none⟩) hn v0).setCell (p := ⟨g, 1, none⟩) hn v1).setCell (p := ⟨g, 2, none⟩) hn v2).setCell (p := ⟨g, 3, none⟩) hn v3).setCell (p := ⟨g, 4, none⟩) hn v4).setCell (p := ⟨g, 5, none⟩) hn v5).setCell (p := ⟨g, 6, none⟩) hn v6).setCell (p := ⟨g, 7, none⟩) hn v7).setCell (p := ⟨g, 8, none⟩) hn v8
theorem keeps9 {w : World} {g : Nat} {v0 v1 v2 v3 v4 v5 v6 v7 v8 : Value} : KeepsOthers w (set9 w g v0 v1 v2 v3 v4 v5 v6 v7 v8) :=
  ((((((((KeepsOthers.setCell _ _ _).trans (KeepsOthers.setCell _ _ _)).trans (KeepsOthers.setCell _ _ _)).trans (KeepsOthers.setCell _ _ _)).trans (KeepsOthers.setCell _ _ _)).trans (KeepsOthers.setCell _ _ _)).trans (KeepsOthers.setCell _ _ _)).trans (KeepsOthers.setCell _ _ _)).trans (KeepsOthers.setCell _ _ _)
theorem Kept.putl {T1 T2 : TypeId} {n₀ B : Nat} (hn : n₀ ≤ B) (W : World) (l : Nat) (o o' : Obj) (hl : B ≤ l) (h : W.heap[l]? = some o) (hc : o.isCells = false) : Kept T1 T2 n₀ W (W.putObj l o') := Kept.put o' (by omega) h hc
theorem Blk.putl {W : World} {g l : Nat} {t : TypeId} {cs : Array Value} {o : Obj} (o' : Obj) (hb : Blk W g t cs) (hl : W.heap[l]? = some o) (ho : o.isCells = false) : Blk (W.putObj l o') g t cs :=
  (World.putObj_heap_other (fun e => by subst e; unfold Blk at hb; rw [hl] at hb; cases hb; cases ho)).trans hb
set_option maxRecDepth 100000 in
set_option maxHeartbeats 3200000 in
theorem c_impl_firstCase {lo hi : Nat} (v : Value) (a : Asn) (w : World) (h : AsnV w lo hi v a) (hhi : hi ≤ w.heap.size) (hv : a.valid = true) :
    Calls Try.prog 85 #[v] w fun e w' => e = .returned (.tuple #[.agg (case9 ((cases a (caseS a 0)).head?.getD zeros)), .bool (!(cases a (caseS a 0)).isEmpty)]) ∧ Below w.heap.size w w' := by
  have hV := Lib.hid h
  obtain ⟨A1, c1, A2, c2, rfl, -, -⟩ := h
  refine (callsIn_wide (n := 3)).1 ?_
  (refine callsIn_of_wp_marks Try.func85 rfl trivial ?_ rfl; simp only [Try.ntmps85, List.size_toArray, List.length_cons, List.length_nil, Nat.reduceAdd, Nat.reduceSub, Array.replicate_succ, Array.replicate_zero, List.push_toArray, List.append_toArray, List.nil_append, List.cons_append])
  gi_wp2_with fail
  refine ⟨trivial, (callsIn_wide.2 (c_impl_possibleCases A1 A2 c1 c2 a 0 _ (hV.out.below bel) (by decide))).mono ?_⟩
  rintro e w1 ⟨gA, gT, rfl, hA, hT, kA, kT, hB1⟩
  have kR0 : Blk w1 (w.heap.size + 1) tTc #[.int .i64 0, .int .i64 0, .int .i64 0, .int .i64 0, .int .i64 0, .int .i64 0, .int .i64 0, .int .i64 0, .int .i64 0] := Blk.next blks hB1
  have kR : Blk w1 (w.heap.size + 1) tTc (case9 zeros) := kR0
  clear kR0
  have kO : Blk w1 (w.heap.size + 1 + 1) 4 #[.bool false] := Blk.next blks hB1
  have hB : Below w.heap.size w w1 := bgo (w := w) bel hB1
  have hz := hB1.size
  simp only [World.size_alloc] at hz hA hT
  have hAw := hV.out.below hB
  clear hB1
  gi_wp2_with fail
  refine wp_rangeT (gf := 142) (lb := #[.pointer (some ⟨gA, 0, none⟩), .pointer (some ⟨gT, 0, none⟩)]) rfl (enters_of Try.func142 (by kernel_rfl) rfl)
    (c_seq (n₀ := w.heap.size) w1 hv (by decide) hAw hhi (by omega) kA kT) (fun h k => h.trans k) (Kept.putl (by omega)) (Below.refl _ _) (fun _ => rfl)
    (fun pre W => pre = [] ∧ Blk W (w.heap.size + 1) tTc (case9 zeros) ∧ Blk W (w.heap.size + 1 + 1) 4 #[.bool false] ∧ Below w.heap.size w W)
    (fun c pre W => ∃ x, c = .ret ∧ pre = [x] ∧ Blk W (w.heap.size + 1) tTc (case9 x.1) ∧ Blk W (w.heap.size + 1 + 1) 4 #[.bool true] ∧ Below w.heap.size w W)
    (fun s X Y row hs hg hr => ⟨hs.1, hs.2.1.turn hg hr (Or.inr (by omega)), hs.2.2.1.turn hg hr (Or.inr (by omega)), Below.turn hs.2.2.2 hg hr (by omega) hs.2.2.2.size⟩)
    (fun c s X Y row hs hg hr => by
      obtain ⟨x, e1, e2, k1, k2, k3⟩ := hs
      exact ⟨x, e1, e2, k1.turn hg hr (Or.inr (by omega)), k2.turn hg hr (Or.inr (by omega)), Below.turn k3 hg hr (by omega) k3.size⟩)
    ⟨rfl, kR, kO, hB⟩ ?round ?done ?stop
  case round =>
    rintro l pre x W hl ⟨rfl, kR, kO, hB⟩ -
    have hwz := hB.size
    gi_wp2
    refine ⟨(KeepsOthers.alloc _ _).from _, Kept.alloc (by omega) _, fun o o' ho hc => ?_⟩
    have kX := (Blk.new W tTc (case9 x.1)).putl o' ho hc
    have lO := kO.lt
    replace kR := (kR.alloc (.cells (case9 x.1) tTc)).putl o' ho hc
    replace kO := (kO.alloc (.cells (case9 x.1) tTc)).putl o' ho hc
    have hB' := (bbox hB (.cells (case9 x.1) tTc)).trans (Kept.put (T1 := tTc) (T2 := tAs) (n₀ := w.heap.size) o' (by omega) ho hc).below
    clear ho
    obtain ⟨V, hVe⟩ : ∃ V, V = (W.alloc (.cells (case9 x.1) tTc)).putObj l o' := ⟨_, rfl⟩
    rw [← hVe] at kX kR kO hB' ⊢
    clear hVe hB
    obtain ⟨p0, p1, p2, p3, p4, p5, p6, p7, p8⟩ := case9_cells kX
    obtain ⟨q0, q1, q2, q3, q4, q5, q6, q7, q8⟩ := case9_cells kR
    have rR := kR.frozen
    have qO := kO.cell 0
    have rO := kO.frozen
    gi_wp2
    refine ⟨(keeps9.trans (KeepsOthers.setCell _ _ _)).from _, x, rfl, rfl, ?_, ?_, ?_⟩
    · exact (Blk.nine kR).far (p := ⟨w.heap.size + 1 + 1, 0, none⟩) (by simp) _
    · exact (kO.nineFar (by omega)).set_ 0 (.bool true)
    · exact (below9 hB' (by omega)).setCell (p := ⟨w.heap.size + 1 + 1, 0, none⟩) (by simp only; omega) _
  case done =>
    rintro D ys W hD hS ⟨rfl, kR, kO, hB⟩ hK
    have E : cases a (caseS a 0) = [] := hS.symm
    obtain ⟨q0, q1, q2, q3, q4, q5, q6, q7, q8⟩ := case9_cells kR
    have rR := kR.frozen
    have qO := kO.cell 0
    have rO := kO.frozen
    have lO := kO.lt
    have lR := kR.lt
    gi_wp2
    have zR := (Blk.nine (v0 := .int .i64 0) (v1 := .int .i64 0) (v2 := .int .i64 0) (v3 := .int .i64 0) (v4 := .int .i64 0) (v5 := .int .i64 0) (v6 := .int .i64 0) (v7 := .int .i64 0) (v8 := .int .i64 0) kR).far (p := ⟨w.heap.size + 1 + 1, 0, none⟩) (by simp) (.bool false)
    have zO := (kO.nineFar (g := w.heap.size + 1) (v0 := .int .i64 0) (v1 := .int .i64 0) (v2 := .int .i64 0) (v3 := .int .i64 0) (v4 := .int .i64 0) (v5 := .int .i64 0) (v6 := .int .i64 0) (v7 := .int .i64 0) (v8 := .int .i64 0) (by omega)).set_ 0 (.bool false)
    have zB := (below9 (g := w.heap.size + 1) (v0 := .int .i64 0) (v1 := .int .i64 0) (v2 := .int .i64 0) (v3 := .int .i64 0) (v4 := .int .i64 0) (v5 := .int .i64 0) (v6 := .int .i64 0) (v7 := .int .i64 0) (v8 := .int .i64 0) hB (by omega)).setCell (p := ⟨w.heap.size + 1 + 1, 0, none⟩) (by simp only; omega) (.bool false)
    have zK := ((keeps9 (w := W) (g := w.heap.size + 1) (v0 := .int .i64 0) (v1 := .int .i64 0) (v2 := .int .i64 0) (v3 := .int .i64 0) (v4 := .int .i64 0) (v5 := .int .i64 0) (v6 := .int .i64 0) (v7 := .int .i64 0) (v8 := .int .i64 0)).trans (KeepsOthers.setCell _ ⟨w.heap.size + 1 + 1, 0, none⟩ (.bool false))).same D _ hK rfl
    obtain ⟨V, hVe⟩ : ∃ V, V = ((set9 W (w.heap.size + 1) (.int .i64 0) (.int .i64 0) (.int .i64 0) (.int .i64 0) (.int .i64 0) (.int .i64 0) (.int .i64 0) (.int .i64 0) (.int .i64 0)).setCell ⟨w.heap.size + 1 + 1, 0, none⟩ (.bool false)) := ⟨_, rfl⟩
    rw [← hVe] at zR zO zB zK ⊢
    refine ⟨by simp, .inl ⟨_, _, rfl, run_takeDeferred zK, ?_⟩⟩
    have yR : Blk _ _ _ (case9 zeros) := zR.putl (.deferred none) zK rfl
    have yO := zO.putl (.deferred none) zK rfl
    obtain ⟨p0, p1, p2, p3, p4, p5, p6, p7, p8⟩ := case9_cells yR
    have pO := yO.cell 0
    refine ⟨.tuple #[.agg (case9 zeros), .bool false], ?_, by rw [E]; rfl, zB.trans (belowK_b (w := w) (Nat.le_refl _) V D _ _ (by omega) zK rfl rfl)⟩
    simp [results, Try.f85, go_sem, p0, p1, p2, p3, p4, p5, p6, p7, p8, pO]
  case stop =>
    rintro D c pre W hD hS ⟨x, rfl, rfl, kR, kO, hB⟩ hK
    obtain ⟨q0, q1, q2, q3, q4, q5, q6, q7, q8⟩ := case9_cells kR
    have qO := kO.cell 0
    have lO := kO.lt
    have lR := kR.lt
    gi_wp2
    refine ⟨by simp, .inl ⟨_, _, rfl, run_takeDeferred hK, ?_⟩⟩
    have yR := kR.putl (.deferred none) hK rfl
    have yO := kO.putl (.deferred none) hK rfl
    obtain ⟨p0, p1, p2, p3, p4, p5, p6, p7, p8⟩ := case9_cells yR
    have pO := yO.cell 0
    have E := head_pre hS
    refine ⟨.tuple #[.agg (case9 x.1), .bool true], ?_, by rw [E.1, E.2]; rfl, hB.trans (belowK_b (w := w) (Nat.le_refl _) W D _ _ (by omega) hK rfl rfl)⟩
    simp [results, Try.f85, go_sem, p0, p1, p2, p3, p4, p5, p6, p7, p8, pO]

--@ impl.Consistent
set_option maxHeartbeats 1600000 in
theorem c_impl_Consistent {lo hi : Nat} (v : Value) (a : Asn) (w : World) (h : AsnV w lo hi v a) (hhi : hi ≤ w.heap.size) :
    Calls Try.prog 30 #[v] w fun e w' => e = .returned (.bool (a.valid && !(cases a (caseS a 0)).isEmpty)) ∧ Below w.heap.size w w' := by
  have hV := Lib.hid h
  obtain ⟨A1, c1, A2, c2, rfl, -, -⟩ := h
  go_enter Try.func30, Try.ntmps30
  go_wp2_with fail
  refine (c_impl_AssertionValid _ a _ (hV.out.below bel)).mono ?_
  rintro e w1 ⟨rfl, hB1⟩
  have k0 : Blk w1 w.heap.size tAs #[.slice A1 a.facts.length c1, .slice A2 a.atoms.length c2] := Blk.next blks hB1
  have hB : Below w.heap.size w w1 := bgo (w := w) bel hB1
  have hz := hB1.size
  simp only [World.size_alloc] at hz
  clear hB1
  have q0 := k0.cell
  have l0 := k0.lt
  cases hv : a.valid
  · go_wp2_with fail
    go_ret
    exact ⟨ret_bool (by simp [hv]), hB⟩
  · have HV := Lib.hid hv
    go_wp2_with fail
    refine (c_impl_firstCase _ a _ (hV.out.below hB) (by omega) HV.out).mono ?_
    rintro e w2 ⟨rfl, hB2⟩
    go_wp2_with fail
    go_ret
    exact ⟨ret_bool (by simp [hv]), bbox (bgo hB hB2) _⟩
end Go.Proofs.Ytciabhddppdioaa

/- Cases and valuations: an assertion is consistent exactly if some valuation satisfies it; what tidying keeps. Plain; no program. -/
namespace Go.Proofs.Ytciabhddppdioaa
open Go

def fillM (M : Int → Int) (x : Atm) : Bool := decide (x.kind = 1) || !decide (M x.a = M x.b)
/-- the valuation M satisfies a -/
structure Sat (M : Int → Int) (a : Asn) : Prop where
  facts : ∀ f ∈ a.facts, decide (M f.a = M f.b) = f.eq
  nil : ∀ x ∈ a.atoms, fillM M x = true → M x.a ≠ M 0
  apart : ((a.atoms.filter (fillM M)).map fun x => M x.a).Nodup

theorem case_zero {a : Asn} {S : Nat} (hS : S.testBit 0 = true) {d : List Int} (h : d ∈ cases a S) : cl d 0 = 0 := by
  unfold cases at h
  have hd := (List.mem_filter.1 h).1
  have := ((gen_ok S 9 zeros d (by omega) rfl hd).2.2 0 (by omega) (by omega)).1 hS
  have h2 : cl d ((0 : Nat) : Int) = cl d 0 := rfl
  omega
theorem inLast_fillM {x : Atm} {c : List Int} (h : (0 ≤ x.a ∧ x.a ≤ 8) ∧ (0 ≤ x.b ∧ x.b ≤ 8)) : inLast c 8 x = fillM (cl c) x := by
  unfold inLast fillM Atm.fill
  rw [decide_eq_true h.1.2, decide_eq_true h.2.2]; rfl
theorem case_sat {a : Asn} (hv : a.valid = true) {S : Nat} (hS : S.testBit 0 = true) {d : List Int} (h : d ∈ cases a S) : Sat (cl d) a := by
  have h0 := case_zero hS h
  have hok := Asn.valid_ok hv
  unfold cases at h
  have hf := (List.mem_filter.1 h).2
  have hp := hf
  rw [full_poss hok.1 hok.2] at hp
  unfold poss at hp
  unfold full at hf
  rw [Bool.and_eq_true] at hf hp
  have hA := (possA_iff _ _ _ _).1 hp.2
  refine ⟨fun f hm => ?_, fun x hm hfi => ?_, ?_⟩
  · have := List.all_eq_true.1 hf.1 f hm
    unfold Fct.fits at this
    exact eq_of_beq this
  · rw [h0]
    exact (hA.1 x hm (by rw [inLast_fillM (hok.2 x hm)]; exact hfi)).1
  · rw [← List.filter_congr fun x hm => inLast_fillM (hok.2 x hm)]
    exact hA.2

/-- the least term of S with the value of j -/
def leastM (M : Int → Int) (S j : Nat) : Nat := ((List.range (j + 1)).find? fun k => S.testBit k && decide (M (k : Int) = M (j : Int))).getD j
def canon (M : Int → Int) (S : Nat) : List Int := (List.range 9).map fun j => if S.testBit j then ((leastM M S j : Nat) : Int) else -1
theorem least_spec {M : Int → Int} {S j : Nat} (hj : S.testBit j = true) : leastM M S j ≤ j ∧ S.testBit (leastM M S j) = true ∧ M (leastM M S j : Nat) = M j ∧ ∀ k, k < leastM M S j → S.testBit k = true → M (k : Nat) ≠ M j := by
  unfold leastM
  cases h : (List.range (j + 1)).find? fun k => S.testBit k && decide (M (k : Int) = M (j : Int)) with
  | none =>
    have := List.find?_eq_none.1 h j (by simp)
    simp [hj] at this
  | some k =>
    obtain ⟨h1, h2, h3⟩ := List.find?_range_eq_some.1 h
    simp only [Bool.and_eq_true, decide_eq_true_eq] at h1
    refine ⟨by have := List.mem_range.1 h2; simp only [Option.getD_some]; omega, h1.1, h1.2, fun i hi hb e => ?_⟩
    have := h3 i hi
    simp [hb, e] at this
theorem least_eq {M : Int → Int} {S i j : Nat} (hi : S.testBit i = true) (hj : S.testBit j = true) : leastM M S i = leastM M S j ↔ M (i : Nat) = M (j : Nat) := by
  have h1 := least_spec (M := M) hi
  have h2 := least_spec (M := M) hj
  constructor
  · intro e
    rw [← h1.2.2.1, e, h2.2.2.1]
  · intro e
    rcases Nat.lt_trichotomy (leastM M S i) (leastM M S j) with h | h | h
    · exact absurd (h1.2.2.1.trans e) (h2.2.2.2 _ h h1.2.1)
    · exact h
    · exact absurd (h2.2.2.1.trans e.symm) (h1.2.2.2 _ h h2.2.1)
theorem canon_length (M : Int → Int) (S : Nat) : (canon M S).length = 9 := by simp [canon]
theorem cl_canon {M : Int → Int} {S j : Nat} (hj : j < 9) : cl (canon M S) (j : Int) = if S.testBit j then ((leastM M S j : Nat) : Int) else -1 := by
  unfold cl canon
  rw [Int.toNat_natCast, List.getElem?_map, List.getElem?_range hj]; rfl
theorem canon_gen (M : Int → Int) (S : Nat) : ∀ (n : Nat) (c : List Int), n ≤ 9 → c.length = 9 → (∀ j : Nat, j < 9 - n → cl c j = cl (canon M S) j) → canon M S ∈ gen S n c := by
  intro n
  induction n with
  | zero =>
    intro c _ hc h
    unfold gen
    rw [List.mem_singleton]
    apply List.ext_getElem (by rw [hc]; exact canon_length M S)
    intro j h1 h2
    have := h j (by omega)
    simpa [cl, List.getElem?_eq_getElem h1, List.getElem?_eq_getElem h2] using this.symm
  | succ n ih =>
    intro c hn hc h
    unfold gen
    cases e : S.testBit (8 - n)
    · simp only [Bool.false_eq_true, if_false]
      refine ih _ (by omega) (by simpa using hc) fun j hj => ?_
      rw [cl_set hc (by omega) _ (by omega)]
      split
      · rename_i hj'
        have : j = 8 - n := by omega
        subst this
        rw [cl_canon (by omega), e]; rfl
      · exact h j (by omega)
    · rw [if_pos rfl, List.mem_flatMap]
      have hl := least_spec (M := M) e
      refine ⟨leastM M S (8 - n), by rw [List.mem_range]; omega, ?_⟩
      rw [if_neg]
      · refine ih _ (by omega) (by simpa using hc) fun j hj => ?_
        rw [cl_set hc (by omega) _ (by omega)]
        split
        · rename_i hj'
          have : j = 8 - n := by omega
          subst this
          rw [cl_canon (by omega), e]; rfl
        · exact h j (by omega)
      · rintro ⟨hlt, hne⟩
        apply hne
        rw [h _ (by omega), cl_canon (by omega), hl.2.1, if_pos rfl]
        congr 1
        exact (least_eq hl.2.1 e).2 hl.2.2.1
theorem cl_canon_eq {M : Int → Int} {S : Nat} {s t : Int} (hs : (0 ≤ s ∧ s ≤ 8) ∧ S.testBit s.toNat = true) (ht : (0 ≤ t ∧ t ≤ 8) ∧ S.testBit t.toNat = true) : cl (canon M S) s = cl (canon M S) t ↔ M s = M t := by
  obtain ⟨i, rfl⟩ := Int.eq_ofNat_of_zero_le hs.1.1
  obtain ⟨j, rfl⟩ := Int.eq_ofNat_of_zero_le ht.1.1
  rw [Int.toNat_natCast] at hs ht
  rw [cl_canon (by omega), cl_canon (by omega), hs.2, ht.2, if_pos rfl, if_pos rfl, Int.natCast_inj]
  exact least_eq hs.2 ht.2
theorem sat_case {a : Asn} (hv : a.valid = true) {S : Nat} (h0 : S.testBit 0 = true) (hS : ∀ t ∈ termsL a, S.testBit t.toNat = true) {M : Int → Int} (h : Sat M a) : canon M S ∈ cases a S := by
  have hok := Asn.valid_ok hv
  have hF : ∀ f ∈ a.facts, S.testBit f.a.toNat = true ∧ S.testBit f.b.toNat = true := fun f hf => ⟨hS _ (termsL_facts hf).1, hS _ (termsL_facts hf).2⟩
  have hX : ∀ x ∈ a.atoms, S.testBit x.a.toNat = true ∧ S.testBit x.b.toNat = true := fun x hx => by
    have : x.a ∈ termsL a ∧ x.b ∈ termsL a := by
      simp only [termsL, List.mem_append, List.mem_flatMap]
      exact ⟨Or.inr ⟨x, hx, by simp [atomT]⟩, Or.inr ⟨x, hx, by simp [atomT]⟩⟩
    exact ⟨hS _ this.1, hS _ this.2⟩
  have hfill : ∀ x ∈ a.atoms, inLast (canon M S) 8 x = fillM M x := fun x hx => by
    rw [inLast_fillM (hok.2 x hx)]
    unfold fillM
    congr 2
    rw [decide_eq_decide]
    exact cl_canon_eq ⟨(hok.2 x hx).1, (hX x hx).1⟩ ⟨(hok.2 x hx).2, (hX x hx).2⟩
  unfold cases
  rw [List.mem_filter]
  refine ⟨canon_gen M S 9 zeros (by omega) rfl (fun j hj => by omega), ?_⟩
  rw [full_poss hok.1 hok.2]
  unfold poss
  rw [Bool.and_eq_true]
  constructor
  · unfold possF
    rw [List.all_eq_true]
    intro f hf
    have : f.fits (canon M S) = true := by
      unfold Fct.fits
      rw [beq_iff_eq, ← h.facts f hf, decide_eq_decide]
      exact cl_canon_eq ⟨(hok.1 f hf).1, (hF f hf).1⟩ ⟨(hok.1 f hf).2, (hF f hf).2⟩
    rw [this]; simp
  · rw [possA_iff]
    refine ⟨fun x hx hi => ⟨fun e => ?_, by simp⟩, ?_⟩
    · rw [hfill x hx] at hi
      refine h.nil x hx hi ((cl_canon_eq (S := S) (t := 0) ⟨(hok.2 x hx).1, (hX x hx).1⟩ ⟨⟨by omega, by omega⟩, h0⟩).1 ?_)
      rw [e]
      have := cl_canon (M := M) (S := S) (j := 0) (by omega)
      rw [h0, if_pos rfl] at this
      have hl := (least_spec (M := M) h0).1
      have h3 : leastM M S 0 = 0 := by omega
      rw [h3] at this
      exact this.symm
    · rw [List.filter_congr hfill]
      have h3 := h.apart
      unfold List.Nodup at h3 ⊢
      rw [List.pairwise_map] at h3 ⊢
      refine List.Pairwise.imp_of_mem ?_ h3
      intro x y hx hy hxy e
      have hx' := (List.mem_filter.1 hx).1
      have hy' := (List.mem_filter.1 hy).1
      exact hxy ((cl_canon_eq ⟨(hok.2 x hx').1, (hX x hx').1⟩ ⟨(hok.2 y hy').1, (hX y hy').1⟩).1 e)
/-- an assertion is consistent exactly if some valuation satisfies it -/
def consB (a : Asn) : Bool := a.valid && !(cases a (caseS a 0)).isEmpty
theorem consB_iff {a : Asn} : consB a = true ↔ a.valid = true ∧ ∃ M, Sat M a := by
  unfold consB
  rw [Bool.and_eq_true]
  constructor
  · rintro ⟨hv, h⟩
    refine ⟨hv, ?_⟩
    cases e : cases a (caseS a 0) with
    | nil => rw [e] at h; cases h
    | cons d ds => exact ⟨cl d, case_sat hv (caseS_zero a 0) (by rw [e]; exact List.mem_cons_self)⟩
  · rintro ⟨hv, M, h⟩
    refine ⟨hv, ?_⟩
    have := sat_case hv (caseS_zero a 0) (caseS_terms hv 0) h
    cases e : cases a (caseS a 0) with
    | nil => rw [e] at this; cases this
    | cons d ds => rfl

/-! tidying -/
theorem swp_val {M : Int → Int} {x t : Int} (h : M x = M t) (s : Int) : M (swp x t s) = M s := by
  unfold swp; split
  · rename_i e; rw [e, h]
  · rfl
theorem Sat.subst {M : Int → Int} {a : Asn} (h : Sat M a) {x t : Int} (e : M x = M t) : Sat M (substA x t a) := by
  have hfill : ∀ z : Atm, fillM M (z.sub x t) = fillM M z := fun z => by
    unfold fillM Atm.sub
    simp only [swp_val e]
  refine ⟨fun f hf => ?_, fun y hy hfi => ?_, ?_⟩
  · obtain ⟨g, hg, rfl⟩ := List.mem_map.1 hf
    simp only [Fct.sub, swp_val e]
    exact h.facts g hg
  · obtain ⟨z, hz, rfl⟩ := List.mem_map.1 hy
    rw [hfill] at hfi
    simp only [Atm.sub, swp_val e]
    exact h.nil z hz hfi
  · have h3 := h.apart
    simp only [substA, List.filter_map, List.map_map]
    rw [List.filter_congr (q := fillM M) fun z _ => by simp [hfill]]
    have e2 : ((fun y : Atm => M y.a) ∘ Atm.sub x t) = fun y : Atm => M y.a := by
      funext z; simp only [Function.comp, Atm.sub, swp_val e]
    rw [e2]; exact h3
theorem Sat.less {M : Int → Int} {a : Asn} (h : Sat M a) {fs : List Fct} {xs : List Atm} (hf : ∀ f ∈ fs, f ∈ a.facts) (hx : xs.Sublist a.atoms) : Sat M ⟨fs, xs⟩ :=
  ⟨fun f hm => h.facts f (hf f hm), fun x hm => h.nil x (hx.subset hm), h.apart.sublist ((hx.filter _).map _)⟩
theorem subOf_fact {K : Nat} {f : Fct} {x t : Int} (h : subOf K f = some (x, t)) : f.eq = true := by
  unfold subOf at h
  split at h
  · rename_i hc; simp at hc; exact hc.1
  · cases h
theorem Sat.subAll {M : Int → Int} {K : Nat} : ∀ (n : Nat) (a : Asn), (left K a).length ≤ n → Sat M a → Sat M (subAll K a) := by
  intro n
  induction n with
  | zero =>
    intro a hn hv
    cases h : subStep K a.facts with
    | none => rw [subAll_none h]; exact hv
    | some p => obtain ⟨x, t⟩ := p; have := left_lt h; omega
  | succ n ih =>
    intro a hn hv
    cases h : subStep K a.facts with
    | none => rw [subAll_none h]; exact hv
    | some p =>
      obtain ⟨x, t⟩ := p
      rw [subAll_some h]
      refine ih _ (by have := left_lt h; omega) (hv.subst ?_)
      obtain ⟨f, hf, hs⟩ := List.exists_of_findSome?_eq_some h
      have h1 := hv.facts f hf
      rw [subOf_fact hs, decide_eq_true_eq] at h1
      rcases (subOf_spec hs).2.2 with ⟨e1, e2⟩ | ⟨e1, e2⟩ <;> rw [e1, e2]
      · exact h1
      · exact h1.symm
theorem nfold_mem (fs : List Fct) : ∀ (acc : List Fct) (g : Fct), g ∈ fs.foldl nfStep acc → g ∈ acc ∨ ∃ f ∈ fs, g = nfF f := by
  induction fs with
  | nil => intro acc g h; exact Or.inl h
  | cons f fs ih =>
    intro acc g h
    rw [List.foldl_cons] at h
    rcases ih _ _ h with h | ⟨f', hf', e⟩
    · unfold nfStep at h
      split at h
      · exact Or.inl h
      · split at h
        · exact Or.inl h
        · rcases List.mem_append.1 h with h | h
          · exact Or.inl h
          · exact Or.inr ⟨f, List.mem_cons_self, List.mem_singleton.1 h⟩
    · exact Or.inr ⟨f', List.mem_cons_of_mem _ hf', e⟩
theorem nfold_length (fs : List Fct) : ∀ (acc : List Fct), (fs.foldl nfStep acc).length ≤ acc.length + fs.length := by
  induction fs with
  | nil => intro acc; simp
  | cons f fs ih =>
    intro acc
    rw [List.foldl_cons]
    have h1 := ih (nfStep acc f)
    have h2 := nfStep_length acc f
    simp only [List.length_cons]
    omega
theorem Sat.normal {M : Int → Int} {a : Asn} (h : Sat M a) : Sat M (normalF a) := by
  have hs := h.less (fs := []) (xs := a.atoms.filter nfA) (fun _ hf => by cases hf) List.filter_sublist
  refine ⟨fun g hg => ?_, hs.nil, hs.apart⟩
  rcases nfold_mem _ _ _ hg with h1 | ⟨f, hf, rfl⟩
  · cases h1
  · have := h.facts f hf
    unfold nfF
    split
    · simp only []
      rw [← this, decide_eq_decide]
      exact eq_comm
    · exact this
theorem normal_valid {a : Asn} (h : a.valid = true) : (normalF a).valid = true := by
  simp only [Asn.valid, factsValid, Bool.and_eq_true, decide_eq_true_eq, List.all_eq_true] at h ⊢
  refine ⟨⟨?_, fun g hg => ?_⟩, ?_, fun x hx => ?_⟩
  · have := nfold_length a.facts []
    simp only [normalF, List.length_nil] at this ⊢
    omega
  · rcases nfold_mem _ _ _ hg with h1 | ⟨f, hf, rfl⟩
    · cases h1
    · have := h.1.2 f hf
      simp only [Fct.valid, Bool.and_eq_true] at this ⊢
      unfold nfF
      split
      · exact ⟨this.2, this.1⟩
      · exact this
  · have := List.length_filter_le nfA a.atoms
    simp only [normalF]
    omega
  · exact h.2.2 x (List.mem_filter.1 hx).1
theorem keepF_valid {a : Asn} (p : Fct → Bool) (h : a.valid = true) : (⟨a.facts.filter p, a.atoms⟩ : Asn).valid = true := by
  simp only [Asn.valid, factsValid, Bool.and_eq_true, decide_eq_true_eq, List.all_eq_true] at h ⊢
  exact ⟨⟨Nat.le_trans (List.length_filter_le _ _) h.1.1, fun f hf => h.1.2 f (List.mem_filter.1 hf).1⟩, h.2⟩
theorem tidy_valid {K : Nat} {a : Asn} (h : a.valid = true) : (tidyF K a).valid = true := normal_valid (keepF_valid _ (subAll_valid _ a (Nat.le_refl _) h))
theorem tidy_sat {K : Nat} {M : Int → Int} {a : Asn} (h : Sat M a) : Sat M (tidyF K a) :=
  Sat.normal ((Sat.subAll _ a (Nat.le_refl _) h).less (fun f hf => (List.mem_filter.1 hf).1) (List.Sublist.refl _))
theorem tidy_cons {K : Nat} {a : Asn} (h : consB a = true) : consB (tidyF K a) = true := by
  obtain ⟨hv, M, hM⟩ := consB_iff.1 h
  exact consB_iff.2 ⟨tidy_valid hv, M, tidy_sat hM⟩
/-- nothing goes where all is kept -/
theorem tidy_all {K : Nat} {a : Asn} (hv : a.valid = true) (hK : ∀ n, 5 ≤ n → n ≤ 8 → K.testBit n = true) : tidyF K a = normalF a := by
  have hfree : ∀ t : Int, free K t = false := fun t => by
    unfold free logB
    by_cases h : 4 < t ∧ t ≤ 8
    · rw [hK t.toNat (by omega) (by omega)]; simp
    · rw [decide_eq_false h]; rfl
  have hsub : subStep K a.facts = none := by
    unfold subStep
    rw [List.findSome?_eq_none_iff]
    intro f _
    unfold subOf
    rw [hfree, hfree]; simp
  unfold tidyF
  rw [subAll_none hsub]
  have hfil : a.facts.filter (okFact (K ||| tset (termsL ⟨[], a.atoms⟩))) = a.facts := by
    rw [List.filter_eq_self]
    intro f hf
    have hok := (Asn.valid_ok hv).1 f hf
    have key : ∀ t : Int, (0 ≤ t ∧ t ≤ 8) → okTerm (K ||| tset (termsL ⟨[], a.atoms⟩)) t = true := fun t ht => by
      unfold okTerm
      by_cases h : t ≤ 4
      · rw [decide_eq_true h]; rfl
      · rw [Nat.testBit_or, hK t.toNat (by omega) (by omega)]; simp
    unfold okFact
    rw [key _ hok.1, key _ hok.2]; rfl
  show normalF ⟨a.facts.filter (okFact (K ||| tset (termsL ⟨[], a.atoms⟩))), a.atoms⟩ = normalF a
  rw [hfil]
end Go.Proofs.Ytciabhddppdioaa
