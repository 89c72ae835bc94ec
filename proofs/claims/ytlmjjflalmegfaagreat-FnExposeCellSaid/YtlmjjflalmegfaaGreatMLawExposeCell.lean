/- Reading an assertion out of a list of our own; comparing lists of assertions (the law's slAssertions). -/
import Derived.Test.YtlmjjflalmegfaaGreatExpD
import Derived.Test.YtlmjjflalmegfaaGreatSame
import Derived.Test.YtlmjjflalmegfaaGreatMTryP
import Derived.Test.YtlmjjflalmegfaaGreatMStSame
import Derived.Test.YtlmjjflalmegfaaGreatMDrawExp
import Derived.Test.YtlmjjflalmegfaaGreatMExpL
import Derived.Test.YtlmjjflalmegfaaGreatMModO
set_option linter.unusedSimpArgs false
set_option linter.unusedVariables false
namespace Go.Proofs.YtlmjjflalmegfaaGreat
open Go Go.RowKit Go.Proofs
attribute [local go_sem ↓] Go.wp_at_zero Go.wp_at_succ

theorem AsnV.mono0 {w : World} {lo hi : Nat} {v : Value} {a : Asn} (h : AsnV w lo hi v a) (hh : hi ≤ w.heap.size) : AsnV w 0 w.heap.size v a := by
  obtain ⟨A1, c1, A2, c2, e, h1, h2⟩ := h
  exact ⟨A1, c1, A2, c2, e, h1.mono (Nat.zero_le _) hh, h2.mono (Nat.zero_le _) hh⟩
theorem A2O.atC {w : World} {base n c : Nat} {A : Option Addr} {vs : List Value} {ss : List Asn} (h : A2O w base (.slice A n c) vs ss) {k : Nat} (hk : k < ss.length) : ∃ b o B c D d, A = some ⟨b, o, none⟩ ∧ b < w.heap.size ∧ w.cell? ⟨b, o + k*2, none⟩ = some (.slice B ss[k].facts.length c) ∧ w.cell? ⟨b, o + k*2 + 1, none⟩ = some (.slice D ss[k].atoms.length d) ∧ AsnC w base w.heap.size (.agg #[.slice B ss[k].facts.length c, .slice D ss[k].atoms.length d]) ss[k] := by
  have h1 := h.rd
  have hl : vs.length = ss.length * 2 := h1.raw.1
  have hr := rowsA_len ss
  obtain ⟨b, o, e, -, -, hc⟩ := h1.raw.form (by omega)
  obtain ⟨g1, g2⟩ := rowsA_get ss k hk
  have r1 := h.els.at_ (k*2) (by omega) (by omega)
  have r2 := h.els.at_ (k*2+1) (by omega) (by omega)
  have x1 : (rowsA ss)[k*2]'(by omega) = .inl ss[k].facts := by rw [List.getElem?_eq_getElem (by omega)] at g1; exact Option.some.inj g1
  have x2 : (rowsA ss)[k*2+1]'(by omega) = .inr ss[k].atoms := by rw [List.getElem?_eq_getElem (by omega)] at g2; exact Option.some.inj g2
  rw [x1] at r1
  rw [x2] at r2
  have c1 := hc (k*2) _ (List.getElem?_eq_getElem (by omega))
  have c2 := hc (k*2+1) _ (List.getElem?_eq_getElem (by omega))
  have r1 : FactsO w base vs[k*2] ss[k].facts := r1
  have r2 : AtomsO w base vs[k*2+1] ss[k].atoms := r2
  obtain ⟨B, c, e1, -⟩ := r1.reads
  obtain ⟨D, d, e2, -⟩ := r2.reads
  rw [e1] at c1 r1
  rw [e2] at c2 r2
  exact ⟨b, o, B, c, D, d, e, block_lt_of_cell c1, c1, c2, AsnO.C ⟨_, _, rfl, r1, r2⟩⟩
--@ impl.AssertionSame
theorem c_impl_SameT {lo hi lo' hi' : Nat} (v v' : Value) (a : Asn) (w : World) (h : AsnV w lo hi v a) (h' : AsnV w lo' hi' v' a) : Calls Tryz.prog 60 #[v, v'] w fun e w' => e = .returned (.bool true) ∧ Below w.heap.size w w' := by
  refine (c_impl_Same v v' a a w h h').mono ?_
  rintro e w' ⟨rfl, hB⟩
  exact ⟨by simp, hB⟩
--@ laws.slAssertions
set_option maxRecDepth 100000 in
set_option maxHeartbeats 1600000 in
theorem t_slAsns {lo hi lo' hi' : Nat} (A A' : Option Addr) (c c' : Nat) (x : List Asn) (w : World) (h : AsnsV w lo hi A x) (h' : AsnsV w lo' hi' A' x) : Calls Tryz.prog 12 #[.slice A x.length c, .slice A' x.length c'] w fun e w' => e = .returned (.bool true) ∧ Below w.heap.size w w' := by
  have hl : x.length ≤ 1049600 := by obtain ⟨vs, h1, -⟩ := h; exact h1.lim
  have H := Lib.hid h
  have H' := Lib.hid h'
  clear h h'
  go_enter Tryz.func12, Tryz.ntmps12
  go_wp2_with fail
  go_loopw [5] (fun i wr => ∃ k : Nat, k ≤ x.length ∧ i = .int .i64 k ∧ Hid (Below w.heap.size w wr)) (fun i _ => x.length - (intOf i).toNat)
  case atStart => exact ⟨0, Nat.zero_le _, rfl, Lib.hid (Below.refl _ _)⟩
  case round =>
    obtain ⟨k, hk, rfl, HB⟩ := hrel
    by_cases hlt : k < x.length
    · obtain ⟨b, o, R, d, R2, d2, rfl, lb, g0, g1, v0, v1⟩ := (H.out.below HB.out).at hlt
      obtain ⟨b', o', R', d', R2', d2', rfl, lb', g0', g1', v0', v1'⟩ := (H'.out.below HB.out).at hlt
      have hkx : (k : Int) < (x.length : Int) := by omega
      have S1 : Hid (AsnV wr lo hi (.agg #[.slice R x[k].facts.length d, .slice R2 x[k].atoms.length d2]) x[k]) := Lib.hid ⟨_, _, _, _, rfl, v0, v1⟩
      have S2 : Hid (AsnV wr lo' hi' (.agg #[.slice R' x[k].facts.length d', .slice R2' x[k].atoms.length d2']) x[k]) := Lib.hid ⟨_, _, _, _, rfl, v0', v1'⟩
      clear v0 v1 v0' v1'
      obtain ⟨s, hs⟩ : ∃ s, s = x[k] := ⟨_, rfl⟩
      rw [← hs] at g0 g1 g0' g1' S1 S2
      clear hs
      go_wp2_with fail
      refine wp_region_noPanic ?_
      refine wp_region_held_drew (S := (fun w' => (w'.cell? ⟨b, o + k*2, none⟩ = some (.slice R s.facts.length d) ∧ w'.cell? ⟨b, o + k*2 + 1, none⟩ = some (.slice R2 s.atoms.length d2)) ∧ w'.cell? ⟨b', o' + k*2, none⟩ = some (.slice R' s.facts.length d') ∧ w'.cell? ⟨b', o' + k*2 + 1, none⟩ = some (.slice R2' s.atoms.length d2'))) (by kernel_rfl) (⟨⟨g0, g1⟩, g0', g1'⟩) (fun hHeld => ?_)
      refine wpAnyH_take (i := 0) (v := ?_) rfl (by kernel_rfl) (by kernel_rfl) (by kernel_rfl) (fun _ _ _ h => h) (Or.inl ⟨by rfl, fun w hSw => ?_⟩) hHeld ?_
      rotate_left
      · ((try dsimp only at hSw); go_split_ands; go_simp; (try with_reducible rfl))
      try simp only [Act.put, List.getElem_toArray, List.getElem_cons_zero, List.getElem_cons_succ, List.setIfInBounds_toArray, List.set_cons_zero, List.set_cons_succ]
      refine wpAnyH_take (i := 1) (v := ?_) rfl (by kernel_rfl) (by kernel_rfl) (by kernel_rfl) (fun _ _ _ h => h) (Or.inl ⟨by rfl, fun w hSw => ?_⟩) hHeld ?_
      rotate_left
      · ((try dsimp only at hSw); go_split_ands; go_simp; (try with_reducible rfl))
      try simp only [Act.put, List.getElem_toArray, List.getElem_cons_zero, List.getElem_cons_succ, List.setIfInBounds_toArray, List.set_cons_zero, List.set_cons_succ]
      refine wpAnyH_take (i := 2) (v := ?_) rfl (by kernel_rfl) (by kernel_rfl) (by kernel_rfl) (fun _ _ _ h => h) (Or.inl ⟨by rfl, fun w hSw => ?_⟩) hHeld ?_
      rotate_left
      · ((try dsimp only at hSw); go_split_ands; go_simp; (try with_reducible rfl))
      try simp only [Act.put, List.getElem_toArray, List.getElem_cons_zero, List.getElem_cons_succ, List.setIfInBounds_toArray, List.set_cons_zero, List.set_cons_succ]
      refine wpAnyH_take (i := 3) (v := ?_) rfl (by kernel_rfl) (by kernel_rfl) (by kernel_rfl) (fun _ _ _ h => h) (Or.inl ⟨by rfl, fun w hSw => ?_⟩) hHeld ?_
      rotate_left
      · ((try dsimp only at hSw); go_split_ands; go_simp; (try with_reducible rfl))
      try simp only [Act.put, List.getElem_toArray, List.getElem_cons_zero, List.getElem_cons_succ, List.setIfInBounds_toArray, List.set_cons_zero, List.set_cons_succ]
      refine wpAnyH_take (i := 4) (v := ?_) rfl (by kernel_rfl) (by kernel_rfl) (by kernel_rfl) (fun _ _ _ h => h) (Or.inl ⟨by rfl, fun w hSw => ?_⟩) hHeld ?_
      rotate_left
      · ((try dsimp only at hSw); go_split_ands; go_simp; (try with_reducible rfl))
      try simp only [Act.put, List.getElem_toArray, List.getElem_cons_zero, List.getElem_cons_succ, List.setIfInBounds_toArray, List.set_cons_zero, List.set_cons_succ]
      refine wpAnyH_take (i := 5) (v := ?_) rfl (by kernel_rfl) (by kernel_rfl) (by kernel_rfl) (fun _ _ _ h => h) (Or.inl ⟨by rfl, fun w hSw => ?_⟩) hHeld ?_
      rotate_left
      · ((try dsimp only at hSw); go_split_ands; go_simp; (try with_reducible rfl))
      try simp only [Act.put, List.getElem_toArray, List.getElem_cons_zero, List.getElem_cons_succ, List.setIfInBounds_toArray, List.set_cons_zero, List.set_cons_succ]
      refine wpAnyH_take (i := 6) (v := ?_) rfl (by kernel_rfl) (by kernel_rfl) (by kernel_rfl) (fun _ _ _ h => h) (Or.inl ⟨by rfl, fun w hSw => ?_⟩) hHeld ?_
      rotate_left
      · ((try dsimp only at hSw); go_split_ands; go_simp; (try with_reducible rfl))
      try simp only [Act.put, List.getElem_toArray, List.getElem_cons_zero, List.getElem_cons_succ, List.setIfInBounds_toArray, List.set_cons_zero, List.set_cons_succ]
      refine wpAnyH_take (i := 7) (v := ?_) rfl (by kernel_rfl) (by kernel_rfl) (by kernel_rfl) (fun _ _ _ h => h) (Or.inl ⟨by rfl, fun w hSw => ?_⟩) hHeld ?_
      rotate_left
      · ((try dsimp only at hSw); go_split_ands; go_simp; (try with_reducible rfl))
      try simp only [Act.put, List.getElem_toArray, List.getElem_cons_zero, List.getElem_cons_succ, List.setIfInBounds_toArray, List.set_cons_zero, List.set_cons_succ]
      refine wpAnyH_ready (rs := [8]) (by kernel_rfl) (by simp) ?_
      refine AllReadyH.cons rfl (fun K hK => ?_) AllReadyH.nil
      try simp only [List.getElem_toArray, List.getElem_cons_zero, List.getElem_cons_succ]
      (go_simp; refine (c_impl_SameT _ _ s _ (S1.out.below (Below.refl _ _).drew) (S2.out.below (Below.refl _ _).drew)).mono ?_; rintro e w1 ⟨rfl, hB1⟩; have hS : Below wr.heap.size wr w1 := (Below.refl _ _).drew.trans hB1)
      refine hK.out _ _ (⟨⟨(hS.cell (p := ⟨b, o + k*2, none⟩) lb).trans g0, (hS.cell (p := ⟨b, o + k*2 + 1, none⟩) lb).trans g1⟩, (hS.cell (p := ⟨b', o' + k*2, none⟩) lb').trans g0', (hS.cell (p := ⟨b', o' + k*2 + 1, none⟩) lb').trans g1'⟩) (fun hHeldN => ?_)
      clear hHeld hK K
      have hHeld := hHeldN
      clear hHeldN
      try simp only [Act.put, List.getElem_toArray, List.getElem_cons_zero, List.getElem_cons_succ, List.setIfInBounds_toArray, List.set_cons_zero, List.set_cons_succ]
      refine wpAnyH_take (i := 9) (v := ?_) rfl (by kernel_rfl) (by kernel_rfl) (by kernel_rfl) (fun _ _ _ h => h) (Or.inl ⟨by rfl, fun w hSw => ?_⟩) hHeld ?_
      rotate_left
      · ((try dsimp only at hSw); go_split_ands; go_simp; (try with_reducible rfl))
      try simp only [Act.put, List.getElem_toArray, List.getElem_cons_zero, List.getElem_cons_succ, List.setIfInBounds_toArray, List.set_cons_zero, List.set_cons_succ]
      refine wpAnyH_done (by kernel_rfl) ?_ _
      refine NoPanic.normal ?_
      have HB2 := Lib.hid (bgo HB.out hS)
      go_wp2_with fail
      go_round
      case rel => exact ⟨k + 1, by omega, by go_num, HB2⟩
      case measure => simp [intOf]; omega
    · obtain rfl : k = x.length := by omega
      go_wp2_with fail
      go_ret
      exact ⟨rfl, HB.out⟩
--@
end Go.Proofs.YtlmjjflalmegfaaGreat

/- The law's search for values of new variables: impl.SetTerm, slTry, slUsed, slSome. -/
namespace Go.Proofs.YtlmjjflalmegfaaGreat
open Go Go.RowKit Go.Proofs
attribute [local go_sem ↓] Go.wp_at_zero Go.wp_at_succ

--@ impl.SetTerm
set_option maxRecDepth 100000 in
set_option maxHeartbeats 1600000 in
theorem c_impl_SetTerm {lo hi : Nat} (v : Value) (s : Ste) (n : Nat) (u : Int) (w : World) (h : StateV w lo hi v s) (hs : s.valid = true) (hn : n < 8) (hu : valB u = true) :
    Calls Tryz.prog 138 #[v, .int .i64 ((n : Int) + 1), .int .i64 u] w fun e w' => ∃ r, e = .returned (.tuple #[r, .bool true]) ∧ StateO w' w.heap.size r (setS s ((n : Int) + 1) u) ∧ Below w.heap.size w w' := by
  have hV := Lib.hid h
  obtain ⟨A1, c1, A2, c2, rfl, -, -⟩ := h
  have H8 := Lib.hid (Ste.valid_len hs)
  have HS := Lib.hid hs
  have HU := Lib.hid hu
  have HT : Hid (isTermB ((n : Int) + 1) = true) := Lib.hid (isTermB_iff.2 (by omega))
  have ES : Hid (setS s ((n : Int) + 1) u = ⟨s.values.set n u, s.heap⟩) := Lib.hid (by unfold setS; rw [show ((n : Int) + 1 - 1).toNat = n by omega])
  clear hs hu
  have hn0 : ((n : Int) + 1 == 0) = false := beq_false_of_ne (by omega)
  go_enter Tryz.func138, Tryz.ntmps138
  obtain ⟨k0, k1⟩ := blk2 w tSt tSt #[.slice A1 s.values.length c1, .slice A2 s.heap.length c2] #[.slice none 0 0, .slice none 0 0]
  go_wp2_with fail
  refine (c_impl_StateValid _ s _ (hV.out.below bel)).mono ?_
  rintro e w1 ⟨rfl, hB1⟩
  rw [HS.out]
  have hB := bgo (w := w) bel hB1
  (replace k0 := k0.next hB1; replace qk0 := k0.cell; replace rk0 := k0.frozen; replace lk0 := k0.lt; replace k1 := k1.next hB1; replace qk1 := k1.cell; replace rk1 := k1.frozen; replace lk1 := k1.lt)
  clear hB1
  go_wp2_with fail
  refine (c_impl_isTerm ((n : Int) + 1) _).mono ?_
  rintro e w2 ⟨rfl, rfl⟩
  rw [HT.out]
  go_wp2_with fail
  refine (c_impl_isValue u _).mono ?_
  rintro e w3 ⟨rfl, rfl⟩
  rw [HU.out]
  go_wp2_with fail
  refine (c_impl_copyState _ s _ (hV.out.below hB)).mono ?_
  rintro e w4 ⟨r, rfl, o, hB4⟩
  have hz := hB.size
  (replace hB := bgo hB hB4; replace k0 := k0.next hB4; replace qk0 := k0.cell; replace rk0 := k0.frozen; replace lk0 := k0.lt; replace k1 := k1.next hB4; replace qk1 := k1.cell; replace rk1 := k1.frozen; replace lk1 := k1.lt)
  clear hB4
  obtain ⟨fv, av, rfl, o1, o2, dj⟩ := o
  obtain ⟨F, e1, rfl, -⟩ := o1.reads
  obtain ⟨G, e2, rfl, -⟩ := o2.reads
  have hnl : (n : Int) < (s.values.length : Int) := by have := H8.out.1; omega
  have hn8 : (n : Int) < 8 := by omega
  have hw1 : IntKind.i64.wrap ((n : Int) + 1 - 1) = (n : Int) := by rw [show (n : Int) + 1 - 1 = n by omega]; exact IntWalk.i64_in _ (by omega)
  obtain ⟨g, cur, -, rfl, hg, kg, hc, hset⟩ := (o1.lower (base' := w.heap.size) hz).cell_ (k := n) (by omega)
  have q := kg.cell n
  rw [hc] at q
  obtain ⟨y, hy⟩ : ∃ y, y = s.values[n]'(by omega) := ⟨_, rfl⟩
  rw [← hy] at q
  have f := kg.frozen n
  have hgl := kg.lt
  have HSET := Lib.hid (hset u)
  have O2 := Lib.hid (o2.lower (base' := w.heap.size) hz)
  have HD := Lib.hid dj
  have hne : w.heap.size + 1 ≠ g := k1.ne_ kg (by decide)
  clear hset o1 o2 dj hc hy
  go_wp2_with fail
  have k6 := k1.far (p := ⟨g, n, none⟩) hne (.int .i64 u)
  refine bodyPost_ret (v := .tuple #[.agg #[.slice (some ⟨g, 0, none⟩) s.values.length e1, .slice G s.heap.length e2], .bool true]) (by simp [results, Tryz.results138, go_sem, qk1, lk1]) rfl ⟨_, rfl, ?_, ?_⟩
  · rw [ES.out]
    refine ⟨_, _, rfl, ?_, ?_, HD.out⟩
    · exact ((HSET.out.setT k6 (by decide) 0 _).setT (k6.set_ 0 _) (by decide) 1 _).below (bbox (Below.refl _ _) _)
    · exact (((O2.out.set_ne (q := ⟨g, n, none⟩) (HD.out g rfl) (.int .i64 u)).setT k6 (by decide) 0 _).setT (k6.set_ 0 _) (by decide) 1 _).below (bbox (Below.refl _ _) _)
  · exact bbox (((hB.setCell (p := ⟨g, n, none⟩) hg _).setCell (p := ⟨w.heap.size + 1, 0, none⟩) (by simp only; omega) _).setCell (p := ⟨w.heap.size + 1, 1, none⟩) (by simp only; omega) _) _
--@ laws.slUsed
set_option maxRecDepth 100000 in
set_option maxHeartbeats 1600000 in
theorem c_slUsed {lo hi lo' hi' : Nat} (v : Value) (a : Asn) (A : Option Addr) (c : Nat) (ks : List Int) (w : World) (h : AsnV w lo hi v a) (h' : IntsV w lo' hi' A ks) (hl : ks.length ≤ 1000) :
    Calls Tryz.prog 16 #[v, .slice A ks.length c] w fun e w' => ∃ r, e = .returned r ∧ IntsO w' w.heap.size r (atermsL a ++ ks) ∧ Below w.heap.size w w' := by
  have hV := Lib.hid h
  have HK := Lib.hid h'
  obtain ⟨A1, c1, A2, c2, rfl, -, -⟩ := h
  clear h'
  go_enter Tryz.func16, Tryz.ntmps16
  go_wp2_with fail
  refine (c_impl_AssertionTerms _ a _ (hV.out.below bel)).mono ?_
  rintro e w1 ⟨r, rfl, oT, hB1⟩
  have hB := bgo (w := w) bel hB1
  have kE : Blk ((w.alloc (.cells #[.slice A1 a.facts.length c1, .slice A2 a.atoms.length c2] tAs)).alloc (.cells #[] tI)) (w.heap.size + 1) tI #[] := blks
  replace kE := kE.next hB1
  have hz := hB1.size
  simp only [World.size_alloc] at hz
  obtain ⟨T, ct, rfl, fT⟩ := oT.reads
  clear hB1 oT
  have hTl9 : (atermsL a).length ≤ 1000 := atermsL_len a
  go_wp2_with (at_builtin; first
    | (refine appIL (base := w.heap.size) (xs := []) (ys := atermsL a) rfl _ _ rfl rfl (⟨own_ofBlk kE (by omega), by simp [Lim]⟩ : IntsO _ w.heap.size (.slice (some ⟨w.heap.size + 1, 0, none⟩) 0 0) []) rfl fT (by simp <;> omega) (by omega) ?_; intro A3 c3 w3 o3 hg3 hB3; have O3 := Lib.hid o3; have HB3 := Lib.hid (hB.trans hB3); clear hg3 hB3 o3; rw [List.nil_append] at O3)
    | (refine appIL (base := w.heap.size) (xs := atermsL a) (ys := ks) rfl _ _ rfl rfl O3.out rfl (HK.out.below HB3.out) (by omega) HB3.out.size ?_; intro A4 c4 w4 o4 hg4 hB4; have O4 := Lib.hid o4; have HB4 := Lib.hid (HB3.out.trans hB4); clear hg4 hB4 o4))
  go_ret
  have O5 := O4.out
  rw [List.length_append] at O5
  exact ⟨_, rfl, O5, HB4.out⟩
--@ laws.slTry
theorem tryF_skip {a : Asn} {used : List Int} {n : Nat} {s : Ste} {t : Int} (h : (decide (t ∈ used) || !decide (t ∈ atermsL a)) = true) : tryF a used (n + 1) s t = tryF a used n s (t + 1) := by
  rw [tryF, if_pos h]
theorem tryF_any {a : Asn} {used : List Int} {n : Nat} {s : Ste} {t : Int} (h : (decide (t ∈ used) || !decide (t ∈ atermsL a)) = false) : tryF a used (n + 1) s t = (List.range 9).any fun v => tryF a used n (setS s t (v : Int)) (t + 1) := by
  rw [tryF, if_neg (by rw [h]; decide)]
theorem any_yes {f : Nat → Bool} {k : Nat} (hk : k < 9) (h : f k = true) : (List.range 9).any f = true := List.any_eq_true.2 ⟨k, List.mem_range.2 hk, h⟩
theorem any_no {f : Nat → Bool} (h : ∀ k, k < 9 → f k = false) : (List.range 9).any f = false := by
  rw [List.any_eq_false]
  intro k hk
  rw [h k (List.mem_range.1 hk)]
  decide
set_option maxRecDepth 100000 in
set_option maxHeartbeats 3200000 in
theorem c_slTry (a : Asn) (used : List Int) : ∀ (n : Nat), n ≤ 4 → ∀ (lo hi lo' hi' lo2 hi2 : Nat) (v v' : Value) (s : Ste) (A : Option Addr) (c : Nat) (w : World), StateV w lo hi v s → s.valid = true → AsnV w lo' hi' v' a → IntsV w lo2 hi2 A used →
    Calls Tryz.prog 64 #[v, v', .slice A used.length c, .int .i64 (9 - (n : Int))] w fun e w' => e = .returned (.bool (tryF a used n s (9 - (n : Int)))) ∧ Below w.heap.size w w' := by
  intro n
  induction n with
  | zero =>
    intro _ lo hi lo' hi' lo2 hi2 v v' s A c w hS hs hA hU
    have HS := Lib.hid hS
    have HA := Lib.hid hA
    obtain ⟨S1, s1, S2, s2, rfl, -, -⟩ := hS
    obtain ⟨A1, c1, A2, c2, rfl, -, -⟩ := hA
    have E : Hid (tryF a used 0 s (9 - ((0 : Nat) : Int)) = holdsF s a) := Lib.hid rfl
    rw [E.out]
    clear hU E hs
    go_enter Tryz.func64, Tryz.ntmps64
    go_wp2_with fail
    refine (c_impl_Holds _ _ s a _ (HS.out.below bel) (HA.out.below bel)).mono ?_
    rintro e w1 ⟨rfl, hB1⟩
    have hB := bgo (w := w) bel hB1
    go_wp2_with fail
    go_ret
    exact ⟨rfl, hB⟩
  | succ n ih =>
    intro hn lo hi lo' hi' lo2 hi2 v v' s A c w hS hs hA hU
    have HS := Lib.hid hS
    have HA := Lib.hid hA
    have HU := Lib.hid hU
    have HV := Lib.hid hs
    have IH := Lib.hid (ih (by omega))
    obtain ⟨S1, s1, S2, s2, rfl, -, -⟩ := hS
    obtain ⟨A1, c1, A2, c2, rfl, -, -⟩ := hA
    obtain ⟨t, ht⟩ : ∃ t : Nat, (t : Int) + 1 = 9 - ((n + 1 : Nat) : Int) := ⟨7 - n, by omega⟩
    have htn : t + n = 7 := by omega
    have e9 : (9 : Int) - (n : Int) = (t : Int) + 1 + 1 := by omega
    rw [← ht]
    rw [e9] at IH
    have HK1 : Hid ((decide ((t : Int) + 1 ∈ used) || !decide ((t : Int) + 1 ∈ atermsL a)) = true → tryF a used (n + 1) s ((t : Int) + 1) = tryF a used n s ((t : Int) + 1 + 1)) := Lib.hid tryF_skip
    have HK2 : Hid ((decide ((t : Int) + 1 ∈ used) || !decide ((t : Int) + 1 ∈ atermsL a)) = false → tryF a used (n + 1) s ((t : Int) + 1) = (List.range 9).any fun v => tryF a used n (setS s ((t : Int) + 1) (v : Int)) ((t : Int) + 1 + 1)) := Lib.hid tryF_any
    have hw2 : IntKind.i64.wrap ((t : Int) + 1 + 1) = (t : Int) + 1 + 1 := IntWalk.i64_in _ (by omega)
    have htl : ¬ (8 : Int) < (t : Int) + 1 := by omega
    have ht8 : t < 8 := by omega
    clear hU hs ih ht e9 htn hn
    go_enter Tryz.func64, Tryz.ntmps64
    have k4 : Blk ((w.alloc (.cells #[.slice S1 s.values.length s1, .slice S2 s.heap.length s2] tSt)).alloc (.cells #[.slice A1 a.facts.length c1, .slice A2 a.atoms.length c2] tAs)) w.heap.size tSt #[.slice S1 s.values.length s1, .slice S2 s.heap.length s2] := blks
    have k5 : Blk ((w.alloc (.cells #[.slice S1 s.values.length s1, .slice S2 s.heap.length s2] tSt)).alloc (.cells #[.slice A1 a.facts.length c1, .slice A2 a.atoms.length c2] tAs)) (w.heap.size + 1) tAs #[.slice A1 a.facts.length c1, .slice A2 a.atoms.length c2] := blks
    go_wp2_with fail
    refine (c_slHas A c used ((t : Int) + 1) _ (HU.out.below bel)).mono ?_
    rintro e w1 ⟨rfl, hB1⟩
    have hB := bgo (w := w) bel hB1
    replace k4 := k4.next hB1
    replace k5 := k5.next hB1
    clear hB1
    have skip : ∀ (w2 : World), Below w.heap.size w w2 → Hid (tryF a used (n + 1) s ((t : Int) + 1) = tryF a used n s ((t : Int) + 1 + 1)) → Calls Tryz.prog 64 #[.agg #[.slice S1 s.values.length s1, .slice S2 s.heap.length s2], .agg #[.slice A1 a.facts.length c1, .slice A2 a.atoms.length c2], .slice A used.length c, .int .i64 ((t : Int) + 1 + 1)] w2 fun e w' => e = .returned (.bool (tryF a used (n + 1) s ((t : Int) + 1))) ∧ Below w2.heap.size w2 w' := fun w2 h2 hE => by
      rw [hE.out]
      exact IH.out _ _ _ _ _ _ _ _ s A c w2 (HS.out.below h2) HV.out (HA.out.below h2) (HU.out.below h2)
    replace skip := Lib.hid skip
    cases hu : decide ((t : Int) + 1 ∈ used)
    case true =>
      have E := Lib.hid (HK1.out (by rw [hu]; rfl))
      clear hu HK1 HK2
      (replace qk4 := k4.cell; replace rk4 := k4.frozen; replace lk4 := k4.lt; replace qk5 := k5.cell; replace rk5 := k5.frozen; replace lk5 := k5.lt)
      go_wp2_with fail
      refine (skip.out _ hB E).mono ?_
      rintro e w2 ⟨rfl, hB2⟩
      have HB2 := Lib.hid (bgo hB hB2)
      go_wp2_with fail
      go_ret
      exact ⟨rfl, HB2.out⟩
    have HN := Lib.hid hu
    clear hu
    (replace qk4 := k4.cell; replace rk4 := k4.frozen; replace lk4 := k4.lt; replace qk5 := k5.cell; replace rk5 := k5.frozen; replace lk5 := k5.lt)
    go_wp2_with fail
    refine (c_impl_AssertionTerms _ a _ (HA.out.below hB)).mono ?_
    rintro e w2 ⟨r, rfl, oT, hB2⟩
    (replace hB := bgo hB hB2; replace k4 := k4.next hB2; replace qk4 := k4.cell; replace rk4 := k4.frozen; replace lk4 := k4.lt; replace k5 := k5.next hB2; replace qk5 := k5.cell; replace rk5 := k5.frozen; replace lk5 := k5.lt)
    obtain ⟨T, ct, rfl, fT⟩ := oT.reads
    clear hB2 oT
    go_wp2_with fail
    refine (c_slHas T ct (atermsL a) ((t : Int) + 1) _ fT).mono ?_
    rintro e w3 ⟨rfl, hB3⟩
    (replace hB := bgo hB hB3; replace k4 := k4.next hB3; replace qk4 := k4.cell; replace rk4 := k4.frozen; replace lk4 := k4.lt; replace k5 := k5.next hB3; replace qk5 := k5.cell; replace rk5 := k5.frozen; replace lk5 := k5.lt)
    clear hB3 fT
    cases hm : decide ((t : Int) + 1 ∈ atermsL a)
    case false =>
      have E := Lib.hid (HK1.out (by rw [hm]; simp))
      clear hm HK1 HK2 HN
      go_wp2_with fail
      refine (skip.out _ hB E).mono ?_
      rintro e w4 ⟨rfl, hB4⟩
      have HB4 := Lib.hid (bgo hB hB4)
      go_wp2_with fail
      go_ret
      exact ⟨rfl, HB4.out⟩
    have E := Lib.hid (HK2.out (by rw [HN.out, hm]; rfl))
    have HB := Lib.hid hB
    clear hm HK1 HK2 HN skip hB
    go_wp2_with fail
    go_loopw [9] (fun i wr => ∃ k : Nat, k ≤ 9 ∧ i = .int .i64 k ∧ Hid (∀ j, j < k → tryF a used n (setS s ((t : Int) + 1) (j : Int)) ((t : Int) + 1 + 1) = false) ∧ Blk wr w.heap.size tSt #[.slice S1 s.values.length s1, .slice S2 s.heap.length s2] ∧ Blk wr (w.heap.size + 1) tAs #[.slice A1 a.facts.length c1, .slice A2 a.atoms.length c2] ∧ Hid (Below w.heap.size w wr)) (fun i _ => 10 - (intOf i).toNat)
    case atStart => exact ⟨0, by omega, rfl, fun j h => absurd h (by omega), k4, k5, HB⟩
    case round =>
      clear k4 k5 HB qk4 rk4 lk4 qk5 rk5 lk5
      obtain ⟨k, hk9, rfl, HN, k4, k5, HB⟩ := hrel
      by_cases hlt : k < 9
      · have hki : (k : Int) ≤ 8 := by omega
        (replace qk4 := k4.cell; replace rk4 := k4.frozen; replace lk4 := k4.lt; replace qk5 := k5.cell; replace rk5 := k5.frozen; replace lk5 := k5.lt)
        go_wp2_with fail
        refine (c_impl_SetTerm _ s t (k : Int) _ (HS.out.below HB.out) HV.out ht8 (by simp [valB]; omega)).mono ?_
        rintro e w5 ⟨r, rfl, oS, hB5⟩
        have hsv : (setS s ((t : Int) + 1) (k : Int)).valid = true := set_valid HV.out _ (by simp [valB]; omega)
        obtain ⟨s', hs'⟩ : ∃ s', s' = setS s ((t : Int) + 1) (k : Int) := ⟨_, rfl⟩
        rw [← hs'] at oS hsv
        have HV5 := Lib.hid hsv
        replace hs' := Lib.hid hs'
        have HS5 := Lib.hid oS.reads
        obtain ⟨fv, av, rfl, o1, o2, -⟩ := oS
        obtain ⟨F, f, rfl, -⟩ := o1.reads
        obtain ⟨G, g, rfl, -⟩ := o2.reads
        (replace k4 := k4.next hB5; replace qk4 := k4.cell; replace rk4 := k4.frozen; replace lk4 := k4.lt; replace k5 := k5.next hB5; replace qk5 := k5.cell; replace rk5 := k5.frozen; replace lk5 := k5.lt)
        have HB5 := Lib.hid (bgo HB.out hB5)
        clear hB5 o1 o2 hsv HB
        go_wp2_with fail
        refine (IH.out _ _ _ _ _ _ _ _ s' A c _ (HS5.out.below bel) HV5.out (HA.out.below (bbox HB5.out _)) (HU.out.below (bbox HB5.out _))).mono ?_
        rintro e w6 ⟨rfl, hB6⟩
        have HB6 := Lib.hid (bgo (bbox HB5.out (.cells #[.slice F s'.values.length f, .slice G s'.heap.length g] tSt)) hB6)
        have k46 := (k4.alloc (.cells #[.slice F s'.values.length f, .slice G s'.heap.length g] tSt)).next hB6
        have k56 := (k5.alloc (.cells #[.slice F s'.values.length f, .slice G s'.heap.length g] tSt)).next hB6
        clear hB6 qk4 rk4 lk4 qk5 rk5 lk5 k4 k5
        cases hy : tryF a used n s' ((t : Int) + 1 + 1)
        · have HN2 : Hid (∀ j, j < k + 1 → tryF a used n (setS s ((t : Int) + 1) (j : Int)) ((t : Int) + 1 + 1) = false) := Lib.hid fun j hj => by
            by_cases e : j = k
            · rw [e, ← hs'.out]; exact hy
            · exact HN.out j (by omega)
          clear hy HN
          go_wp2_with fail
          go_round
          case rel => exact ⟨k + 1, by omega, by go_num, HN2, k46, k56, HB6⟩
          case measure => simp [intOf]; omega
        · have E2 : Hid (tryF a used (n + 1) s ((t : Int) + 1) = true) := Lib.hid (by rw [E.out]; exact any_yes (by omega) (by rw [← hs'.out]; exact hy))
          clear hy HN
          go_wp2_with fail
          go_ret
          exact ⟨ret_bool E2.out.symm, HB6.out⟩
      · obtain rfl : k = 9 := by omega
        have E2 : Hid (tryF a used (n + 1) s ((t : Int) + 1) = false) := Lib.hid (by rw [E.out]; exact any_no fun j hj => HN.out j hj)
        go_wp2_with fail
        go_ret
        exact ⟨ret_bool E2.out.symm, HB.out⟩
--@ laws.slSome
set_option maxRecDepth 100000 in
set_option maxHeartbeats 1600000 in
theorem c_slSome {lo hi lo2 hi2 : Nat} (v : Value) (s : Ste) (l : List Asn) (used : List Int) (R : Option Addr) (r : Nat) (A : Option Addr) (c : Nat) (w : World) (h : StateV w lo hi v s) (hs : s.valid = true) (hl : l.length ≤ 1049600) (hR : ∀ (k : Nat) (hk : k < l.length), ∃ b o B p D q, R = some ⟨b, o, none⟩ ∧ b < w.heap.size ∧ w.cell? ⟨b, o + k*2, none⟩ = some (.slice B l[k].facts.length p) ∧ w.cell? ⟨b, o + k*2 + 1, none⟩ = some (.slice D l[k].atoms.length q) ∧ AsnV w 0 w.heap.size (.agg #[.slice B l[k].facts.length p, .slice D l[k].atoms.length q]) l[k]) (hU : IntsV w lo2 hi2 A used) :
    Calls Tryz.prog 15 #[v, .slice R l.length r, .slice A used.length c] w fun e w' => e = .returned (.bool (someF s l used)) ∧ Below w.heap.size w w' := by
  have HS := Lib.hid h
  have HV := Lib.hid hs
  have HR := Lib.hid hR
  have HU := Lib.hid hU
  obtain ⟨S1, s1, S2, s2, rfl, -, -⟩ := h
  clear hR hU hs
  go_enter Tryz.func15, Tryz.ntmps15
  have k3 : Blk (w.alloc (.cells #[.slice S1 s.values.length s1, .slice S2 s.heap.length s2] tSt)) w.heap.size tSt #[.slice S1 s.values.length s1, .slice S2 s.heap.length s2] := blks
  have HB : Hid (Below w.heap.size w (w.alloc (.cells #[.slice S1 s.values.length s1, .slice S2 s.heap.length s2] tSt))) := Lib.hid bel
  go_wp2_with fail
  go_loopw [7] (fun i wr => ∃ k : Nat, k ≤ l.length ∧ i = .int .i64 k ∧ Hid (someF s l used = (l.drop k).any fun a => tryF a used 4 s 5) ∧ Blk wr w.heap.size tSt #[.slice S1 s.values.length s1, .slice S2 s.heap.length s2] ∧ Hid (Below w.heap.size w wr)) (fun i _ => l.length - (intOf i).toNat)
  case atStart => exact ⟨0, Nat.zero_le _, rfl, rfl, k3, HB⟩
  case round =>
    clear k3 HB
    obtain ⟨k, hk, rfl, HE, k3, HB⟩ := hrel
    by_cases hlt : k < l.length
    · have hki : (k : Int) < (l.length : Int) := by omega
      obtain ⟨b, o, B, p, D, q, rfl, hbl, g0, g1, hA⟩ := HR.out k hlt
      have e1 := List.drop_eq_getElem_cons hlt
      rw [e1, List.any_cons] at HE
      obtain ⟨x, hx⟩ : ∃ x, x = l[k] := ⟨_, rfl⟩
      rw [← hx] at g0 g1 hA HE
      have HA := Lib.hid hA
      clear hx e1 hA
      have p0 : wr.cell? ⟨b, o + k*2, none⟩ = some (.slice B x.facts.length p) := (HB.out.cell (p := ⟨b, o + k*2, none⟩) hbl).trans g0
      have p1 : wr.cell? ⟨b, o + k*2 + 1, none⟩ = some (.slice D x.atoms.length q) := (HB.out.cell (p := ⟨b, o + k*2 + 1, none⟩) hbl).trans g1
      have hbr : b < wr.heap.size := Nat.lt_of_lt_of_le hbl HB.out.size
      clear g0 g1
      go_wp2_with fail
      refine wp_region_noPanic ?_
      refine wp_region_held_drew (S := (fun w' => (∀ i, w'.cell? ⟨w.heap.size, i, none⟩ = #[.slice S1 s.values.length s1, .slice S2 s.heap.length s2][i]?) ∧ w'.cell? ⟨b, o + k*2, none⟩ = some (.slice B x.facts.length p) ∧ w'.cell? ⟨b, o + k*2 + 1, none⟩ = some (.slice D x.atoms.length q))) (by kernel_rfl) (⟨k3.drew.cell, p0, p1⟩) (fun hHeld => ?_)
      refine wpAnyH_take (i := 0) (v := ?_) rfl (by kernel_rfl) (by kernel_rfl) (by kernel_rfl) (fun _ _ _ h => h) (Or.inl ⟨by rfl, fun w hSw => ?_⟩) hHeld ?_
      rotate_left
      · ((try dsimp only at hSw); go_split_ands; go_simp; (try with_reducible rfl))
      try simp only [Act.put, List.getElem_toArray, List.getElem_cons_zero, List.getElem_cons_succ, List.setIfInBounds_toArray, List.set_cons_zero, List.set_cons_succ]
      refine wpAnyH_take (i := 1) (v := ?_) rfl (by kernel_rfl) (by kernel_rfl) (by kernel_rfl) (fun _ _ _ h => h) (Or.inl ⟨by rfl, fun w hSw => ?_⟩) hHeld ?_
      rotate_left
      · ((try dsimp only at hSw); go_split_ands; go_simp; (try with_reducible rfl))
      try simp only [Act.put, List.getElem_toArray, List.getElem_cons_zero, List.getElem_cons_succ, List.setIfInBounds_toArray, List.set_cons_zero, List.set_cons_succ]
      refine wpAnyH_take (i := 2) (v := ?_) rfl (by kernel_rfl) (by kernel_rfl) (by kernel_rfl) (fun _ _ _ h => h) (Or.inl ⟨by rfl, fun w hSw => ?_⟩) hHeld ?_
      rotate_left
      · ((try dsimp only at hSw); go_split_ands; go_simp; (try with_reducible rfl))
      try simp only [Act.put, List.getElem_toArray, List.getElem_cons_zero, List.getElem_cons_succ, List.setIfInBounds_toArray, List.set_cons_zero, List.set_cons_succ]
      refine wpAnyH_take (i := 3) (v := ?_) rfl (by kernel_rfl) (by kernel_rfl) (by kernel_rfl) (fun _ _ _ h => h) (Or.inl ⟨by rfl, fun w hSw => ?_⟩) hHeld ?_
      rotate_left
      · ((try dsimp only at hSw); go_split_ands; go_simp; (try with_reducible rfl))
      try simp only [Act.put, List.getElem_toArray, List.getElem_cons_zero, List.getElem_cons_succ, List.setIfInBounds_toArray, List.set_cons_zero, List.set_cons_succ]
      refine wpAnyH_take (i := 4) (v := ?_) rfl (by kernel_rfl) (by kernel_rfl) (by kernel_rfl) (fun _ _ _ h => h) (Or.inl ⟨by rfl, fun w hSw => ?_⟩) hHeld ?_
      rotate_left
      · ((try dsimp only at hSw); go_split_ands; go_simp; (try with_reducible rfl))
      try simp only [Act.put, List.getElem_toArray, List.getElem_cons_zero, List.getElem_cons_succ, List.setIfInBounds_toArray, List.set_cons_zero, List.set_cons_succ]
      refine wpAnyH_take (i := 5) (v := ?_) rfl (by kernel_rfl) (by kernel_rfl) (by kernel_rfl) (fun _ _ _ h => h) (Or.inl ⟨by rfl, fun w hSw => ?_⟩) hHeld ?_
      rotate_left
      · ((try dsimp only at hSw); go_split_ands; go_simp; (try with_reducible rfl))
      try simp only [Act.put, List.getElem_toArray, List.getElem_cons_zero, List.getElem_cons_succ, List.setIfInBounds_toArray, List.set_cons_zero, List.set_cons_succ]
      refine wpAnyH_ready (rs := [6]) (by kernel_rfl) (by simp) ?_
      refine AllReadyH.cons rfl (fun K hK => ?_) AllReadyH.nil
      try simp only [List.getElem_toArray, List.getElem_cons_zero, List.getElem_cons_succ]
      (go_simp; refine (c_slTry x used 4 (Nat.le_refl _) _ _ _ _ _ _ _ _ s A c _ (HS.out.below HB.out.drew) HV.out (HA.out.below HB.out.drew) (HU.out.below HB.out.drew)).mono ?_; rintro e w2 ⟨rfl, hB2⟩; replace hB2 : Below wr.heap.size wr w2 := (Below.refl _ _).drew.trans hB2; have k32 := k3.next hB2; have j0 := (hB2.cell (p := ⟨b, o + k*2, none⟩) hbr).trans p0; have j1 := (hB2.cell (p := ⟨b, o + k*2 + 1, none⟩) hbr).trans p1; have HB2 := Lib.hid (bgo HB.out hB2); clear hB2)
      refine hK.out _ _ (⟨k32.cell, j0, j1⟩) (fun hHeldN => ?_)
      clear hHeld hK K
      have hHeld := hHeldN
      clear hHeldN
      try simp only [Act.put, List.getElem_toArray, List.getElem_cons_zero, List.getElem_cons_succ, List.setIfInBounds_toArray, List.set_cons_zero, List.set_cons_succ]
      refine wpAnyH_done (by kernel_rfl) ?_ _
      refine NoPanic.normal ?_
      clear hHeld p0 p1 j0 j1
      rw [show (9 : Int) - ((4 : Nat) : Int) = 5 by omega]
      cases hy : tryF x used 4 s 5
      · have HE2 : Hid (someF s l used = (l.drop (k + 1)).any fun a => tryF a used 4 s 5) := Lib.hid (by rw [HE.out, hy]; rfl)
        clear hy HE
        go_wp2_with fail
        go_round
        case rel => exact ⟨k + 1, by omega, by go_num, HE2, k32, HB2⟩
        case measure => simp [intOf]; omega
      · have E2 : Hid (someF s l used = true) := Lib.hid (by rw [HE.out, hy]; rfl)
        clear hy HE
        go_wp2_with fail
        go_ret
        exact ⟨ret_bool E2.out.symm, HB2.out⟩
    · obtain rfl : k = l.length := by omega
      have E2 : Hid (someF s l used = false) := Lib.hid (by rw [HE.out, List.drop_length]; rfl)
      go_wp2_with fail
      go_ret
      exact ⟨ret_bool E2.out.symm, HB.out⟩
--@
end Go.Proofs.YtlmjjflalmegfaaGreat

/- 'laws.FnExposeCell' returns true for all bytes that can be read. -/
namespace Go.Proofs.YtlmjjflalmegfaaGreat
open Go Go.RowKit Go.Proofs
attribute [local go_sem ↓] Go.wp_at_zero Go.wp_at_succ

theorem entF_true {a b : Asn} (ha : a.valid = true) (hb : b.valid = true) (h : ∀ M, Sat M a → EntM M a b) : entF a b = true := by
  unfold entF
  rw [ha, hb]
  have : failF a b = none := List.find?_eq_none.2 fun c hc => by
    rw [(ent_all ha hb).2 h c hc]; decide
  rw [this]; rfl
theorem law_facts {a : Asn} {t : Int} {ks : List Int} {l : List Asn} (h : exposeR a t ks = some l) : (∀ e ∈ l, entF e a = true ∧ ∃ b rest, e.atoms = ⟨1, t, b⟩ :: rest) ∧ a.valid = true ∧ (consB a = true → (modelR a).valid = true ∧ someF (modelR a) l (atermsL a ++ ks) = true) := by
  have h0 := h
  unfold exposeR at h
  split at h
  case isFalse => cases h
  rename_i hc
  rw [Bool.and_eq_true] at hc
  refine ⟨fun e he => ?_, hc.1, fun hcon => ?_⟩
  · obtain ⟨g1, g2, g3⟩ := expose_ent _ _ _ _ _ h e he
    exact ⟨entF_true g1 hc.1 g2, g3⟩
  · have e : modelR a = modelL a := by unfold modelR; rw [hcon, if_pos rfl]
    rw [e]
    have hh := (modelL_law hcon).2.1
    exact ⟨(case_of_law hh).1, expose_some h0 hh⟩
--@ laws.FnExposeCell
set_option maxRecDepth 100000 in
set_option maxHeartbeats 6400000 in
theorem c_FnExposeCell (v : Value) (A : Option Addr × Nat × Nat) (w : World) (h : v = .slice A.1 A.2.1 A.2.2 ∧ BytesR w A.1 A.2.1 A.2.2) : Calls Tryz.prog 3 #[v] w fun e w' => e = .returned (.bool true) ∧ Below w.heap.size w w' := by
  obtain ⟨A, n, c⟩ := A
  obtain ⟨rfl, hR⟩ := h
  simp only at hR ⊢
  have HR := Lib.hid hR
  clear hR
  by_cases hn : 1048576 < n
  · have hni : (1048576 : Int) < (n : Int) := by omega
    clear hn
    go_enter Tryz.func3, Tryz.ntmps3
    go_wp2_with fail
    go_ret
    exact ⟨rfl, bel⟩
  have hni : ¬ (1048576 : Int) < (n : Int) := by omega
  clear hn
  go_enter Tryz.func3, Tryz.ntmps3
  go_wp2_with fail
  refine (c_DrawExpose A n c _ HR.out).mono ?_
  rintro e w1 ⟨r, t, kv, a, ks, rfl, o, ok, hlen, -, hB1⟩
  have hkl := hlen.2.2
  obtain ⟨F, e1, G, e2, rfl, -⟩ := o.C
  obtain ⟨KA, ck, rfl, fk⟩ := ok.reads
  have hbq := bbox (Below.refl w1.heap.size w1) (.cells #[.slice F a.facts.length e1, .slice G a.atoms.length e2] tAs)
  have HV := Lib.hid ((o.below hbq).C)
  have HK := Lib.hid (fk.below hbq)
  have k0 : Blk (w1.alloc (.cells #[.slice F a.facts.length e1, .slice G a.atoms.length e2] tAs)) w1.heap.size tAs #[.slice F a.facts.length e1, .slice G a.atoms.length e2] := Blk.new _ _ _
  have hz : w1.heap.size < (w1.alloc (.cells #[.slice F a.facts.length e1, .slice G a.atoms.length e2] tAs)).heap.size := by simp
  have HB := Lib.hid (bgo hB1 hbq)
  clear hbq o ok fk hB1 HR hni
  go_upto_region 4 with fail
  generalize (w1.alloc (.cells #[.slice F a.facts.length e1, .slice G a.atoms.length e2] tAs)) = W1 at k0 HV HK HB hz ⊢
  (replace qk0 := k0.cell; replace rk0 := k0.frozen; replace lk0 := k0.lt)
  go_wp2_with fail
  refine (c_impl_ExposeCell _ a t KA ck ks _ HV.out (Nat.le_refl _) HK.out).mono ?_
  rintro e w2 ⟨r2, rfl, ⟨⟨vs, o2⟩, -⟩, hB2⟩
  have HX := Lib.hid (fun l (h : exposeR a t ks = some l) => law_facts h)
  obtain ⟨A2, c2, rfl⟩ := o2.form
  replace HV := Lib.hid (HV.out.below hB2)
  replace HK := Lib.hid (HK.out.below hB2)
  replace HB := Lib.hid (bgo HB.out hB2)
  replace k0 := k0.next hB2
  have O2 := Lib.hid o2
  have hz2 := hB2.size
  clear hB2 o2 qk0 rk0 lk0
  (replace qk0 := k0.cell; replace rk0 := k0.frozen; replace lk0 := k0.lt)
  go_wp2_with fail
  refine (c_spec_ExposeCell _ a t KA ck ks _ HV.out HK.out).mono ?_
  rintro e w3 ⟨r3, rfl, ⟨⟨vs', o3⟩, -⟩, hB3⟩
  obtain ⟨A3, c3, rfl⟩ := o3.form
  replace HV := Lib.hid (HV.out.below hB3)
  replace HK := Lib.hid (HK.out.below hB3)
  replace HB := Lib.hid (bgo HB.out hB3)
  replace O2 := Lib.hid (O2.out.below hB3)
  have O3 := Lib.hid o3
  have hz3 := hB3.size
  replace k0 := k0.next hB3
  clear hB3 o3 qk0 rk0 lk0
  cases hE : exposeR a t ks
  case none =>
    rw [hE] at O2 O3
    clear hE HX
    simp only [Option.getD_none] at O2 O3 ⊢
    go_wp2_with fail
    refine (t_slAsns A2 A3 c2 c3 [] _ O2.out.reads.2 O3.out.reads.2).mono ?_
    rintro e w4 ⟨rfl, hB4⟩
    have HB4 := Lib.hid (bgo HB.out hB4)
    have O24 := Lib.hid (O2.out.below hB4)
    have O34 := Lib.hid (O3.out.below hB4)
    clear hB4
    go_wp2_with fail
    refine (t_slAsns A2 A3 c2 c3 [] _ O24.out.reads.2 O34.out.reads.2).mono ?_
    rintro e w5 ⟨rfl, hB5⟩
    have HB5 := Lib.hid (bgo HB4.out hB5)
    go_wp2_with fail
    go_ret
    exact ⟨rfl, HB5.out⟩
  case some D =>
    rw [hE] at O2 O3
    obtain ⟨hAg, hav, hMo⟩ := HX.out D hE
    have HAg := Lib.hid hAg
    have HAV := Lib.hid hav
    have HMo := Lib.hid hMo
    clear hE HX hAg hav hMo
    simp only [Option.getD_some] at O2 O3 ⊢
    have hDl : D.length ≤ 1049600 := O2.out.lim
    go_wp2_with fail
    refine (t_slAsns A2 A3 c2 c3 D _ O2.out.reads.2 O3.out.reads.2).mono ?_
    rintro e w4 ⟨rfl, hB4⟩
    have hB4' := hB4
    replace HB := Lib.hid (bgo HB.out hB4)
    replace O2 := Lib.hid (O2.out.below hB4)
    replace HK := Lib.hid (HK.out.below hB4)
    have hz4 := hB4.size
    replace k0 := k0.next hB4
    clear hB4 O3
    replace HV := Lib.hid (HV.out.below hB4')
    go_wp2_with fail
    have HKS := HK
    go_loopw [10] (fun i wr => ∃ k : Nat, k ≤ D.length ∧ i = .int .i64 k ∧ Hid (Below w4.heap.size w4 wr)) (fun i _ => D.length - (intOf i).toNat)
    case atStart => exact ⟨0, Nat.zero_le _, rfl, Lib.hid (Below.refl _ _)⟩
    case round =>
      obtain ⟨k, hk, rfl, HW⟩ := hrel
      have hzw := HW.out.size
      have k0r := k0.next HW.out
      by_cases hlt : k < D.length
      · have hki : (k : Int) < (D.length : Int) := by omega
        obtain ⟨b, o, R, d, R2, d2, hA2, lb, g0, g1, HC0⟩ := (O2.out.below HW.out).atC hlt
        subst hA2
        obtain ⟨s, hse⟩ : ∃ s, s = D[k] := ⟨_, rfl⟩
        obtain ⟨hent, xb, xr, hxa⟩ := HAg.out D[k] (List.getElem_mem hlt)
        rw [← hse] at g0 g1 HC0 hent hxa
        have hx0 : 0 < s.atoms.length := by rw [hxa]; simp
        have hx0i : (0 : Int) < (s.atoms.length : Int) := by omega
        have hxn : ((s.atoms.length : Int) == 0) = false := beq_false_of_ne (by omega)
        have HC := Lib.hid HC0
        have HENT := Lib.hid hent
        obtain ⟨R1', d1', R2', d2', eC, hCF, hCA, -⟩ := HC0
        injection eC with eC
        injection eC with eC
        injection eC with eC1 eC2
        injection eC1 with eC1 _ eC1'
        injection eC2 with eC2
        injection eC2 with eC2 _ eC2'
        subst eC1 eC2 eC1' eC2'
        obtain ⟨ba, oa, rfl, j0, j1, -⟩ := hCA.at hx0
        have e0 : s.atoms[0] = ⟨1, t, xb⟩ := by simp [hxa]
        rw [e0] at j0 j1
        simp only [Nat.zero_mul, Nat.add_zero] at j0 j1
        have lba := block_lt_of_cell j0
        simp only at lba
        clear hse hent hxa hCF hCA e0
        (replace qk0r := k0r.cell; replace rk0r := k0r.frozen; replace lk0r := k0r.lt)
        go_wp2_with fail
        clear qk0r rk0r lk0r
        refine wp_region_noPanic ?_
        refine wp_region_held_drew (S := (fun w' => ((w'.cell? ⟨b, o + k*2, none⟩ = some (.slice R s.facts.length d) ∧ w'.cell? ⟨b, o + k*2 + 1, none⟩ = some (.slice (some ⟨ba, oa, none⟩) s.atoms.length d2)) ∧ w'.cell? ⟨ba, oa, none⟩ = some (.int .i64 1) ∧ w'.cell? ⟨ba, oa + 1, none⟩ = some (.int .i64 t)) ∧ ∀ i, w'.cell? ⟨w1.heap.size, i, none⟩ = #[.slice F a.facts.length e1, .slice G a.atoms.length e2][i]?)) (by kernel_rfl) (⟨⟨⟨g0, g1⟩, j0, j1⟩, k0r.drew.cell⟩) (fun hHeld => ?_)
        refine wpAnyH_take (i := 0) (v := ?_) rfl (by kernel_rfl) (by kernel_rfl) (by kernel_rfl) (fun _ _ _ h => h) (Or.inl ⟨by rfl, fun w hSw => ?_⟩) hHeld ?_
        rotate_left
        · ((try dsimp only at hSw); go_split_ands; go_simp; (try with_reducible rfl))
        try simp only [Act.put, List.getElem_toArray, List.getElem_cons_zero, List.getElem_cons_succ, List.setIfInBounds_toArray, List.set_cons_zero, List.set_cons_succ]
        refine wpAnyH_take (i := 1) (v := ?_) rfl (by kernel_rfl) (by kernel_rfl) (by kernel_rfl) (fun _ _ _ h => h) (Or.inl ⟨by rfl, fun w hSw => ?_⟩) hHeld ?_
        rotate_left
        · ((try dsimp only at hSw); go_split_ands; go_simp; (try with_reducible rfl))
        try simp only [Act.put, List.getElem_toArray, List.getElem_cons_zero, List.getElem_cons_succ, List.setIfInBounds_toArray, List.set_cons_zero, List.set_cons_succ]
        refine wpAnyH_take (i := 2) (v := ?_) rfl (by kernel_rfl) (by kernel_rfl) (by kernel_rfl) (fun _ _ _ h => h) (Or.inl ⟨by rfl, fun w hSw => ?_⟩) hHeld ?_
        rotate_left
        · ((try dsimp only at hSw); go_split_ands; go_simp; (try with_reducible rfl))
        try simp only [Act.put, List.getElem_toArray, List.getElem_cons_zero, List.getElem_cons_succ, List.setIfInBounds_toArray, List.set_cons_zero, List.set_cons_succ]
        refine wpAnyH_take (i := 3) (v := ?_) rfl (by kernel_rfl) (by kernel_rfl) (by kernel_rfl) (fun _ _ _ h => h) (Or.inl ⟨by rfl, fun w hSw => ?_⟩) hHeld ?_
        rotate_left
        · ((try dsimp only at hSw); go_split_ands; go_simp; (try with_reducible rfl))
        try simp only [Act.put, List.getElem_toArray, List.getElem_cons_zero, List.getElem_cons_succ, List.setIfInBounds_toArray, List.set_cons_zero, List.set_cons_succ]
        refine wpAnyH_take (i := 4) (v := ?_) rfl (by kernel_rfl) (by kernel_rfl) (by kernel_rfl) (fun _ _ _ h => h) (Or.inl ⟨by rfl, fun w hSw => ?_⟩) hHeld ?_
        rotate_left
        · ((try dsimp only at hSw); go_split_ands; go_simp; (try with_reducible rfl))
        try simp only [Act.put, List.getElem_toArray, List.getElem_cons_zero, List.getElem_cons_succ, List.setIfInBounds_toArray, List.set_cons_zero, List.set_cons_succ]
        refine wpAnyH_ready (rs := [5]) (by kernel_rfl) (by simp) ?_
        refine AllReadyH.cons rfl (fun K hK => ?_) AllReadyH.nil
        try simp only [List.getElem_toArray, List.getElem_cons_zero, List.getElem_cons_succ]
        (go_simp; refine (c_impl_Entails _ _ s a _ (HC.out.V.below (Below.refl _ _).drew) (HV.out.V.below (HW.out.trans ((Below.refl _ _).drew.mono hzw))) (Nat.le_refl _) (by show _ ≤ wr.heap.size; omega)).mono ?_; rintro e w6 ⟨rfl, hB6⟩; rw [HENT.out]; have hS : Below wr.heap.size wr w6 := (Below.refl _ _).drew.trans hB6; have k06 := k0r.next hS)
        refine hK.out _ _ (⟨⟨⟨(hS.cell (p := ⟨b, o + k*2, none⟩) lb).trans g0, (hS.cell (p := ⟨b, o + k*2 + 1, none⟩) lb).trans g1⟩, (hS.cell (p := ⟨ba, oa, none⟩) lba).trans j0, (hS.cell (p := ⟨ba, oa + 1, none⟩) lba).trans j1⟩, k06.cell⟩) (fun hHeldN => ?_)
        clear hHeld hK K
        have hHeld := hHeldN
        clear hHeldN
        try simp only [Act.put, List.getElem_toArray, List.getElem_cons_zero, List.getElem_cons_succ, List.setIfInBounds_toArray, List.set_cons_zero, List.set_cons_succ]
        refine wpAnyH_take (i := 6) (v := ?_) rfl (by kernel_rfl) (by kernel_rfl) (by kernel_rfl) (fun _ _ _ h => h) (Or.inl ⟨by rfl, fun w hSw => ?_⟩) hHeld ?_
        rotate_left
        · ((try dsimp only at hSw); go_split_ands; go_simp; (try with_reducible rfl))
        try simp only [Act.put, List.getElem_toArray, List.getElem_cons_zero, List.getElem_cons_succ, List.setIfInBounds_toArray, List.set_cons_zero, List.set_cons_succ]
        refine wpAnyH_take (i := 7) (v := ?_) rfl (by kernel_rfl) (by kernel_rfl) (by kernel_rfl) (fun _ _ _ h => h) (Or.inl ⟨by rfl, fun w hSw => ?_⟩) hHeld ?_
        rotate_left
        · ((try dsimp only at hSw); go_split_ands; go_simp; (try with_reducible rfl))
        try simp only [Act.put, List.getElem_toArray, List.getElem_cons_zero, List.getElem_cons_succ, List.setIfInBounds_toArray, List.set_cons_zero, List.set_cons_succ]
        refine wpAnyH_take (i := 8) (v := ?_) rfl (by kernel_rfl) (by kernel_rfl) (by kernel_rfl) (fun _ _ _ h => h) (Or.inl ⟨by rfl, fun w hSw => ?_⟩) hHeld ?_
        rotate_left
        · ((try dsimp only at hSw); go_split_ands; go_simp; (try with_reducible rfl))
        try simp only [Act.put, List.getElem_toArray, List.getElem_cons_zero, List.getElem_cons_succ, List.setIfInBounds_toArray, List.set_cons_zero, List.set_cons_succ]
        refine wpAnyH_take (i := 9) (v := ?_) rfl (by kernel_rfl) (by kernel_rfl) (by kernel_rfl) (fun _ _ _ h => h) (Or.inl ⟨by rfl, fun w hSw => ?_⟩) hHeld ?_
        rotate_left
        · ((try dsimp only at hSw); go_split_ands; go_simp; (try with_reducible rfl))
        try simp only [Act.put, List.getElem_toArray, List.getElem_cons_zero, List.getElem_cons_succ, List.setIfInBounds_toArray, List.set_cons_zero, List.set_cons_succ]
        refine wpAnyH_take (i := 10) (v := ?_) rfl (by kernel_rfl) (by kernel_rfl) (by kernel_rfl) (fun _ _ _ h => h) (Or.inl ⟨by rfl, fun w hSw => ?_⟩) hHeld ?_
        rotate_left
        · ((try dsimp only at hSw); go_split_ands; go_simp; (try with_reducible rfl))
        try simp only [Act.put, List.getElem_toArray, List.getElem_cons_zero, List.getElem_cons_succ, List.setIfInBounds_toArray, List.set_cons_zero, List.set_cons_succ]
        refine wpAnyH_take (i := 11) (v := ?_) rfl (by kernel_rfl) (by kernel_rfl) (by kernel_rfl) (fun _ _ _ h => h) (Or.inl ⟨by rfl, fun w hSw => ?_⟩) hHeld ?_
        rotate_left
        · ((try dsimp only at hSw); go_split_ands; go_simp; (try with_reducible rfl))
        try simp only [Act.put, List.getElem_toArray, List.getElem_cons_zero, List.getElem_cons_succ, List.setIfInBounds_toArray, List.set_cons_zero, List.set_cons_succ]
        refine wpAnyH_take (i := 12) (v := ?_) rfl (by kernel_rfl) (by kernel_rfl) (by kernel_rfl) (fun _ _ _ h => h) (Or.inl ⟨by rfl, fun w hSw => ?_⟩) hHeld ?_
        rotate_left
        · ((try dsimp only at hSw); go_split_ands; go_simp; (try with_reducible rfl))
        try simp only [Act.put, List.getElem_toArray, List.getElem_cons_zero, List.getElem_cons_succ, List.setIfInBounds_toArray, List.set_cons_zero, List.set_cons_succ]
        refine wpAnyH_take (i := 13) (v := ?_) rfl (by kernel_rfl) (by kernel_rfl) (by kernel_rfl) (fun _ _ _ h => h) (Or.inl ⟨by rfl, fun w hSw => ?_⟩) hHeld ?_
        rotate_left
        · ((try dsimp only at hSw); go_split_ands; go_simp; (try with_reducible rfl))
        try simp only [Act.put, List.getElem_toArray, List.getElem_cons_zero, List.getElem_cons_succ, List.setIfInBounds_toArray, List.set_cons_zero, List.set_cons_succ]
        refine wpAnyH_take (i := 14) (v := ?_) rfl (by kernel_rfl) (by kernel_rfl) (by kernel_rfl) (fun _ _ _ h => h) (Or.inl ⟨by rfl, fun w hSw => ?_⟩) hHeld ?_
        rotate_left
        · ((try dsimp only at hSw); go_split_ands; go_simp; (try with_reducible rfl))
        try simp only [Act.put, List.getElem_toArray, List.getElem_cons_zero, List.getElem_cons_succ, List.setIfInBounds_toArray, List.set_cons_zero, List.set_cons_succ]
        refine wpAnyH_take (i := 15) (v := ?_) rfl (by kernel_rfl) (by kernel_rfl) (by kernel_rfl) (fun _ _ _ h => h) (Or.inl ⟨by rfl, fun w hSw => ?_⟩) hHeld ?_
        rotate_left
        · ((try dsimp only at hSw); go_split_ands; go_simp; (try with_reducible rfl))
        try simp only [Act.put, List.getElem_toArray, List.getElem_cons_zero, List.getElem_cons_succ, List.setIfInBounds_toArray, List.set_cons_zero, List.set_cons_succ]
        refine wpAnyH_take (i := 16) (v := ?_) rfl (by kernel_rfl) (by kernel_rfl) (by kernel_rfl) (fun _ _ _ h => h) (Or.inl ⟨by rfl, fun w hSw => ?_⟩) hHeld ?_
        rotate_left
        · ((try dsimp only at hSw); go_split_ands; go_simp; (try with_reducible rfl))
        try simp only [Act.put, List.getElem_toArray, List.getElem_cons_zero, List.getElem_cons_succ, List.setIfInBounds_toArray, List.set_cons_zero, List.set_cons_succ]
        refine wpAnyH_take (i := 17) (v := ?_) rfl (by kernel_rfl) (by kernel_rfl) (by kernel_rfl) (fun _ _ _ h => h) (Or.inl ⟨by rfl, fun w hSw => ?_⟩) hHeld ?_
        rotate_left
        · ((try dsimp only at hSw); go_split_ands; go_simp; (try with_reducible rfl))
        try simp only [Act.put, List.getElem_toArray, List.getElem_cons_zero, List.getElem_cons_succ, List.setIfInBounds_toArray, List.set_cons_zero, List.set_cons_succ]
        refine wpAnyH_take (i := 18) (v := ?_) rfl (by kernel_rfl) (by kernel_rfl) (by kernel_rfl) (fun _ _ _ h => h) (Or.inl ⟨by rfl, fun w hSw => ?_⟩) hHeld ?_
        rotate_left
        · ((try dsimp only at hSw); go_split_ands; go_simp; (try with_reducible rfl))
        try simp only [Act.put, List.getElem_toArray, List.getElem_cons_zero, List.getElem_cons_succ, List.setIfInBounds_toArray, List.set_cons_zero, List.set_cons_succ]
        refine wpAnyH_take (i := 19) (v := ?_) rfl (by kernel_rfl) (by kernel_rfl) (by kernel_rfl) (fun _ _ _ h => h) (Or.inl ⟨by rfl, fun w hSw => ?_⟩) hHeld ?_
        rotate_left
        · ((try dsimp only at hSw); go_split_ands; go_simp; (try with_reducible rfl))
        try simp only [Act.put, List.getElem_toArray, List.getElem_cons_zero, List.getElem_cons_succ, List.setIfInBounds_toArray, List.set_cons_zero, List.set_cons_succ]
        refine wpAnyH_take (i := 20) (v := ?_) rfl (by kernel_rfl) (by kernel_rfl) (by kernel_rfl) (fun _ _ _ h => h) (Or.inl ⟨by rfl, fun w hSw => ?_⟩) hHeld ?_
        rotate_left
        · ((try dsimp only at hSw); go_split_ands; go_simp; (try with_reducible rfl))
        try simp only [Act.put, List.getElem_toArray, List.getElem_cons_zero, List.getElem_cons_succ, List.setIfInBounds_toArray, List.set_cons_zero, List.set_cons_succ]
        refine wpAnyH_take (i := 21) (v := ?_) rfl (by kernel_rfl) (by kernel_rfl) (by kernel_rfl) (fun _ _ _ h => h) (Or.inl ⟨by rfl, fun w hSw => ?_⟩) hHeld ?_
        rotate_left
        · ((try dsimp only at hSw); go_split_ands; go_simp; (try with_reducible rfl))
        try simp only [Act.put, List.getElem_toArray, List.getElem_cons_zero, List.getElem_cons_succ, List.setIfInBounds_toArray, List.set_cons_zero, List.set_cons_succ]
        refine wpAnyH_take (i := 22) (v := ?_) rfl (by kernel_rfl) (by kernel_rfl) (by kernel_rfl) (fun _ _ _ h => h) (Or.inl ⟨by rfl, fun w hSw => ?_⟩) hHeld ?_
        rotate_left
        · ((try dsimp only at hSw); go_split_ands; go_simp; (try with_reducible rfl))
        try simp only [Act.put, List.getElem_toArray, List.getElem_cons_zero, List.getElem_cons_succ, List.setIfInBounds_toArray, List.set_cons_zero, List.set_cons_succ]
        refine wpAnyH_take (i := 23) (v := ?_) rfl (by kernel_rfl) (by kernel_rfl) (by kernel_rfl) (fun _ _ _ h => h) (Or.inl ⟨by rfl, fun w hSw => ?_⟩) hHeld ?_
        rotate_left
        · ((try dsimp only at hSw); go_split_ands; go_simp; (try with_reducible rfl))
        try simp only [Act.put, List.getElem_toArray, List.getElem_cons_zero, List.getElem_cons_succ, List.setIfInBounds_toArray, List.set_cons_zero, List.set_cons_succ]
        refine wpAnyH_take (i := 24) (v := ?_) rfl (by kernel_rfl) (by kernel_rfl) (by kernel_rfl) (fun _ _ _ h => h) (Or.inl ⟨by rfl, fun w hSw => ?_⟩) hHeld ?_
        rotate_left
        · ((try dsimp only at hSw); go_split_ands; go_simp; (try with_reducible rfl))
        try simp only [Act.put, List.getElem_toArray, List.getElem_cons_zero, List.getElem_cons_succ, List.setIfInBounds_toArray, List.set_cons_zero, List.set_cons_succ]
        refine wpAnyH_take (i := 25) (v := ?_) rfl (by kernel_rfl) (by kernel_rfl) (by kernel_rfl) (fun _ _ _ h => h) (Or.inl ⟨by rfl, fun w hSw => ?_⟩) hHeld ?_
        rotate_left
        · ((try dsimp only at hSw); go_split_ands; go_simp; (try with_reducible rfl))
        try simp only [Act.put, List.getElem_toArray, List.getElem_cons_zero, List.getElem_cons_succ, List.setIfInBounds_toArray, List.set_cons_zero, List.set_cons_succ]
        refine wpAnyH_take (i := 26) (v := ?_) rfl (by kernel_rfl) (by kernel_rfl) (by kernel_rfl) (fun _ _ _ h => h) (Or.inl ⟨by rfl, fun w hSw => ?_⟩) hHeld ?_
        rotate_left
        · ((try dsimp only at hSw); go_split_ands; go_simp; (try with_reducible rfl))
        try simp only [Act.put, List.getElem_toArray, List.getElem_cons_zero, List.getElem_cons_succ, List.setIfInBounds_toArray, List.set_cons_zero, List.set_cons_succ]
        refine wpAnyH_take (i := 27) (v := ?_) rfl (by kernel_rfl) (by kernel_rfl) (by kernel_rfl) (fun _ _ _ h => h) (Or.inl ⟨by rfl, fun w hSw => ?_⟩) hHeld ?_
        rotate_left
        · ((try dsimp only at hSw); go_split_ands; go_simp; (try with_reducible rfl))
        try simp only [Act.put, List.getElem_toArray, List.getElem_cons_zero, List.getElem_cons_succ, List.setIfInBounds_toArray, List.set_cons_zero, List.set_cons_succ]
        refine wpAnyH_take (i := 28) (v := ?_) rfl (by kernel_rfl) (by kernel_rfl) (by kernel_rfl) (fun _ _ _ h => h) (Or.inl ⟨by rfl, fun w hSw => ?_⟩) hHeld ?_
        rotate_left
        · ((try dsimp only at hSw); go_split_ands; go_simp; (try with_reducible rfl))
        try simp only [Act.put, List.getElem_toArray, List.getElem_cons_zero, List.getElem_cons_succ, List.setIfInBounds_toArray, List.set_cons_zero, List.set_cons_succ]
        refine wpAnyH_take (i := 29) (v := ?_) rfl (by kernel_rfl) (by kernel_rfl) (by kernel_rfl) (fun _ _ _ h => h) (Or.inl ⟨by rfl, fun w hSw => ?_⟩) hHeld ?_
        rotate_left
        · ((try dsimp only at hSw); go_split_ands; go_simp; (try with_reducible rfl))
        try simp only [Act.put, List.getElem_toArray, List.getElem_cons_zero, List.getElem_cons_succ, List.setIfInBounds_toArray, List.set_cons_zero, List.set_cons_succ]
        refine wpAnyH_take (i := 30) (v := ?_) rfl (by kernel_rfl) (by kernel_rfl) (by kernel_rfl) (fun _ _ _ h => h) (Or.inl ⟨by rfl, fun w hSw => ?_⟩) hHeld ?_
        rotate_left
        · ((try dsimp only at hSw); go_split_ands; go_simp; (try with_reducible rfl))
        try simp only [Act.put, List.getElem_toArray, List.getElem_cons_zero, List.getElem_cons_succ, List.setIfInBounds_toArray, List.set_cons_zero, List.set_cons_succ]
        refine wpAnyH_take (i := 31) (v := ?_) rfl (by kernel_rfl) (by kernel_rfl) (by kernel_rfl) (fun _ _ _ h => h) (Or.inl ⟨by rfl, fun w hSw => ?_⟩) hHeld ?_
        rotate_left
        · ((try dsimp only at hSw); go_split_ands; go_simp; (try with_reducible rfl))
        try simp only [Act.put, List.getElem_toArray, List.getElem_cons_zero, List.getElem_cons_succ, List.setIfInBounds_toArray, List.set_cons_zero, List.set_cons_succ]
        refine wpAnyH_take (i := 32) (v := ?_) rfl (by kernel_rfl) (by kernel_rfl) (by kernel_rfl) (fun _ _ _ h => h) (Or.inl ⟨by rfl, fun w hSw => ?_⟩) hHeld ?_
        rotate_left
        · ((try dsimp only at hSw); go_split_ands; go_simp; (try with_reducible rfl))
        try simp only [Act.put, List.getElem_toArray, List.getElem_cons_zero, List.getElem_cons_succ, List.setIfInBounds_toArray, List.set_cons_zero, List.set_cons_succ]
        refine wpAnyH_take (i := 33) (v := ?_) rfl (by kernel_rfl) (by kernel_rfl) (by kernel_rfl) (fun _ _ _ h => h) (Or.inl ⟨by rfl, fun w hSw => ?_⟩) hHeld ?_
        rotate_left
        · ((try dsimp only at hSw); go_split_ands; go_simp; (try with_reducible rfl))
        try simp only [Act.put, List.getElem_toArray, List.getElem_cons_zero, List.getElem_cons_succ, List.setIfInBounds_toArray, List.set_cons_zero, List.set_cons_succ]
        refine wpAnyH_take (i := 34) (v := ?_) rfl (by kernel_rfl) (by kernel_rfl) (by kernel_rfl) (fun _ _ _ h => h) (Or.inl ⟨by rfl, fun w hSw => ?_⟩) hHeld ?_
        rotate_left
        · ((try dsimp only at hSw); go_split_ands; go_simp; (try with_reducible rfl))
        try simp only [Act.put, List.getElem_toArray, List.getElem_cons_zero, List.getElem_cons_succ, List.setIfInBounds_toArray, List.set_cons_zero, List.set_cons_succ]
        refine wpAnyH_take (i := 35) (v := ?_) rfl (by kernel_rfl) (by kernel_rfl) (by kernel_rfl) (fun _ _ _ h => h) (Or.inl ⟨by rfl, fun w hSw => ?_⟩) hHeld ?_
        rotate_left
        · ((try dsimp only at hSw); go_split_ands; go_simp; (try with_reducible rfl))
        try simp only [Act.put, List.getElem_toArray, List.getElem_cons_zero, List.getElem_cons_succ, List.setIfInBounds_toArray, List.set_cons_zero, List.set_cons_succ]
        refine wpAnyH_take (i := 36) (v := ?_) rfl (by kernel_rfl) (by kernel_rfl) (by kernel_rfl) (fun _ _ _ h => h) (Or.inl ⟨by rfl, fun w hSw => ?_⟩) hHeld ?_
        rotate_left
        · ((try dsimp only at hSw); go_split_ands; go_simp; (try with_reducible rfl))
        try simp only [Act.put, List.getElem_toArray, List.getElem_cons_zero, List.getElem_cons_succ, List.setIfInBounds_toArray, List.set_cons_zero, List.set_cons_succ]
        refine wpAnyH_take (i := 37) (v := ?_) rfl (by kernel_rfl) (by kernel_rfl) (by kernel_rfl) (fun _ _ _ h => h) (Or.inl ⟨by rfl, fun w hSw => ?_⟩) hHeld ?_
        rotate_left
        · ((try dsimp only at hSw); go_split_ands; go_simp; (try with_reducible rfl))
        try simp only [Act.put, List.getElem_toArray, List.getElem_cons_zero, List.getElem_cons_succ, List.setIfInBounds_toArray, List.set_cons_zero, List.set_cons_succ]
        refine wpAnyH_take (i := 38) (v := ?_) rfl (by kernel_rfl) (by kernel_rfl) (by kernel_rfl) (fun _ _ _ h => h) (Or.inl ⟨by rfl, fun w hSw => ?_⟩) hHeld ?_
        rotate_left
        · ((try dsimp only at hSw); go_split_ands; go_simp; (try with_reducible rfl))
        try simp only [Act.put, List.getElem_toArray, List.getElem_cons_zero, List.getElem_cons_succ, List.setIfInBounds_toArray, List.set_cons_zero, List.set_cons_succ]
        refine wpAnyH_done (by kernel_rfl) ?_ _
        refine NoPanic.normal ?_
        have HW6 := Lib.hid (bgo HW.out hS)
        clear hHeld g0 g1 j0 j1
        go_wp2_with fail
        go_round
        case rel => exact ⟨k + 1, by omega, by go_num, HW6⟩
        case measure => simp [intOf]; omega
      · obtain rfl : k = D.length := by omega
        have HBr := Lib.hid (bgo HB.out HW.out)
        (replace qk0r := k0r.cell; replace rk0r := k0r.frozen; replace lk0r := k0r.lt)
        go_wp2_with fail
        refine (c_impl_ModelOf _ a _ (HV.out.V.below HW.out) (by omega)).mono ?_
        rintro e w5 ⟨r, rfl, oS, hB5⟩
        have hS5 := hB5
        (replace k0r := k0r.next hB5; replace qk0r := k0r.cell; replace rk0r := k0r.frozen; replace lk0r := k0r.lt)
        have HB5 := Lib.hid (bgo HBr.out hB5)
        have HW5 := Lib.hid (bgo HW.out hB5)
        have hz5 := hB5.size
        have hov := oS.reads
        obtain ⟨fv, av, rfl, o1, o2, -⟩ := oS
        obtain ⟨S1, s1, rfl, -⟩ := o1.reads
        obtain ⟨S2, s2, rfl, -⟩ := o2.reads
        have HSV := Lib.hid hov
        clear hov o1 o2 hB5 hS5
        cases hc : consB a
        · clear hc HMo
          go_upto_region 14 with fail
          refine wp_region_noPanic ?_
          refine wp_region_held_drew (S := (fun _ => True)) (by kernel_rfl) (trivial) (fun hHeld => ?_)
          refine wpAnyH_take (i := 0) (v := ?_) rfl (by kernel_rfl) (by kernel_rfl) (by kernel_rfl) (fun _ _ _ h => h) (Or.inl ⟨by rfl, fun w hSw => ?_⟩) hHeld ?_
          rotate_left
          · ((try dsimp only at hSw); go_split_ands; go_simp; (try with_reducible rfl))
          try simp only [Act.put, List.getElem_toArray, List.getElem_cons_zero, List.getElem_cons_succ, List.setIfInBounds_toArray, List.set_cons_zero, List.set_cons_succ]
          refine wpAnyH_take (i := 1) (v := ?_) rfl (by kernel_rfl) (by kernel_rfl) (by kernel_rfl) (fun _ _ _ h => h) (Or.inl ⟨by rfl, fun w hSw => ?_⟩) hHeld ?_
          rotate_left
          · ((try dsimp only at hSw); go_split_ands; go_simp; (try with_reducible rfl))
          try simp only [Act.put, List.getElem_toArray, List.getElem_cons_zero, List.getElem_cons_succ, List.setIfInBounds_toArray, List.set_cons_zero, List.set_cons_succ]
          refine wpAnyH_take (i := 2) (v := ?_) rfl (by kernel_rfl) (by kernel_rfl) (by kernel_rfl) (fun _ _ _ h => h) (Or.inl ⟨by rfl, fun w hSw => ?_⟩) hHeld ?_
          rotate_left
          · ((try dsimp only at hSw); go_split_ands; go_simp; (try with_reducible rfl))
          try simp only [Act.put, List.getElem_toArray, List.getElem_cons_zero, List.getElem_cons_succ, List.setIfInBounds_toArray, List.set_cons_zero, List.set_cons_succ]
          refine wpAnyH_take (i := 3) (v := undef) rfl (by kernel_rfl) (by kernel_rfl) (by kernel_rfl) (fun _ _ _ h => h) (Or.inr ⟨by rfl, rfl⟩) hHeld ?_
          try simp only [Act.put, List.getElem_toArray, List.getElem_cons_zero, List.getElem_cons_succ, List.setIfInBounds_toArray, List.set_cons_zero, List.set_cons_succ]
          refine wpAnyH_take (i := 4) (v := undef) rfl (by kernel_rfl) (by kernel_rfl) (by kernel_rfl) (fun _ _ _ h => h) (Or.inr ⟨by rfl, rfl⟩) hHeld ?_
          try simp only [Act.put, List.getElem_toArray, List.getElem_cons_zero, List.getElem_cons_succ, List.setIfInBounds_toArray, List.set_cons_zero, List.set_cons_succ]
          refine wpAnyH_take (i := 5) (v := undef) rfl (by kernel_rfl) (by kernel_rfl) (by kernel_rfl) (fun _ _ _ h => h) (Or.inr ⟨by rfl, rfl⟩) hHeld ?_
          try simp only [Act.put, List.getElem_toArray, List.getElem_cons_zero, List.getElem_cons_succ, List.setIfInBounds_toArray, List.set_cons_zero, List.set_cons_succ]
          refine wpAnyH_take (i := 6) (v := undef) rfl (by kernel_rfl) (by kernel_rfl) (by kernel_rfl) (fun _ _ _ h => h) (Or.inr ⟨by rfl, rfl⟩) hHeld ?_
          try simp only [Act.put, List.getElem_toArray, List.getElem_cons_zero, List.getElem_cons_succ, List.setIfInBounds_toArray, List.set_cons_zero, List.set_cons_succ]
          refine wpAnyH_take (i := 7) (v := undef) rfl (by kernel_rfl) (by kernel_rfl) (by kernel_rfl) (fun _ _ _ h => h) (Or.inr ⟨by rfl, rfl⟩) hHeld ?_
          try simp only [Act.put, List.getElem_toArray, List.getElem_cons_zero, List.getElem_cons_succ, List.setIfInBounds_toArray, List.set_cons_zero, List.set_cons_succ]
          refine wpAnyH_take (i := 8) (v := undef) rfl (by kernel_rfl) (by kernel_rfl) (by kernel_rfl) (fun _ _ _ h => h) (Or.inr ⟨by rfl, rfl⟩) hHeld ?_
          try simp only [Act.put, List.getElem_toArray, List.getElem_cons_zero, List.getElem_cons_succ, List.setIfInBounds_toArray, List.set_cons_zero, List.set_cons_succ]
          refine wpAnyH_take (i := 9) (v := ?_) rfl (by kernel_rfl) (by kernel_rfl) (by kernel_rfl) (fun _ _ _ h => h) (Or.inl ⟨by rfl, fun w hSw => ?_⟩) hHeld ?_
          rotate_left
          · ((try dsimp only at hSw); go_split_ands; go_simp; (try with_reducible rfl))
          try simp only [Act.put, List.getElem_toArray, List.getElem_cons_zero, List.getElem_cons_succ, List.setIfInBounds_toArray, List.set_cons_zero, List.set_cons_succ]
          refine wpAnyH_take (i := 10) (v := ?_) rfl (by kernel_rfl) (by kernel_rfl) (by kernel_rfl) (fun _ _ _ h => h) (Or.inl ⟨by rfl, fun w hSw => ?_⟩) hHeld ?_
          rotate_left
          · ((try dsimp only at hSw); go_split_ands; go_simp; (try with_reducible rfl))
          try simp only [Act.put, List.getElem_toArray, List.getElem_cons_zero, List.getElem_cons_succ, List.setIfInBounds_toArray, List.set_cons_zero, List.set_cons_succ]
          refine wpAnyH_done (by kernel_rfl) ?_ _
          refine NoPanic.normal ?_
          go_wp2_with fail
          go_ret
          exact ⟨rfl, bbox HB5.out.drew _⟩
        · obtain ⟨hsv, hsome⟩ := HMo.out hc
          have HSM := Lib.hid hsome
          have HSVV := Lib.hid hsv
          clear hc HMo hsv hsome
          obtain ⟨st, hst⟩ : ∃ x, x = modelR a := ⟨_, rfl⟩
          rw [← hst] at HSV HSM HSVV ⊢
          obtain ⟨us, hus⟩ : ∃ x, x = atermsL a ++ ks := ⟨_, rfl⟩
          rw [← hus] at HSM
          replace hus := Lib.hid hus
          clear hst
          go_upto_region 14 with fail
          have kS : Blk (w5.alloc (.cells #[.slice S1 st.values.length s1, .slice S2 st.heap.length s2] tSt)) w5.heap.size tSt #[.slice S1 st.values.length s1, .slice S2 st.heap.length s2] := Blk.new _ _ _
          have hbq : Below w5.heap.size w5 (w5.alloc (.cells #[.slice S1 st.values.length s1, .slice S2 st.heap.length s2] tSt)) := bbox (Below.refl _ _) _
          replace k0r := k0r.next hbq
          replace HSV := Lib.hid (HSV.out.below hbq)
          replace HB5 := Lib.hid (bgo HB5.out hbq)
          replace HW5 := Lib.hid (bgo HW5.out hbq)
          have hz6 := hbq.size
          clear hbq qk0r rk0r lk0r
          generalize (w5.alloc (.cells #[.slice S1 st.values.length s1, .slice S2 st.heap.length s2] tSt)) = V at kS k0r HSV HB5 HW5 hz6 ⊢
          obtain ⟨y, hy⟩ : ∃ y, y = w5.heap.size := ⟨_, rfl⟩
          rw [← hy] at kS HSV ⊢
          clear hy
          refine wp_region_noPanic ?_
          refine wp_region_held_drew (S := (fun w' => (∀ i, w'.cell? ⟨y, i, none⟩ = #[.slice S1 st.values.length s1, .slice S2 st.heap.length s2][i]?) ∧ ∀ i, w'.cell? ⟨w1.heap.size, i, none⟩ = #[.slice F a.facts.length e1, .slice G a.atoms.length e2][i]?)) (by kernel_rfl) (⟨kS.drew.cell, k0r.drew.cell⟩) (fun hHeld => ?_)
          refine wpAnyH_take (i := 0) (v := ?_) rfl (by kernel_rfl) (by kernel_rfl) (by kernel_rfl) (fun _ _ _ h => h) (Or.inl ⟨by rfl, fun w hSw => ?_⟩) hHeld ?_
          rotate_left
          · ((try dsimp only at hSw); go_split_ands; go_simp; (try with_reducible rfl))
          try simp only [Act.put, List.getElem_toArray, List.getElem_cons_zero, List.getElem_cons_succ, List.setIfInBounds_toArray, List.set_cons_zero, List.set_cons_succ]
          refine wpAnyH_take (i := 1) (v := ?_) rfl (by kernel_rfl) (by kernel_rfl) (by kernel_rfl) (fun _ _ _ h => h) (Or.inl ⟨by rfl, fun w hSw => ?_⟩) hHeld ?_
          rotate_left
          · ((try dsimp only at hSw); go_split_ands; go_simp; (try with_reducible rfl))
          try simp only [Act.put, List.getElem_toArray, List.getElem_cons_zero, List.getElem_cons_succ, List.setIfInBounds_toArray, List.set_cons_zero, List.set_cons_succ]
          refine wpAnyH_take (i := 2) (v := ?_) rfl (by kernel_rfl) (by kernel_rfl) (by kernel_rfl) (fun _ _ _ h => h) (Or.inl ⟨by rfl, fun w hSw => ?_⟩) hHeld ?_
          rotate_left
          · ((try dsimp only at hSw); go_split_ands; go_simp; (try with_reducible rfl))
          try simp only [Act.put, List.getElem_toArray, List.getElem_cons_zero, List.getElem_cons_succ, List.setIfInBounds_toArray, List.set_cons_zero, List.set_cons_succ]
          refine wpAnyH_take (i := 3) (v := ?_) rfl (by kernel_rfl) (by kernel_rfl) (by kernel_rfl) (fun _ _ _ h => h) (Or.inl ⟨by rfl, fun w hSw => ?_⟩) hHeld ?_
          rotate_left
          · ((try dsimp only at hSw); go_split_ands; go_simp; (try with_reducible rfl))
          try simp only [Act.put, List.getElem_toArray, List.getElem_cons_zero, List.getElem_cons_succ, List.setIfInBounds_toArray, List.set_cons_zero, List.set_cons_succ]
          refine wpAnyH_take (i := 4) (v := ?_) rfl (by kernel_rfl) (by kernel_rfl) (by kernel_rfl) (fun _ _ _ h => h) (Or.inl ⟨by rfl, fun w hSw => ?_⟩) hHeld ?_
          rotate_left
          · ((try dsimp only at hSw); go_split_ands; go_simp; (try with_reducible rfl))
          try simp only [Act.put, List.getElem_toArray, List.getElem_cons_zero, List.getElem_cons_succ, List.setIfInBounds_toArray, List.set_cons_zero, List.set_cons_succ]
          refine wpAnyH_take (i := 5) (v := ?_) rfl (by kernel_rfl) (by kernel_rfl) (by kernel_rfl) (fun _ _ _ h => h) (Or.inl ⟨by rfl, fun w hSw => ?_⟩) hHeld ?_
          rotate_left
          · ((try dsimp only at hSw); go_split_ands; go_simp; (try with_reducible rfl))
          try simp only [Act.put, List.getElem_toArray, List.getElem_cons_zero, List.getElem_cons_succ, List.setIfInBounds_toArray, List.set_cons_zero, List.set_cons_succ]
          refine wpAnyH_take (i := 6) (v := ?_) rfl (by kernel_rfl) (by kernel_rfl) (by kernel_rfl) (fun _ _ _ h => h) (Or.inl ⟨by rfl, fun w hSw => ?_⟩) hHeld ?_
          rotate_left
          · ((try dsimp only at hSw); go_split_ands; go_simp; (try with_reducible rfl))
          try simp only [Act.put, List.getElem_toArray, List.getElem_cons_zero, List.getElem_cons_succ, List.setIfInBounds_toArray, List.set_cons_zero, List.set_cons_succ]
          refine wpAnyH_ready (rs := [7]) (by kernel_rfl) (by simp) ?_
          refine AllReadyH.cons rfl (fun K hK => ?_) AllReadyH.nil
          try simp only [List.getElem_toArray, List.getElem_cons_zero, List.getElem_cons_succ]
          (go_simp; refine (c_slUsed _ a KA ck ks _ (HV.out.V.below HW5.out.drew) (HKS.out.below HW5.out.drew) (by omega)).mono ?_; rintro e w7 ⟨r7, rfl, oU, hB7⟩; rw [← hus.out] at oU; replace hB7 : Below V.heap.size V w7 := (Below.refl _ _).drew.trans hB7; have kS7 := kS.next hB7; have k07 := k0r.next hB7; have HB7 := Lib.hid (bgo HB5.out hB7); have HW7 := Lib.hid (bgo HW5.out hB7); have HSV7 := Lib.hid (HSV.out.below hB7); obtain ⟨U, u, rfl, fU⟩ := oU.reads; have HU7 := Lib.hid fU; clear oU fU hB7)
          refine hK.out _ _ (⟨kS7.cell, k07.cell⟩) (fun hHeldN => ?_)
          clear hHeld hK K
          have hHeld := hHeldN
          clear hHeldN
          try simp only [Act.put, List.getElem_toArray, List.getElem_cons_zero, List.getElem_cons_succ, List.setIfInBounds_toArray, List.set_cons_zero, List.set_cons_succ]
          refine wpAnyH_ready (rs := [8]) (by kernel_rfl) (by simp) ?_
          refine AllReadyH.cons rfl (fun K hK => ?_) AllReadyH.nil
          try simp only [List.getElem_toArray, List.getElem_cons_zero, List.getElem_cons_succ]
          (go_simp; refine (c_slSome _ st D us A2 c2 U u _ HSV7.out HSVV.out hDl (fun q hq => by obtain ⟨b, o, P, p, Q, q', e, lb, g0, g1, hC⟩ := (O2.out.below HW7.out).atC hq; exact ⟨b, o, P, p, Q, q', e, lb, g0, g1, hC.V.mono0 (Nat.le_refl _)⟩) HU7.out).mono ?_; rintro e w8 ⟨rfl, hB8⟩; rw [HSM.out]; have kS8 := kS7.next hB8; have k08 := k07.next hB8; have HB8 := Lib.hid (bgo HB7.out hB8); clear hB8)
          refine hK.out _ _ (⟨kS8.cell, k08.cell⟩) (fun hHeldN => ?_)
          clear hHeld hK K
          have hHeld := hHeldN
          clear hHeldN
          try simp only [Act.put, List.getElem_toArray, List.getElem_cons_zero, List.getElem_cons_succ, List.setIfInBounds_toArray, List.set_cons_zero, List.set_cons_succ]
          refine wpAnyH_take (i := 9) (v := ?_) rfl (by kernel_rfl) (by kernel_rfl) (by kernel_rfl) (fun _ _ _ h => h) (Or.inl ⟨by rfl, fun w hSw => ?_⟩) hHeld ?_
          rotate_left
          · ((try dsimp only at hSw); go_split_ands; go_simp; (try with_reducible rfl))
          try simp only [Act.put, List.getElem_toArray, List.getElem_cons_zero, List.getElem_cons_succ, List.setIfInBounds_toArray, List.set_cons_zero, List.set_cons_succ]
          refine wpAnyH_take (i := 10) (v := ?_) rfl (by kernel_rfl) (by kernel_rfl) (by kernel_rfl) (fun _ _ _ h => h) (Or.inl ⟨by rfl, fun w hSw => ?_⟩) hHeld ?_
          rotate_left
          · ((try dsimp only at hSw); go_split_ands; go_simp; (try with_reducible rfl))
          try simp only [Act.put, List.getElem_toArray, List.getElem_cons_zero, List.getElem_cons_succ, List.setIfInBounds_toArray, List.set_cons_zero, List.set_cons_succ]
          refine wpAnyH_done (by kernel_rfl) ?_ _
          refine NoPanic.normal ?_
          go_wp2_with fail
          go_ret
          exact ⟨rfl, HB8.out⟩
--@
end Go.Proofs.YtlmjjflalmegfaaGreat
