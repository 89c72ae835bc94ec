/- 'laws.FnExposeAgain' returns true for all bytes that can be read. -/
import Derived.Test.YtlmjjflalmegfaaDrawExp
import Derived.Test.YtlmjjflalmegfaaOpnE
import Derived.Test.YtlmjjflalmegfaaSame
set_option linter.unusedSimpArgs false
set_option linter.unusedVariables false
namespace Go.Proofs.Ytlmjjflalmegfaa
open Go Go.RowKit Go.Proofs
attribute [local go_sem ↓] Go.wp_at_zero Go.wp_at_succ

theorem cell_sat {M : Int → Int} {a : Asn} {x : Atm} {i : Nat} {t : Int} (hx : a.atoms[i]? = some x) (hk : x.kind = 1) (ht : M x.a = M t) (h : Sat M a) : Sat M (cellX a x i t) := by
  have hp := without_perm hx
  have hfx : fillM M x = true := by simp [fillM, hk]
  have hf1 : fillM M ⟨1, t, x.b⟩ = true := by simp [fillM]
  refine ⟨fun f hf => ?_, fun y hy hfy => ?_, ?_⟩
  · rcases List.mem_append.1 hf with hf | hf
    · exact h.facts f hf
    · split at hf
      · cases hf
      · obtain rfl := List.mem_singleton.1 hf
        simp [ht]
  · rcases List.mem_cons.1 hy with rfl | hy
    · show M t ≠ M 0
      rw [← ht]
      exact h.nil x (hp.mem_iff.2 (List.mem_cons_self ..)) hfx
    · exact h.nil y (hp.mem_iff.2 (List.mem_cons_of_mem _ hy)) hfy
  · have h2 := ((hp.filter (fillM M)).map fun x => M x.a).nodup_iff.1 h.apart
    rw [List.filter_cons, if_pos hfx] at h2
    show (((⟨1, t, x.b⟩ :: withoutL a.atoms i).filter (fillM M)).map fun x => M x.a).Nodup
    rw [List.filter_cons, if_pos hf1]
    simp only [List.map_cons] at h2 ⊢
    rwa [ht] at h2
theorem again_cell {a : Asn} {x : Atm} {i : Nat} {t : Int} {K n : Nat} (ha : consB a = true) (hf : findK a 1 t = some i) (hx : a.atoms[i]? = some x) (hv : (cellX a x i t).valid = true) : exposeF (n + 1) (cellX a x i t) t K = some [cellX a x i t] := by
  obtain ⟨x', hx', hk, himp, hil⟩ := find_some hf
  obtain rfl : x' = x := Option.some.inj (hx'.symm.trans hx)
  obtain ⟨hva, M, hM⟩ := consB_iff.1 ha
  have hMt : M x'.a = M t := by
    have := (imp_iff.1 himp).2.2 M hM
    simpa using this
  have hc : consB (cellX a x' i t) = true := consB_iff.2 ⟨hv, M, cell_sat hx hk hMt hM⟩
  have htv : isTermB t = true := by
    have := (imp_iff.1 himp).2.1
    simp only [Fct.valid, Bool.and_eq_true] at this
    exact this.2
  have hfind : findK (cellX a x' i t) 1 t = some 0 := by
    refine findK_yes (by simp [cellX]) (fun j hj => by omega) ?_
    unfold findP
    have e0 : (cellX a x' i t).atoms[0]? = some ⟨1, t, x'.b⟩ := by simp [cellX]
    rw [e0]
    have : impB (cellX a x' i t) ⟨true, t, t⟩ = true := imp_iff.2 ⟨hv, by simp [Fct.valid, htv], fun M _ => by simp⟩
    simp [this]
  have e0 : (cellX a x' i t).atoms[0]? = some ⟨1, t, x'.b⟩ := by simp [cellX]
  have e2 : cellX (cellX a x' i t) ⟨1, t, x'.b⟩ 0 t = cellX a x' i t := by
    generalize hb : cellX a x' i t = b
    have h1 : b.atoms = ⟨1, t, x'.b⟩ :: withoutL a.atoms i := by rw [← hb]; rfl
    cases b with
    | mk fs xs =>
      simp only at h1
      subst h1
      simp [cellX, withoutL]
  rw [expose_cell hv hc hfind e0, e2, if_pos hv]
theorem expose_again : ∀ {n : Nat} {a : Asn} {t : Int} {K m K' : Nat} {l : List Asn}, exposeF n a t K = some l → ∀ b ∈ l, exposeF (m + 1) b t K' = some [b]
  | 0, _, _, _, _, _, _, h => by cases h
  | n + 1, a, t, K, m, K', l, h => by
    intro b hb
    unfold exposeF at h
    split at h
    · cases h
    · split at h
      · obtain rfl := Option.some.inj h; cases hb
      · rename_i hc
        split at h
        · rename_i i hf
          obtain ⟨x, hx, -⟩ := find_some hf
          rw [hx, Option.getD_some] at h
          split at h
          · rename_i hv
            obtain rfl := Option.some.inj h
            obtain rfl := List.mem_singleton.1 hb
            exact again_cell (by simpa using hc) hf hx hv
          · cases h
        · split at h
          · cases h
          · split at h
            · cases h
            · split at h
              · cases h
              · split at h
                · cases h
                · rename_i e1 _ _ e2
                  obtain rfl := Option.some.inj h
                  rcases List.mem_append.1 hb with hb | hb
                  · exact expose_again e1 b hb
                  · exact expose_again e2 b hb
theorem exposeR_again {a : Asn} {t : Int} {ks : List Int} {l : List Asn} (h : exposeR a t ks = some l) : ∀ b ∈ l, exposeR b t ks = some [b] := by
  intro b hb
  unfold exposeR at h ⊢
  split at h
  · rename_i hc
    rw [Bool.and_eq_true] at hc
    have hv := (expose_ok h).2 b hb
    rw [hv, hc.2]
    exact expose_again h b hb
  · cases h
theorem A2O.atC {w : World} {base n c : Nat} {A : Option Addr} {vs : List Value} {ss : List Asn} (h : A2O w base (.slice A n c) vs ss) {k : Nat} (hk : k < ss.length) : ∃ b o B c D d, A = some ⟨b, o, none⟩ ∧ b < w.heap.size ∧ w.cell? ⟨b, o + k*2, none⟩ = some (.slice B ss[k].facts.length c) ∧ w.cell? ⟨b, o + k*2 + 1, none⟩ = some (.slice D ss[k].atoms.length d) ∧ AsnC w base w.heap.size (.agg #[.slice B ss[k].facts.length c, .slice D ss[k].atoms.length d]) ss[k] := by
  have hl : (rowsA ss).length = ss.length * 2 := rowsA_len ss
  have hvl := h.els.len
  obtain ⟨b, o, B, c1, e1, lb, g0, e2⟩ := h.at (k := k*2) (by omega) (by omega)
  obtain ⟨b', o', D, d1, e1', -, g1, e2'⟩ := h.at (k := k*2+1) (by omega) (by omega)
  obtain ⟨rfl, rfl⟩ : b = b' ∧ o = o' := by rw [e1] at e1'; injection e1' with e; injection e with e3 e4; exact ⟨e3, e4⟩
  obtain ⟨x1, x2⟩ := rowsA_get ss k hk
  have a1 := h.els.at_ (k*2) (by omega) (by omega)
  have a2 := h.els.at_ (k*2+1) (by omega) (by omega)
  rw [get_ofA x1 (by omega)] at g0 e2 a1
  rw [get_ofA x2 (by omega)] at g1 e2' a2
  rw [e2] at a1
  rw [e2'] at a2
  exact ⟨b, o, B, c1, D, d1, e1, lb, g0, g1, AsnO.C ⟨_, _, rfl, a1, a2⟩⟩
--@ impl.AssertionSame
theorem c_impl_SameT {lo hi lo' hi' : Nat} (v v' : Value) (a : Asn) (w : World) (h : AsnV w lo hi v a) (h' : AsnV w lo' hi' v' a) : Calls Try.prog 20 #[v, v'] w fun e w' => e = .returned (.bool true) ∧ Below w.heap.size w w' := by
  refine (c_impl_Same v v' a a w h h').mono ?_
  rintro e w' ⟨rfl, hB⟩
  exact ⟨by simp, hB⟩
--@ laws.slAssertions
set_option maxRecDepth 100000 in
set_option maxHeartbeats 1600000 in
theorem t_slAsns {lo hi lo' hi' : Nat} (A A' : Option Addr) (c c' : Nat) (x : List Asn) (w : World) (h : AsnsV w lo hi A x) (h' : AsnsV w lo' hi' A' x) : Calls Try.prog 19 #[.slice A x.length c, .slice A' x.length c'] w fun e w' => e = .returned (.bool true) ∧ Below w.heap.size w w' := by
  have hl : x.length ≤ 1049600 := by obtain ⟨vs, h1, -⟩ := h; exact h1.lim
  have H := Lib.hid h
  have H' := Lib.hid h'
  clear h h'
  go_enter Try.func19, Try.ntmps19
  go_wp2_with fail
  go_loopw [5] (fun i wr => ∃ k : Nat, k ≤ x.length ∧ i = .int .i64 k ∧ Hid (Below w.heap.size w wr)) (fun i _ => x.length - (intOf i).toNat)
  case atStart => exact ⟨0, Nat.zero_le _, rfl, Lib.hid (Below.refl _ _)⟩
  case round =>
    obtain ⟨k, hk, rfl, HB⟩ := hrel
    by_cases hlt : k < x.length
    · obtain ⟨b, o, R, d, R2, d2, rfl, lb, g0, g1, v0, v1⟩ := (H.out.below HB.out).at hlt
      obtain ⟨b', o', R', d', R2', d2', rfl, lb', g0', g1', v0', v1'⟩ := (H'.out.below HB.out).at hlt
      have hkx : (k : Int) < (x.length : Int) := by omega
      have S1 : Hid (AsnV wr lo hi (.agg #[.slice R x[k].facts.length d, .slice R2 x[k].atoms.length d2]) x[k]) := Lib.hid ⟨_, _, _, _, rfl, v0, v1⟩
      have S2 : Hid (AsnV wr lo' hi' (.agg #[.slice R' x[k].facts.length d', .slice R2' x[k].atoms.length d2']) x[k]) := Lib.hid ⟨_, _, _, _, rfl, v0', v1'⟩
      clear v0 v1 v0' v1'
      obtain ⟨s, hs⟩ : ∃ s, s = x[k] := ⟨_, rfl⟩
      rw [← hs] at g0 g1 g0' g1' S1 S2
      clear hs
      go_wp2_with fail
      refine wp_region_noPanic ?_
      refine wp_region_held_drew (S := (fun w' => (w'.cell? ⟨b, o + k*2, none⟩ = some (.slice R s.facts.length d) ∧ w'.cell? ⟨b, o + k*2 + 1, none⟩ = some (.slice R2 s.atoms.length d2)) ∧ w'.cell? ⟨b', o' + k*2, none⟩ = some (.slice R' s.facts.length d') ∧ w'.cell? ⟨b', o' + k*2 + 1, none⟩ = some (.slice R2' s.atoms.length d2'))) (by kernel_rfl) (⟨⟨g0, g1⟩, g0', g1'⟩) (fun hHeld => ?_)
      refine wpAnyH_take (i := 0) (v := ?_) rfl (by kernel_rfl) (by kernel_rfl) (by kernel_rfl) (fun _ _ _ h => h) (Or.inl ⟨by rfl, fun w hSw => ?_⟩) hHeld ?_
      rotate_left
      · ((try dsimp only at hSw); go_split_ands; go_simp; (try with_reducible rfl))
      try simp only [Act.put, List.getElem_toArray, List.getElem_cons_zero, List.getElem_cons_succ, List.setIfInBounds_toArray, List.set_cons_zero, List.set_cons_succ]
      refine wpAnyH_take (i := 1) (v := ?_) rfl (by kernel_rfl) (by kernel_rfl) (by kernel_rfl) (fun _ _ _ h => h) (Or.inl ⟨by rfl, fun w hSw => ?_⟩) hHeld ?_
      rotate_left
      · ((try dsimp only at hSw); go_split_ands; go_simp; (try with_reducible rfl))
      try simp only [Act.put, List.getElem_toArray, List.getElem_cons_zero, List.getElem_cons_succ, List.setIfInBounds_toArray, List.set_cons_zero, List.set_cons_succ]
      refine wpAnyH_take (i := 2) (v := ?_) rfl (by kernel_rfl) (by kernel_rfl) (by kernel_rfl) (fun _ _ _ h => h) (Or.inl ⟨by rfl, fun w hSw => ?_⟩) hHeld ?_
      rotate_left
      · ((try dsimp only at hSw); go_split_ands; go_simp; (try with_reducible rfl))
      try simp only [Act.put, List.getElem_toArray, List.getElem_cons_zero, List.getElem_cons_succ, List.setIfInBounds_toArray, List.set_cons_zero, List.set_cons_succ]
      refine wpAnyH_take (i := 3) (v := ?_) rfl (by kernel_rfl) (by kernel_rfl) (by kernel_rfl) (fun _ _ _ h => h) (Or.inl ⟨by rfl, fun w hSw => ?_⟩) hHeld ?_
      rotate_left
      · ((try dsimp only at hSw); go_split_ands; go_simp; (try with_reducible rfl))
      try simp only [Act.put, List.getElem_toArray, List.getElem_cons_zero, List.getElem_cons_succ, List.setIfInBounds_toArray, List.set_cons_zero, List.set_cons_succ]
      refine wpAnyH_take (i := 4) (v := ?_) rfl (by kernel_rfl) (by kernel_rfl) (by kernel_rfl) (fun _ _ _ h => h) (Or.inl ⟨by rfl, fun w hSw => ?_⟩) hHeld ?_
      rotate_left
      · ((try dsimp only at hSw); go_split_ands; go_simp; (try with_reducible rfl))
      try simp only [Act.put, List.getElem_toArray, List.getElem_cons_zero, List.getElem_cons_succ, List.setIfInBounds_toArray, List.set_cons_zero, List.set_cons_succ]
      refine wpAnyH_take (i := 5) (v := ?_) rfl (by kernel_rfl) (by kernel_rfl) (by kernel_rfl) (fun _ _ _ h => h) (Or.inl ⟨by rfl, fun w hSw => ?_⟩) hHeld ?_
      rotate_left
      · ((try dsimp only at hSw); go_split_ands; go_simp; (try with_reducible rfl))
      try simp only [Act.put, List.getElem_toArray, List.getElem_cons_zero, List.getElem_cons_succ, List.setIfInBounds_toArray, List.set_cons_zero, List.set_cons_succ]
      refine wpAnyH_take (i := 6) (v := ?_) rfl (by kernel_rfl) (by kernel_rfl) (by kernel_rfl) (fun _ _ _ h => h) (Or.inl ⟨by rfl, fun w hSw => ?_⟩) hHeld ?_
      rotate_left
      · ((try dsimp only at hSw); go_split_ands; go_simp; (try with_reducible rfl))
      try simp only [Act.put, List.getElem_toArray, List.getElem_cons_zero, List.getElem_cons_succ, List.setIfInBounds_toArray, List.set_cons_zero, List.set_cons_succ]
      refine wpAnyH_take (i := 7) (v := ?_) rfl (by kernel_rfl) (by kernel_rfl) (by kernel_rfl) (fun _ _ _ h => h) (Or.inl ⟨by rfl, fun w hSw => ?_⟩) hHeld ?_
      rotate_left
      · ((try dsimp only at hSw); go_split_ands; go_simp; (try with_reducible rfl))
      try simp only [Act.put, List.getElem_toArray, List.getElem_cons_zero, List.getElem_cons_succ, List.setIfInBounds_toArray, List.set_cons_zero, List.set_cons_succ]
      refine wpAnyH_ready (rs := [8]) (by kernel_rfl) (by simp) ?_
      refine AllReadyH.cons rfl (fun K hK => ?_) AllReadyH.nil
      try simp only [List.getElem_toArray, List.getElem_cons_zero, List.getElem_cons_succ]
      (go_simp; refine (c_impl_SameT _ _ s _ (S1.out.below (Below.refl _ _).drew) (S2.out.below (Below.refl _ _).drew)).mono ?_; rintro e w1 ⟨rfl, hB1⟩; have hS : Below wr.heap.size wr w1 := (Below.refl _ _).drew.trans hB1)
      refine hK.out _ _ (⟨⟨(hS.cell (p := ⟨b, o + k*2, none⟩) lb).trans g0, (hS.cell (p := ⟨b, o + k*2 + 1, none⟩) lb).trans g1⟩, (hS.cell (p := ⟨b', o' + k*2, none⟩) lb').trans g0', (hS.cell (p := ⟨b', o' + k*2 + 1, none⟩) lb').trans g1'⟩) (fun hHeldN => ?_)
      clear hHeld hK K
      have hHeld := hHeldN
      clear hHeldN
      try simp only [Act.put, List.getElem_toArray, List.getElem_cons_zero, List.getElem_cons_succ, List.setIfInBounds_toArray, List.set_cons_zero, List.set_cons_succ]
      refine wpAnyH_take (i := 9) (v := ?_) rfl (by kernel_rfl) (by kernel_rfl) (by kernel_rfl) (fun _ _ _ h => h) (Or.inl ⟨by rfl, fun w hSw => ?_⟩) hHeld ?_
      rotate_left
      · ((try dsimp only at hSw); go_split_ands; go_simp; (try with_reducible rfl))
      try simp only [Act.put, List.getElem_toArray, List.getElem_cons_zero, List.getElem_cons_succ, List.setIfInBounds_toArray, List.set_cons_zero, List.set_cons_succ]
      refine wpAnyH_done (by kernel_rfl) ?_ _
      refine NoPanic.normal ?_
      have HB2 := Lib.hid (bgo HB.out hS)
      go_wp2_with fail
      go_round
      case rel => exact ⟨k + 1, by omega, by go_num, HB2⟩
      case measure => simp [intOf]; omega
    · obtain rfl : k = x.length := by omega
      go_wp2_with fail
      go_ret
      exact ⟨rfl, HB.out⟩
--@ laws.FnExposeAgain
set_option maxRecDepth 100000 in
set_option maxHeartbeats 6400000 in
theorem c_FnExposeAgain (v : Value) (A : Option Addr × Nat × Nat) (w : World) (h : v = .slice A.1 A.2.1 A.2.2 ∧ BytesR w A.1 A.2.1 A.2.2) : Calls Try.prog 4 #[v] w fun e w' => e = .returned (.bool true) ∧ Below w.heap.size w w' := by
  obtain ⟨A, n, c⟩ := A
  obtain ⟨rfl, hR⟩ := h
  simp only at hR ⊢
  have HR := Lib.hid hR
  clear hR
  by_cases hn : 1048576 < n
  · have hni : (1048576 : Int) < (n : Int) := by omega
    clear hn
    go_enter Try.func4, Try.ntmps4
    go_wp2_with fail
    go_ret
    exact ⟨rfl, bel⟩
  have hni : ¬ (1048576 : Int) < (n : Int) := by omega
  clear hn
  go_enter Try.func4, Try.ntmps4
  go_wp2_with fail
  refine (c_DrawExpose A n c _ HR.out).mono ?_
  rintro e w1 ⟨r, t, kv, a, ks, rfl, o, ok, hlen, -, hB1⟩
  obtain ⟨F, e1, G, e2, rfl, -⟩ := o.C
  obtain ⟨K, ck, rfl, fk⟩ := ok.reads
  have hbq := bbox (Below.refl w1.heap.size w1) (.cells #[.slice F a.facts.length e1, .slice G a.atoms.length e2] tAs)
  have HV := Lib.hid ((o.below hbq).C)
  have HK := Lib.hid (fk.below hbq)
  have k0 : Blk (w1.alloc (.cells #[.slice F a.facts.length e1, .slice G a.atoms.length e2] tAs)) w1.heap.size tAs #[.slice F a.facts.length e1, .slice G a.atoms.length e2] := Blk.new _ _ _
  have hz : w1.heap.size < (w1.alloc (.cells #[.slice F a.facts.length e1, .slice G a.atoms.length e2] tAs)).heap.size := by simp
  have HB := Lib.hid (bgo hB1 hbq)
  clear hbq o ok fk hB1 HR hni
  go_upto_region 4 with fail
  generalize (w1.alloc (.cells #[.slice F a.facts.length e1, .slice G a.atoms.length e2] tAs)) = W1 at k0 HV HK HB hz ⊢
  (replace qk0 := k0.cell; replace rk0 := k0.frozen; replace lk0 := k0.lt)
  go_wp2_with fail
  refine (c_impl_ExposeCell _ a t K ck ks _ HV.out (Nat.le_refl _) HK.out).mono ?_
  rintro e w2 ⟨r2, rfl, ⟨⟨vs, o2⟩, -⟩, hB2⟩
  have HX := Lib.hid (fun l (h : exposeR a t ks = some l) => exposeR_again h)
  obtain ⟨A2, c2, rfl⟩ := o2.form
  replace HV := Lib.hid (HV.out.below hB2)
  replace HK := Lib.hid (HK.out.below hB2)
  replace HB := Lib.hid (bgo HB.out hB2)
  replace k0 := k0.next hB2
  have O2 := Lib.hid o2
  have hz2 := hB2.size
  clear hB2 o2 qk0 rk0 lk0
  (replace qk0 := k0.cell; replace rk0 := k0.frozen; replace lk0 := k0.lt)
  go_wp2_with fail
  refine (c_spec_ExposeCell _ a t K ck ks _ HV.out HK.out).mono ?_
  rintro e w3 ⟨r3, rfl, ⟨⟨vs', o3⟩, -⟩, hB3⟩
  obtain ⟨A3, c3, rfl⟩ := o3.form
  replace HV := Lib.hid (HV.out.below hB3)
  replace HK := Lib.hid (HK.out.below hB3)
  replace HB := Lib.hid (bgo HB.out hB3)
  replace O2 := Lib.hid (O2.out.below hB3)
  have O3 := Lib.hid o3
  have hz3 := hB3.size
  clear hB3 o3 qk0 rk0 lk0 k0
  cases hE : exposeR a t ks
  case none =>
    rw [hE] at O2 O3
    clear hE HX
    simp only [Option.getD_none] at O2 O3 ⊢
    go_wp2_with fail
    refine (t_slAsns A2 A3 c2 c3 [] _ O2.out.reads.2 O3.out.reads.2).mono ?_
    rintro e w4 ⟨rfl, hB4⟩
    have HB4 := Lib.hid (bgo HB.out hB4)
    have O24 := Lib.hid (O2.out.below hB4)
    have O34 := Lib.hid (O3.out.below hB4)
    clear hB4
    go_wp2_with fail
    refine (t_slAsns A2 A3 c2 c3 [] _ O24.out.reads.2 O34.out.reads.2).mono ?_
    rintro e w5 ⟨rfl, hB5⟩
    have HB5 := Lib.hid (bgo HB4.out hB5)
    go_wp2_with fail
    go_ret
    exact ⟨rfl, HB5.out⟩
  case some D =>
    rw [hE] at O2 O3
    have HAg := Lib.hid (HX.out D hE)
    clear hE HX
    simp only [Option.getD_some] at O2 O3 ⊢
    have hDl : D.length ≤ 1049600 := O2.out.lim
    go_wp2_with fail
    refine (t_slAsns A2 A3 c2 c3 D _ O2.out.reads.2 O3.out.reads.2).mono ?_
    rintro e w4 ⟨rfl, hB4⟩
    replace HB := Lib.hid (bgo HB.out hB4)
    replace O2 := Lib.hid (O2.out.below hB4)
    replace HK := Lib.hid (HK.out.below hB4)
    have hz4 := hB4.size
    clear hB4 O3 HV
    go_wp2_with fail
    go_loopw [10] (fun i wr => ∃ k : Nat, k ≤ D.length ∧ i = .int .i64 k ∧ Hid (Below w4.heap.size w4 wr)) (fun i _ => D.length - (intOf i).toNat)
    case atStart => exact ⟨0, Nat.zero_le _, rfl, Lib.hid (Below.refl _ _)⟩
    case round =>
      obtain ⟨k, hk, rfl, HW⟩ := hrel
      have hzw := HW.out.size
      by_cases hlt : k < D.length
      · have hki : (k : Int) < (D.length : Int) := by omega
        obtain ⟨b, o, R, d, R2, d2, hA2, lb, g0, g1, HC0⟩ := (O2.out.below HW.out).atC hlt
        subst hA2
        have HC := Lib.hid HC0
        have HE := Lib.hid (HAg.out D[k] (List.getElem_mem hlt))
        obtain ⟨s, hse⟩ : ∃ s, s = D[k] := ⟨_, rfl⟩
        rw [← hse] at g0 g1 HC HE
        clear hse HC0
        go_wp2_with fail
        refine (c_impl_ExposeCell _ s t K ck ks _ HC.out (Nat.le_refl _) (HK.out.below HW.out)).mono ?_
        rintro e w5 ⟨r5, rfl, ⟨⟨vs5, o5⟩, -⟩, hB5⟩
        rw [HE.out] at o5 ⊢
        simp only [Option.getD_some] at o5 ⊢
        obtain ⟨A5, c5, rfl⟩ := o5.form
        obtain ⟨b5, x5, R5, d5, Q5, q5, e5, lb5, j0, j1, HC5⟩ := o5.atC (k := 0) (by simp)
        subst e5
        simp only [List.getElem_cons_zero, Nat.zero_mul, Nat.add_zero, List.length_cons, List.length_nil, Nat.zero_add] at j0 j1 HC5 ⊢
        have HS5 := Lib.hid HC5
        have i0 := (hB5.cell (p := ⟨b, o + k*2, none⟩) lb).trans g0
        have i1 := (hB5.cell (p := ⟨b, o + k*2 + 1, none⟩) lb).trans g1
        have lbn : b < w5.heap.size := Nat.lt_of_lt_of_le lb hB5.size
        replace HC := Lib.hid (HC.out.below hB5)
        have HW5 := Lib.hid (bgo HW.out hB5)
        clear hB5 o5 HC5 g0 g1
        go_wp2_with fail
        refine wp_region_noPanic ?_
        refine wp_region_held_drew (S := (fun w' => (w'.cell? ⟨b, o + k*2, none⟩ = some (.slice R s.facts.length d) ∧ w'.cell? ⟨b, o + k*2 + 1, none⟩ = some (.slice R2 s.atoms.length d2)) ∧ w'.cell? ⟨b5, x5, none⟩ = some (.slice R5 s.facts.length d5) ∧ w'.cell? ⟨b5, x5 + 1, none⟩ = some (.slice Q5 s.atoms.length q5))) (by kernel_rfl) (⟨⟨i0, i1⟩, j0, j1⟩) (fun hHeld => ?_)
        refine wpAnyH_take (i := 0) (v := ?_) rfl (by kernel_rfl) (by kernel_rfl) (by kernel_rfl) (fun _ _ _ h => h) (Or.inl ⟨by rfl, fun w hSw => ?_⟩) hHeld ?_
        rotate_left
        · ((try dsimp only at hSw); go_split_ands; go_simp; (try with_reducible rfl))
        try simp only [Act.put, List.getElem_toArray, List.getElem_cons_zero, List.getElem_cons_succ, List.setIfInBounds_toArray, List.set_cons_zero, List.set_cons_succ]
        refine wpAnyH_take (i := 1) (v := ?_) rfl (by kernel_rfl) (by kernel_rfl) (by kernel_rfl) (fun _ _ _ h => h) (Or.inl ⟨by rfl, fun w hSw => ?_⟩) hHeld ?_
        rotate_left
        · ((try dsimp only at hSw); go_split_ands; go_simp; (try with_reducible rfl))
        try simp only [Act.put, List.getElem_toArray, List.getElem_cons_zero, List.getElem_cons_succ, List.setIfInBounds_toArray, List.set_cons_zero, List.set_cons_succ]
        refine wpAnyH_take (i := 2) (v := ?_) rfl (by kernel_rfl) (by kernel_rfl) (by kernel_rfl) (fun _ _ _ h => h) (Or.inl ⟨by rfl, fun w hSw => ?_⟩) hHeld ?_
        rotate_left
        · ((try dsimp only at hSw); go_split_ands; go_simp; (try with_reducible rfl))
        try simp only [Act.put, List.getElem_toArray, List.getElem_cons_zero, List.getElem_cons_succ, List.setIfInBounds_toArray, List.set_cons_zero, List.set_cons_succ]
        refine wpAnyH_take (i := 3) (v := ?_) rfl (by kernel_rfl) (by kernel_rfl) (by kernel_rfl) (fun _ _ _ h => h) (Or.inl ⟨by rfl, fun w hSw => ?_⟩) hHeld ?_
        rotate_left
        · ((try dsimp only at hSw); go_split_ands; go_simp; (try with_reducible rfl))
        try simp only [Act.put, List.getElem_toArray, List.getElem_cons_zero, List.getElem_cons_succ, List.setIfInBounds_toArray, List.set_cons_zero, List.set_cons_succ]
        refine wpAnyH_take (i := 4) (v := ?_) rfl (by kernel_rfl) (by kernel_rfl) (by kernel_rfl) (fun _ _ _ h => h) (Or.inl ⟨by rfl, fun w hSw => ?_⟩) hHeld ?_
        rotate_left
        · ((try dsimp only at hSw); go_split_ands; go_simp; (try with_reducible rfl))
        try simp only [Act.put, List.getElem_toArray, List.getElem_cons_zero, List.getElem_cons_succ, List.setIfInBounds_toArray, List.set_cons_zero, List.set_cons_succ]
        refine wpAnyH_take (i := 5) (v := ?_) rfl (by kernel_rfl) (by kernel_rfl) (by kernel_rfl) (fun _ _ _ h => h) (Or.inl ⟨by rfl, fun w hSw => ?_⟩) hHeld ?_
        rotate_left
        · ((try dsimp only at hSw); go_split_ands; go_simp; (try with_reducible rfl))
        try simp only [Act.put, List.getElem_toArray, List.getElem_cons_zero, List.getElem_cons_succ, List.setIfInBounds_toArray, List.set_cons_zero, List.set_cons_succ]
        refine wpAnyH_take (i := 6) (v := ?_) rfl (by kernel_rfl) (by kernel_rfl) (by kernel_rfl) (fun _ _ _ h => h) (Or.inl ⟨by rfl, fun w hSw => ?_⟩) hHeld ?_
        rotate_left
        · ((try dsimp only at hSw); go_split_ands; go_simp; (try with_reducible rfl))
        try simp only [Act.put, List.getElem_toArray, List.getElem_cons_zero, List.getElem_cons_succ, List.setIfInBounds_toArray, List.set_cons_zero, List.set_cons_succ]
        refine wpAnyH_take (i := 7) (v := ?_) rfl (by kernel_rfl) (by kernel_rfl) (by kernel_rfl) (fun _ _ _ h => h) (Or.inl ⟨by rfl, fun w hSw => ?_⟩) hHeld ?_
        rotate_left
        · ((try dsimp only at hSw); go_split_ands; go_simp; (try with_reducible rfl))
        try simp only [Act.put, List.getElem_toArray, List.getElem_cons_zero, List.getElem_cons_succ, List.setIfInBounds_toArray, List.set_cons_zero, List.set_cons_succ]
        refine wpAnyH_take (i := 8) (v := ?_) rfl (by kernel_rfl) (by kernel_rfl) (by kernel_rfl) (fun _ _ _ h => h) (Or.inl ⟨by rfl, fun w hSw => ?_⟩) hHeld ?_
        rotate_left
        · ((try dsimp only at hSw); go_split_ands; go_simp; (try with_reducible rfl))
        try simp only [Act.put, List.getElem_toArray, List.getElem_cons_zero, List.getElem_cons_succ, List.setIfInBounds_toArray, List.set_cons_zero, List.set_cons_succ]
        refine wpAnyH_take (i := 9) (v := ?_) rfl (by kernel_rfl) (by kernel_rfl) (by kernel_rfl) (fun _ _ _ h => h) (Or.inl ⟨by rfl, fun w hSw => ?_⟩) hHeld ?_
        rotate_left
        · ((try dsimp only at hSw); go_split_ands; go_simp; (try with_reducible rfl))
        try simp only [Act.put, List.getElem_toArray, List.getElem_cons_zero, List.getElem_cons_succ, List.setIfInBounds_toArray, List.set_cons_zero, List.set_cons_succ]
        refine wpAnyH_take (i := 10) (v := ?_) rfl (by kernel_rfl) (by kernel_rfl) (by kernel_rfl) (fun _ _ _ h => h) (Or.inl ⟨by rfl, fun w hSw => ?_⟩) hHeld ?_
        rotate_left
        · ((try dsimp only at hSw); go_split_ands; go_simp; (try with_reducible rfl))
        try simp only [Act.put, List.getElem_toArray, List.getElem_cons_zero, List.getElem_cons_succ, List.setIfInBounds_toArray, List.set_cons_zero, List.set_cons_succ]
        refine wpAnyH_take (i := 11) (v := ?_) rfl (by kernel_rfl) (by kernel_rfl) (by kernel_rfl) (fun _ _ _ h => h) (Or.inl ⟨by rfl, fun w hSw => ?_⟩) hHeld ?_
        rotate_left
        · ((try dsimp only at hSw); go_split_ands; go_simp; (try with_reducible rfl))
        try simp only [Act.put, List.getElem_toArray, List.getElem_cons_zero, List.getElem_cons_succ, List.setIfInBounds_toArray, List.set_cons_zero, List.set_cons_succ]
        refine wpAnyH_take (i := 12) (v := ?_) rfl (by kernel_rfl) (by kernel_rfl) (by kernel_rfl) (fun _ _ _ h => h) (Or.inl ⟨by rfl, fun w hSw => ?_⟩) hHeld ?_
        rotate_left
        · ((try dsimp only at hSw); go_split_ands; go_simp; (try with_reducible rfl))
        try simp only [Act.put, List.getElem_toArray, List.getElem_cons_zero, List.getElem_cons_succ, List.setIfInBounds_toArray, List.set_cons_zero, List.set_cons_succ]
        refine wpAnyH_take (i := 13) (v := ?_) rfl (by kernel_rfl) (by kernel_rfl) (by kernel_rfl) (fun _ _ _ h => h) (Or.inl ⟨by rfl, fun w hSw => ?_⟩) hHeld ?_
        rotate_left
        · ((try dsimp only at hSw); go_split_ands; go_simp; (try with_reducible rfl))
        try simp only [Act.put, List.getElem_toArray, List.getElem_cons_zero, List.getElem_cons_succ, List.setIfInBounds_toArray, List.set_cons_zero, List.set_cons_succ]
        refine wpAnyH_take (i := 14) (v := ?_) rfl (by kernel_rfl) (by kernel_rfl) (by kernel_rfl) (fun _ _ _ h => h) (Or.inl ⟨by rfl, fun w hSw => ?_⟩) hHeld ?_
        rotate_left
        · ((try dsimp only at hSw); go_split_ands; go_simp; (try with_reducible rfl))
        try simp only [Act.put, List.getElem_toArray, List.getElem_cons_zero, List.getElem_cons_succ, List.setIfInBounds_toArray, List.set_cons_zero, List.set_cons_succ]
        refine wpAnyH_ready (rs := [15]) (by kernel_rfl) (by simp) ?_
        refine AllReadyH.cons rfl (fun K hK => ?_) AllReadyH.nil
        try simp only [List.getElem_toArray, List.getElem_cons_zero, List.getElem_cons_succ]
        (go_simp; refine (c_impl_SameT _ _ s _ (HS5.out.V.below (Below.refl _ _).drew) (HC.out.V.below (Below.refl _ _).drew)).mono ?_; rintro e w6 ⟨rfl, hB6⟩; have hS : Below w5.heap.size w5 w6 := (Below.refl _ _).drew.trans hB6)
        refine hK.out _ _ (⟨⟨(hS.cell (p := ⟨b, o + k*2, none⟩) lbn).trans i0, (hS.cell (p := ⟨b, o + k*2 + 1, none⟩) lbn).trans i1⟩, (hS.cell (p := ⟨b5, x5, none⟩) lb5).trans j0, (hS.cell (p := ⟨b5, x5 + 1, none⟩) lb5).trans j1⟩) (fun hHeldN => ?_)
        clear hHeld hK K
        have hHeld := hHeldN
        clear hHeldN
        try simp only [Act.put, List.getElem_toArray, List.getElem_cons_zero, List.getElem_cons_succ, List.setIfInBounds_toArray, List.set_cons_zero, List.set_cons_succ]
        refine wpAnyH_take (i := 16) (v := ?_) rfl (by kernel_rfl) (by kernel_rfl) (by kernel_rfl) (fun _ _ _ h => h) (Or.inl ⟨by rfl, fun w hSw => ?_⟩) hHeld ?_
        rotate_left
        · ((try dsimp only at hSw); go_split_ands; go_simp; (try with_reducible rfl))
        try simp only [Act.put, List.getElem_toArray, List.getElem_cons_zero, List.getElem_cons_succ, List.setIfInBounds_toArray, List.set_cons_zero, List.set_cons_succ]
        refine wpAnyH_take (i := 17) (v := ?_) rfl (by kernel_rfl) (by kernel_rfl) (by kernel_rfl) (fun _ _ _ h => h) (Or.inl ⟨by rfl, fun w hSw => ?_⟩) hHeld ?_
        rotate_left
        · ((try dsimp only at hSw); go_split_ands; go_simp; (try with_reducible rfl))
        try simp only [Act.put, List.getElem_toArray, List.getElem_cons_zero, List.getElem_cons_succ, List.setIfInBounds_toArray, List.set_cons_zero, List.set_cons_succ]
        refine wpAnyH_done (by kernel_rfl) ?_ _
        refine NoPanic.normal ?_
        have HW6 := Lib.hid (bgo HW5.out hS)
        go_wp2_with fail
        go_round
        case rel => exact ⟨k + 1, by omega, by go_num, HW6⟩
        case measure => simp [intOf]; omega
      · obtain rfl : k = D.length := by omega
        go_wp2_with fail
        go_ret
        exact ⟨rfl, bgo HB.out HW.out⟩
--@
end Go.Proofs.Ytlmjjflalmegfaa
