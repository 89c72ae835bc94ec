/- Contracts: impl's cases. -/
import Derived.Test.YtlmjjflalmegfaaGreatMFrame
import Derived.Test.YtlmjjflalmegfaaGreatMMatch
import Derived.Test.YtlmjjflalmegfaaGreatSubst
set_option linter.unusedSimpArgs false
set_option linter.unusedVariables false
namespace Go.Proofs.YtlmjjflalmegfaaGreat
open Go Go.RowKit Go.Proofs
attribute [local go_sem ↓] Go.wp_at_zero Go.wp_at_succ

abbrev tTc : Nat := 105
/-- the value of a case -/
abbrev cval (c : List Int) : Value := .agg (encI c).toArray
theorem case_cell {w : World} {g : Nat} {c : List Int} {t : TypeId} (h : Blk w g t (encI c).toArray) {m : Nat} (hm : m < c.length) : w.cell? ⟨g, m, none⟩ = some (.int .i64 (cl c m)) := by
  rw [h.cell]
  simp [cl, List.getElem?_eq_getElem hm]

--@ (*impl.termCase).factHolds
set_option maxHeartbeats 800000 in
theorem c_impl_factHolds (f : Fct) (c : List Int) (g : Nat) (w : World) (hk : Blk w g tTc (encI c).toArray) (hc : c.length = 9) (ha : 0 ≤ f.a ∧ f.a ≤ 8) (hb : 0 ≤ f.b ∧ f.b ≤ 8) :
    Calls Tryz.prog 111 #[.pointer (some ⟨g, 0, none⟩), f.val] w fun e w' => e = .returned (.bool (f.fits c)) ∧ Below w.heap.size w w' := by
  obtain ⟨q, a, b⟩ := f
  dsimp only at ha hb
  obtain ⟨a, rfl⟩ := Int.eq_ofNat_of_zero_le ha.1
  obtain ⟨b, rfl⟩ := Int.eq_ofNat_of_zero_le hb.1
  have c1 := case_cell hk (m := a) (by rw [hc]; omega)
  have c2 := case_cell hk (m := b) (by rw [hc]; omega)
  have hlt := hk.lt
  have ha9 : (a : Int) < 9 := by omega
  have hb9 : (b : Int) < 9 := by omega
  clear ha hb
  go_enter Tryz.func111, Tryz.ntmps111
  go_wp2_with fail
  go_quiet (fail)
  go_wp2
  go_ret
  exact ⟨ret_bool rfl, bel⟩

--@ (*impl.termCase).isFilled
set_option maxHeartbeats 800000 in
theorem c_impl_isFilled (x : Atm) (c : List Int) (g : Nat) (w : World) (hk : Blk w g tTc (encI c).toArray) (hc : c.length = 9) (ha : 0 ≤ x.a ∧ x.a ≤ 8) (hb : 0 ≤ x.b ∧ x.b ≤ 8) :
    Calls Tryz.prog 168 #[.pointer (some ⟨g, 0, none⟩), x.val] w fun e w' => e = .returned (.bool (x.fill c)) ∧ Below w.heap.size w w' := by
  obtain ⟨q, a, b⟩ := x
  dsimp only at ha hb
  obtain ⟨a, rfl⟩ := Int.eq_ofNat_of_zero_le ha.1
  obtain ⟨b, rfl⟩ := Int.eq_ofNat_of_zero_le hb.1
  have c1 := case_cell hk (m := a) (by rw [hc]; omega)
  have c2 := case_cell hk (m := b) (by rw [hc]; omega)
  have hlt := hk.lt
  have ha9 : (a : Int) < 9 := by omega
  have hb9 : (b : Int) < 9 := by omega
  clear ha hb
  cases hq : (q == 1)
  all_goals
    have HQ := Lib.hid hq
    go_enter Tryz.func168, Tryz.ntmps168
    go_wp2_with fail
    go_quiet (fail)
    go_wp2
    go_ret
    exact ⟨ret_bool (by have := HQ.out; (try simp at this); simp [Atm.fill, this]; try rfl), bel⟩

--@ (*impl.termCase).filled
theorem filledL_take (xs : List Atm) (c : List Int) (k : Nat) (hk : k < xs.length) : filledL (xs.take (k + 1)) c = filledL (xs.take k) c ++ if xs[k].fill c then [xs[k].cls c] else [] := by
  unfold filledL
  rw [List.take_succ_eq_append_getElem hk, List.filter_append, List.map_append]
  cases h : xs[k].fill c <;> simp [h]
theorem filledL_len (xs : List Atm) (c : List Int) : (filledL xs c).length ≤ xs.length := by
  unfold filledL; rw [List.length_map]; exact List.length_filter_le _ _
theorem possF_drop (c : List Int) (last : Int) (fs : List Fct) (k : Nat) (hk : k < fs.length) : possF c last (fs.drop k) = (!(decide (fs[k].a ≤ last) && decide (fs[k].b ≤ last) && !fs[k].fits c) && possF c last (fs.drop (k + 1))) := by
  unfold possF; rw [all_drop _ fs k hk]
theorem possA_drop (c : List Int) (last : Int) (seen : List Int) (xs : List Atm) (k : Nat) (hk : k < xs.length) : possA c last seen (xs.drop k) = if inLast c last xs[k] then !decide (cl c xs[k].a = 0) && !decide (cl c xs[k].a ∈ seen) && possA c last (seen ++ [cl c xs[k].a]) (xs.drop (k + 1)) else possA c last seen (xs.drop (k + 1)) := by
  rw [List.drop_eq_getElem_cons hk]; rfl
theorem tset_snoc (l : List Int) (t : Int) : tset (l ++ [t]) = tins (tset l) t := by unfold tset; simp [List.foldl_append]
set_option maxRecDepth 100000 in
set_option maxHeartbeats 3200000 in
theorem c_impl_possible {lo hi : Nat} (v : Value) (a : Asn) (last : Int) (c : List Int) (g : Nat) (w : World) (h : AsnV w lo hi v a) (hk : Blk w g tTc (encI c).toArray) (hc : c.length = 9) (hf : FactsOk a.facts) (hx : AtomsOk a.atoms)
    (hcl : ∀ x ∈ a.atoms, x.a ≤ last → isTermB (cl c x.a) = true) :
    Calls Tryz.prog 199 #[.pointer (some ⟨g, 0, none⟩), v, .int .i64 last] w fun e w' => e = .returned (.bool (poss a c last)) ∧ Below w.heap.size w w' := by
  obtain ⟨A1, c1, A2, c2, rfl, h1, h2⟩ := h
  have hl1 := h1.le
  have hl2 := h2.le
  have hgl := hk.lt
  have HP : Hid (poss a c last = (possF c last a.facts && possA c last [] a.atoms)) := rfl
  have hFO := Lib.hid hf
  have hXO := Lib.hid hx
  have hCL := Lib.hid hcl
  clear hf hx hcl
  go_enter Tryz.func199, Tryz.ntmps199
  go_wp2_with fail
  go_loopw [15] (fun i wr => ∃ k : Nat, k ≤ a.facts.length ∧ i = .int .i64 k ∧ Hid (possF c last a.facts = possF c last (a.facts.drop k)) ∧ Blk wr w.heap.size 26 #[.slice A1 a.facts.length c1, .slice A2 a.atoms.length c2] ∧ Below w.heap.size w wr) (fun i _ => a.facts.length - (intOf i).toNat)
  case atStart => exact ⟨0, Nat.zero_le _, rfl, rfl, blks, bel⟩
  case round =>
    obtain ⟨k, hkk, rfl, HA, kA, hB⟩ := hrel
    have qA := kA.cell
    have lA := kA.lt
    by_cases hlt : k < a.facts.length
    · obtain ⟨b, off, rfl, hbl⟩ := h1.blt hlt
      obtain ⟨g0, g1, g2⟩ := (h1.below hB).cl hlt
      have HD := Lib.hid (possF_drop c last a.facts k hlt)
      have hfk := hFO.out _ (List.getElem_mem hlt)
      obtain ⟨f, hfe⟩ : ∃ f, f = a.facts[k] := ⟨_, rfl⟩
      rw [← hfe] at g0 g1 g2 HD hfk
      clear hfe
      have kg : Blk wr g tTc (encI c).toArray := hk.below hB hgl
      have hgr := kg.lt
      by_cases e1 : f.a ≤ last
      · by_cases e2 : f.b ≤ last
        · go_wp2_with fail
          refine (c_impl_factHolds f c g _ (kg.alloc _) hc hfk.1 hfk.2).mono ?_
          rintro e w1 ⟨rfl, hB1⟩
          have hBx : Below w.heap.size w w1 := bgo (w := w) bel hB1
          replace kA := (kA.alloc (.cells #[.bool f.eq, .int .i64 f.a, .int .i64 f.b] tF)).next hB1
          cases hff : f.fits c
          · have HZ := Lib.hid (show possF c last a.facts = false by rw [HA.out, HD.out, hff, decide_eq_true e1, decide_eq_true e2]; rfl)
            clear hff hB1 e1 e2
            go_wp2_with fail
            go_ret
            exact ⟨ret_bool (by rw [HP.out, HZ.out]; rfl), hBx⟩
          · have HZ := Lib.hid (show possF c last (a.facts.drop k) = possF c last (a.facts.drop (k + 1)) by rw [HD.out, hff]; simp)
            clear hff hB1 e1 e2
            go_wp2_with fail
            go_round
            case rel => exact ⟨k + 1, by omega, by go_num, by show _ = _; rw [HA.out, HZ.out], kA, hBx⟩
            case measure => simp [intOf]; omega
        · have HZ := Lib.hid (show possF c last (a.facts.drop k) = possF c last (a.facts.drop (k + 1)) by rw [HD.out, decide_eq_false e2]; simp)
          go_wp2_with fail
          go_round
          case rel => exact ⟨k + 1, by omega, by go_num, by show _ = _; rw [HA.out, HZ.out], blks, bel⟩
          case measure => simp [intOf]; omega
      · have HZ := Lib.hid (show possF c last (a.facts.drop k) = possF c last (a.facts.drop (k + 1)) by rw [HD.out, decide_eq_false e1]; simp)
        go_wp2_with fail
        go_round
        case rel => exact ⟨k + 1, by omega, by go_num, by show _ = _; rw [HA.out, HZ.out], blks, bel⟩
        case measure => simp [intOf]; omega
    · obtain rfl : k = a.facts.length := by omega
      have HF := Lib.hid (show poss a c last = possA c last [] a.atoms by rw [HP.out, HA.out, List.drop_length]; rfl)
      clear HA HP
      go_wp2_with fail
      go_loopw [9, 39] (fun S i wr => ∃ (k : Nat) (seen : List Int), k ≤ a.atoms.length ∧ i = .int .i64 k ∧ S = .int .u16 (tset seen : Nat) ∧ Hid (poss a c last = possA c last seen (a.atoms.drop k)) ∧ Below w.heap.size w wr) (fun _ i _ => a.atoms.length - (intOf i).toNat)
      case atStart => exact ⟨0, [], Nat.zero_le _, rfl, by unfold tset; rfl, HF.out, hB⟩
      case round =>
        clear hB kA qA lA
        obtain ⟨k, seen, hkk, rfl, rfl, HA, hB⟩ := hrel
        have hT := tset_lt seen
        by_cases hlt : k < a.atoms.length
        · obtain ⟨b, off, rfl, hbl⟩ := h2.blt hlt
          obtain ⟨g0, g1, g2⟩ := (h2.below hB).cl hlt
          have HD := Lib.hid (possA_drop c last seen a.atoms k hlt)
          have hxk := hXO.out _ (List.getElem_mem hlt)
          have hcx := hCL.out _ (List.getElem_mem hlt)
          obtain ⟨x, hxe⟩ : ∃ x, x = a.atoms[k] := ⟨_, rfl⟩
          rw [← hxe] at g0 g1 g2 HD hxk hcx
          clear hxe
          have kg : Blk wr g tTc (encI c).toArray := hk.below hB hgl
          have hgr := kg.lt
          have hno : x.a ≤ last → x.b ≤ last → x.fill c = true → inLast c last x = true := fun h1 h2 h3 => by simp [inLast, h1, h2, h3]
          by_cases e1 : x.a ≤ last
          · by_cases e2 : x.b ≤ last
            · have hct := hcx e1
              go_wp2_with fail
              refine (c_impl_isFilled x c g _ (kg.alloc _) hc hxk.1 hxk.2).mono ?_
              rintro e w1 ⟨rfl, hB1⟩
              have hBx : Below w.heap.size w w1 := bgo (w := w) bel hB1
              have kx := (Blk.new wr tA #[.int .i64 x.kind, .int .i64 x.a, .int .i64 x.b]).next hB1
              replace kg := (kg.alloc (.cells #[.int .i64 x.kind, .int .i64 x.a, .int .i64 x.b] tA)).next hB1
              cases hff : x.fill c
              · have HZ := Lib.hid (show possA c last seen (a.atoms.drop k) = possA c last seen (a.atoms.drop (k + 1)) by rw [HD.out, inLast, hff]; simp)
                clear hff hB1
                go_wp2_with fail
                go_round
                case rel => exact ⟨k + 1, seen, by omega, by go_num, rfl, by show _ = _; rw [HA.out, HZ.out], hBx⟩
                case measure => simp [intOf]; omega
              · have HI := Lib.hid (hno e1 e2 hff)
                clear hff hB1 hno hcx
                obtain ⟨vv, hvv⟩ : ∃ vv, vv = cl c x.a := ⟨_, rfl⟩
                have HVV := Lib.hid hvv
                rw [← hvv] at hct
                have hbt : (tset seen).testBit vv.toNat = decide (vv ∈ seen) := by
                  have := isTermB_iff.1 hct
                  rw [tset_bit, decide_eq_decide]
                  rw [Int.toNat_of_nonneg this.1]
                  exact ⟨fun h => h.2, fun h => ⟨hct, h⟩⟩
                obtain ⟨q, xa, xb⟩ := x
                dsimp only at hxk kx e1 e2 hvv g0 g1 g2
                obtain ⟨⟨a1, a2⟩, ⟨b1, b2⟩⟩ := hxk
                obtain ⟨xa, rfl⟩ := Int.eq_ofNat_of_zero_le a1
                obtain ⟨xb, rfl⟩ := Int.eq_ofNat_of_zero_le b1
                have hxa9 : xa < 9 := by omega
                have hxal : (xa : Int) < 9 := by omega
                have cc := case_cell kg (m := xa) (by rw [hc]; exact hxa9)
                rw [← hvv] at cc
                have kxc := kx.cell
                clear hvv a1 a2 b1 b2
                by_cases hz : vv = 0
                · have HZ := Lib.hid (show poss a c last = false by rw [HA.out, HD.out, if_pos HI.out, ← HVV.out, hz]; simp)
                  subst hz
                  go_wp2_with fail
                  refine wp_region_noPanic ?_
                  refine wp_region_held_drew (S := (fun w' => w'.cell? ⟨g, xa, none⟩ = some (.int .i64 0) ∧ (∀ i, w'.cell? ⟨wr.heap.size, i, none⟩ = #[.int .i64 q, .int .i64 xa, .int .i64 xb][i]?))) (by kernel_rfl) (⟨cc, kxc⟩) (fun hHeld => ?_)
                  refine wpAnyH_take (i := 0) (v := ?_) rfl (by kernel_rfl) (by kernel_rfl) (by kernel_rfl) (fun _ _ _ h => h) (Or.inl ⟨by rfl, fun w hSw => ?_⟩) hHeld ?_
                  rotate_left
                  · ((try dsimp only at hSw); go_split_ands; go_simp; (try with_reducible rfl))
                  try simp only [Act.put, List.getElem_toArray, List.getElem_cons_zero, List.getElem_cons_succ, List.setIfInBounds_toArray, List.set_cons_zero, List.set_cons_succ]
                  refine wpAnyH_take (i := 1) (v := ?_) rfl (by kernel_rfl) (by kernel_rfl) (by kernel_rfl) (fun _ _ _ h => h) (Or.inl ⟨by rfl, fun w hSw => ?_⟩) hHeld ?_
                  rotate_left
                  · ((try dsimp only at hSw); go_split_ands; go_simp; (try with_reducible rfl))
                  try simp only [Act.put, List.getElem_toArray, List.getElem_cons_zero, List.getElem_cons_succ, List.setIfInBounds_toArray, List.set_cons_zero, List.set_cons_succ]
                  refine wpAnyH_take (i := 2) (v := ?_) rfl (by kernel_rfl) (by kernel_rfl) (by kernel_rfl) (fun _ _ _ h => h) (Or.inl ⟨by rfl, fun w hSw => ?_⟩) hHeld ?_
                  rotate_left
                  · ((try dsimp only at hSw); go_split_ands; go_simp; (try with_reducible rfl))
                  try simp only [Act.put, List.getElem_toArray, List.getElem_cons_zero, List.getElem_cons_succ, List.setIfInBounds_toArray, List.set_cons_zero, List.set_cons_succ]
                  refine wpAnyH_take (i := 3) (v := ?_) rfl (by kernel_rfl) (by kernel_rfl) (by kernel_rfl) (fun _ _ _ h => h) (Or.inl ⟨by rfl, fun w hSw => ?_⟩) hHeld ?_
                  rotate_left
                  · ((try dsimp only at hSw); go_split_ands; go_simp; (try with_reducible rfl))
                  try simp only [Act.put, List.getElem_toArray, List.getElem_cons_zero, List.getElem_cons_succ, List.setIfInBounds_toArray, List.set_cons_zero, List.set_cons_succ]
                  refine wpAnyH_take (i := 4) (v := ?_) rfl (by kernel_rfl) (by kernel_rfl) (by kernel_rfl) (fun _ _ _ h => h) (Or.inl ⟨by rfl, fun w hSw => ?_⟩) hHeld ?_
                  rotate_left
                  · ((try dsimp only at hSw); go_split_ands; go_simp; (try with_reducible rfl))
                  try simp only [Act.put, List.getElem_toArray, List.getElem_cons_zero, List.getElem_cons_succ, List.setIfInBounds_toArray, List.set_cons_zero, List.set_cons_succ]
                  refine wpAnyH_take (i := 5) (v := ?_) rfl (by kernel_rfl) (by kernel_rfl) (by kernel_rfl) (fun _ _ _ h => h) (Or.inl ⟨by rfl, fun w hSw => ?_⟩) hHeld ?_
                  rotate_left
                  · ((try dsimp only at hSw); go_split_ands; go_simp; (try with_reducible rfl))
                  try simp only [Act.put, List.getElem_toArray, List.getElem_cons_zero, List.getElem_cons_succ, List.setIfInBounds_toArray, List.set_cons_zero, List.set_cons_succ]
                  refine wpAnyH_take (i := 6) (v := ?_) rfl (by kernel_rfl) (by kernel_rfl) (by kernel_rfl) (fun _ _ _ h => h) (Or.inl ⟨by rfl, fun w hSw => ?_⟩) hHeld ?_
                  rotate_left
                  · ((try dsimp only at hSw); go_split_ands; go_simp; (try with_reducible rfl))
                  try simp only [Act.put, List.getElem_toArray, List.getElem_cons_zero, List.getElem_cons_succ, List.setIfInBounds_toArray, List.set_cons_zero, List.set_cons_succ]
                  refine wpAnyH_take (i := 7) (v := ?_) rfl (by kernel_rfl) (by kernel_rfl) (by kernel_rfl) (fun _ _ _ h => h) (Or.inl ⟨by rfl, fun w hSw => ?_⟩) hHeld ?_
                  rotate_left
                  · ((try dsimp only at hSw); go_split_ands; go_simp; (try with_reducible rfl))
                  try simp only [Act.put, List.getElem_toArray, List.getElem_cons_zero, List.getElem_cons_succ, List.setIfInBounds_toArray, List.set_cons_zero, List.set_cons_succ]
                  refine wpAnyH_take (i := 8) (v := undef) rfl (by kernel_rfl) (by kernel_rfl) (by kernel_rfl) (fun _ _ _ h => h) (Or.inr ⟨by rfl, rfl⟩) hHeld ?_
                  try simp only [Act.put, List.getElem_toArray, List.getElem_cons_zero, List.getElem_cons_succ, List.setIfInBounds_toArray, List.set_cons_zero, List.set_cons_succ]
                  refine wpAnyH_take (i := 9) (v := undef) rfl (by kernel_rfl) (by kernel_rfl) (by kernel_rfl) (fun _ _ _ h => h) (Or.inr ⟨by rfl, rfl⟩) hHeld ?_
                  try simp only [Act.put, List.getElem_toArray, List.getElem_cons_zero, List.getElem_cons_succ, List.setIfInBounds_toArray, List.set_cons_zero, List.set_cons_succ]
                  refine wpAnyH_take (i := 10) (v := undef) rfl (by kernel_rfl) (by kernel_rfl) (by kernel_rfl) (fun _ _ _ h => h) (Or.inr ⟨by rfl, rfl⟩) hHeld ?_
                  try simp only [Act.put, List.getElem_toArray, List.getElem_cons_zero, List.getElem_cons_succ, List.setIfInBounds_toArray, List.set_cons_zero, List.set_cons_succ]
                  refine wpAnyH_take (i := 11) (v := undef) rfl (by kernel_rfl) (by kernel_rfl) (by kernel_rfl) (fun _ _ _ h => h) (Or.inr ⟨by rfl, rfl⟩) hHeld ?_
                  try simp only [Act.put, List.getElem_toArray, List.getElem_cons_zero, List.getElem_cons_succ, List.setIfInBounds_toArray, List.set_cons_zero, List.set_cons_succ]
                  refine wpAnyH_take (i := 12) (v := undef) rfl (by kernel_rfl) (by kernel_rfl) (by kernel_rfl) (fun _ _ _ h => h) (Or.inr ⟨by rfl, rfl⟩) hHeld ?_
                  try simp only [Act.put, List.getElem_toArray, List.getElem_cons_zero, List.getElem_cons_succ, List.setIfInBounds_toArray, List.set_cons_zero, List.set_cons_succ]
                  refine wpAnyH_take (i := 13) (v := undef) rfl (by kernel_rfl) (by kernel_rfl) (by kernel_rfl) (fun _ _ _ h => h) (Or.inr ⟨by rfl, rfl⟩) hHeld ?_
                  try simp only [Act.put, List.getElem_toArray, List.getElem_cons_zero, List.getElem_cons_succ, List.setIfInBounds_toArray, List.set_cons_zero, List.set_cons_succ]
                  refine wpAnyH_take (i := 14) (v := undef) rfl (by kernel_rfl) (by kernel_rfl) (by kernel_rfl) (fun _ _ _ h => h) (Or.inr ⟨by rfl, rfl⟩) hHeld ?_
                  try simp only [Act.put, List.getElem_toArray, List.getElem_cons_zero, List.getElem_cons_succ, List.setIfInBounds_toArray, List.set_cons_zero, List.set_cons_succ]
                  refine wpAnyH_take (i := 15) (v := undef) rfl (by kernel_rfl) (by kernel_rfl) (by kernel_rfl) (fun _ _ _ h => h) (Or.inr ⟨by rfl, rfl⟩) hHeld ?_
                  try simp only [Act.put, List.getElem_toArray, List.getElem_cons_zero, List.getElem_cons_succ, List.setIfInBounds_toArray, List.set_cons_zero, List.set_cons_succ]
                  refine wpAnyH_take (i := 16) (v := ?_) rfl (by kernel_rfl) (by kernel_rfl) (by kernel_rfl) (fun _ _ _ h => h) (Or.inl ⟨by rfl, fun w hSw => ?_⟩) hHeld ?_
                  rotate_left
                  · ((try dsimp only at hSw); go_split_ands; go_simp; (try with_reducible rfl))
                  try simp only [Act.put, List.getElem_toArray, List.getElem_cons_zero, List.getElem_cons_succ, List.setIfInBounds_toArray, List.set_cons_zero, List.set_cons_succ]
                  refine wpAnyH_done (by kernel_rfl) ?_ _
                  refine NoPanic.normal ?_
                  go_wp2
                  go_ret
                  exact ⟨ret_bool HZ.out.symm, bel⟩
                · have hzb : (vv == 0) = false := by simpa using hz
                  have HNZ := Lib.hid hz
                  clear hz
                  go_wp2_with fail
                  go_quiet ((go_at_call 153; exact Calls.quiet_of_same ((c_impl_tHas _ _ _ hT).mono fun _ _ ⟨a, b⟩ => ⟨a, b.symm⟩)))
                  have cc2 : (w1.drewN nq).cell? ⟨g, xa, none⟩ = some (.int .i64 vv) := cc
                  have kxc2 : ∀ i, (w1.drewN nq).cell? ⟨wr.heap.size, i, none⟩ = #[.int .i64 q, .int .i64 xa, .int .i64 xb][i]? := kxc
                  have hBx2 := below_drewN hBx nq
                  rw [hct, hbt]
                  clear cc kxc kx kg hBx
                  generalize w1.drewN nq = w2 at cc2 kxc2 hBx2 ⊢
                  by_cases hse : vv ∈ seen
                  · have HZ := Lib.hid (show poss a c last = false by rw [HA.out, HD.out, if_pos HI.out, ← HVV.out, decide_eq_true hse]; simp)
                    go_wp2
                    go_ret
                    exact ⟨ret_bool HZ.out.symm, bel⟩
                  · have HZ := Lib.hid (show poss a c last = possA c last (seen ++ [vv]) (a.atoms.drop (k + 1)) by rw [HA.out, HD.out, if_pos HI.out, ← HVV.out, decide_eq_false hse, decide_eq_false HNZ.out]; simp)
                    go_wp2_with fail
                    go_quiet ((go_at_call 110; exact Calls.quiet_of_same ((c_impl_with _ _ _ hT).mono fun _ _ ⟨a, b⟩ => ⟨a, b.symm⟩)))
                    go_wp2_with fail
                    go_round
                    case rel => exact ⟨k + 1, seen ++ [vv], by omega, by go_num, by rw [tset_snoc], HZ.out, bel⟩
                    case measure => simp [intOf]; omega
            · have HZ := Lib.hid (show possA c last seen (a.atoms.drop k) = possA c last seen (a.atoms.drop (k + 1)) by rw [HD.out, inLast, decide_eq_false e2]; simp)
              go_wp2_with fail
              go_round
              case rel => exact ⟨k + 1, seen, by omega, by go_num, rfl, by show _ = _; rw [HA.out, HZ.out], bel⟩
              case measure => simp [intOf]; omega
          · have HZ := Lib.hid (show possA c last seen (a.atoms.drop k) = possA c last seen (a.atoms.drop (k + 1)) by rw [HD.out, inLast, decide_eq_false e1]; simp)
            go_wp2_with fail
            go_round
            case rel => exact ⟨k + 1, seen, by omega, by go_num, rfl, by show _ = _; rw [HA.out, HZ.out], bel⟩
            case measure => simp [intOf]; omega
        · obtain rfl : k = a.atoms.length := by omega
          go_wp2_with fail
          go_ret
          exact ⟨ret_bool (by rw [HA.out, List.drop_length]; rfl), hB⟩
end Go.Proofs.YtlmjjflalmegfaaGreat

/- Contracts: the spec's cases: facts and atoms of a case. -/
namespace Go.Proofs.YtlmjjflalmegfaaGreat
open Go Go.RowKit Go.Proofs
attribute [local go_sem ↓] Go.wp_at_zero Go.wp_at_succ

theorem ints_cl {w : World} {lo hi b o : Nat} {c : List Int} (h : IntsV w lo hi (some ⟨b, o, none⟩) c) {m : Nat} (hm : m < c.length) : w.cell? ⟨b, o + m, none⟩ = some (.int .i64 (cl c m)) := by
  rw [h.cl hm]; simp [cl, List.getElem?_eq_getElem hm]

--@ spec.l5Fits
theorem fitsS_drop (c : List Int) (fs : List Fct) (k : Nat) (hk : k < fs.length) : fitsS c (fs.drop k) = (!(decide (0 ≤ cl c fs[k].a) && decide (0 ≤ cl c fs[k].b) && !fs[k].fits c) && fitsS c (fs.drop (k + 1))) := by
  unfold fitsS; rw [all_drop _ fs k hk]
set_option maxRecDepth 100000 in
set_option maxHeartbeats 1600000 in
theorem c_spec_l5Fits {lo hi lo' hi' : Nat} (A B : Option Addr) (c0 c1 : Nat) (fs : List Fct) (c : List Int) (w : World) (h : FactsV w lo hi A fs) (h' : IntsV w lo' hi' B c) (hc : c.length = 9) (hf : FactsOk fs) :
    Calls Tryz.prog 203 #[.slice A fs.length c0, .slice B c.length c1] w fun e w' => e = .returned (.bool (fitsS c fs)) ∧ w = w' := by
  have hl := h.le
  obtain ⟨pb, ob, rfl, lpb⟩ := h'.blt (k := 0) (by omega)
  have HC := Lib.hid hc
  have HF := Lib.hid hf
  have H' := Lib.hid h'
  clear hf h'
  rw [hc]
  clear hc
  go_enter Tryz.func203, Tryz.ntmps203
  go_wp2_with fail
  go_loop [5] (fun i => ∃ k : Nat, k ≤ fs.length ∧ i = .int .i64 k ∧ Hid (fitsS c fs = fitsS c (fs.drop k))) (fun i => fs.length - (intOf i).toNat)
  case atStart => exact ⟨0, Nat.zero_le _, rfl, rfl⟩
  case round =>
    obtain ⟨k, hk, rfl, HA⟩ := hrel
    by_cases hlt : k < fs.length
    · obtain ⟨b, off, rfl, hbl⟩ := h.blt hlt
      obtain ⟨g0, g1, g2⟩ := h.cl hlt
      have HD := Lib.hid (fitsS_drop c fs k hlt)
      have hfk := HF.out _ (List.getElem_mem hlt)
      obtain ⟨f, hfe⟩ : ∃ f, f = fs[k] := ⟨_, rfl⟩
      rw [← hfe] at g0 g1 g2 HD hfk
      clear hfe
      obtain ⟨q, fa, fb⟩ := f
      dsimp only at g0 g1 g2 hfk
      obtain ⟨⟨a1, a2⟩, ⟨b1, b2⟩⟩ := hfk
      obtain ⟨fa, rfl⟩ := Int.eq_ofNat_of_zero_le a1
      obtain ⟨fb, rfl⟩ := Int.eq_ofNat_of_zero_le b1
      have ha9 : (fa : Int) < 9 := by omega
      have hb9 : (fb : Int) < 9 := by omega
      have e1 := ints_cl H'.out (m := fa) (by rw [HC.out]; omega)
      have e2 := ints_cl H'.out (m := fb) (by rw [HC.out]; omega)
      have HQ : Hid (∀ u v : Int, u = cl c fa → v = cl c fb → fitsS c fs = (!(decide (0 ≤ u) && decide (0 ≤ v) && !((u == v) == q)) && fitsS c (fs.drop (k + 1)))) := by
        intro u v hu hv
        rw [HA.out, HD.out, hu, hv]; rfl
      obtain ⟨u, hu⟩ : ∃ u, u = cl c fa := ⟨_, rfl⟩
      obtain ⟨v, hv⟩ : ∃ v, v = cl c fb := ⟨_, rfl⟩
      have HR := Lib.hid (HQ.out u v hu hv)
      rw [← hu] at e1
      rw [← hv] at e2
      clear hu hv HQ a1 a2 b1 b2
      by_cases hu0 : 0 ≤ u
      · by_cases hv0 : 0 ≤ v
        · have HUV : Hid (∀ t : Bool, (u == v) = t → fitsS c fs = (!(!(t == q)) && fitsS c (fs.drop (k + 1)))) := by
            intro t ht
            rw [HR.out, ht, decide_eq_true hu0, decide_eq_true hv0]; rfl
          cases huv : (u == v)
          case' false => have HZ := Lib.hid (HUV.out false huv)
          case' true => have HZ := Lib.hid (HUV.out true huv)
          all_goals
            cases q
            all_goals
              clear HUV HR
              go_wp2_with fail
              first
                | (go_ret
                   exact ⟨ret_bool HZ.out.symm, rfl⟩)
                | (go_round
                   case rel => exact ⟨k + 1, by omega, by go_num, HZ.out⟩
                   case measure => simp [intOf]; omega)
        · have HZ : Hid (fitsS c fs = fitsS c (fs.drop (k + 1))) := by show _ = _; rw [HR.out, decide_eq_false hv0]; simp
          go_wp2_with fail
          go_round
          case rel => exact ⟨k + 1, by omega, by go_num, HZ⟩
          case measure => simp [intOf]; omega
      · have HZ : Hid (fitsS c fs = fitsS c (fs.drop (k + 1))) := by show _ = _; rw [HR.out, decide_eq_false hu0]; simp
        go_wp2_with fail
        go_round
        case rel => exact ⟨k + 1, by omega, by go_num, HZ⟩
        case measure => simp [intOf]; omega
    · obtain rfl : k = fs.length := by omega
      go_wp2_with fail
      go_ret
      exact ⟨ret_bool (by rw [HA.out, List.drop_length]; rfl), rfl⟩

--@ spec.l5Early
theorem earlyF_drop (c : List Int) (seen : List Int) (xs : List Atm) (k : Nat) (hk : k < xs.length) : earlyF c seen (xs.drop k) = if decide (xs[k].kind = 1) && decide (0 ≤ cl c xs[k].a) then !decide (cl c xs[k].a = 0) && !decide (cl c xs[k].a ∈ seen) && earlyF c (seen ++ [cl c xs[k].a]) (xs.drop (k + 1)) else earlyF c seen (xs.drop (k + 1)) := by
  rw [List.drop_eq_getElem_cons hk]; rfl
set_option maxRecDepth 100000 in
set_option maxHeartbeats 3200000 in
theorem c_spec_l5Early {lo hi lo' hi' : Nat} (A B : Option Addr) (c0 c1 : Nat) (xs : List Atm) (c : List Int) (w : World) (h : AtomsV w lo hi A xs) (h' : IntsV w lo' hi' B c) (hc : c.length = 9) (hx : AtomsOk xs) (hcl : ∀ x ∈ xs, cl c x.a ≤ 8) :
    Calls Tryz.prog 204 #[.slice A xs.length c0, .slice B c.length c1] w fun e w' => e = .returned (.bool (earlyF c [] xs)) ∧ Below w.heap.size w w' := by
  have hl := h.le
  obtain ⟨pb, ob, rfl, lpb⟩ := h'.blt (k := 0) (by omega)
  have HC := Lib.hid hc
  have HX := Lib.hid hx
  have HCL := Lib.hid hcl
  have H' := Lib.hid h'
  have hmk := mkB9
  clear hx h' hcl
  rw [hc]
  clear hc
  go_enter Tryz.func204, Tryz.ntmps204
  go_wp2_with fail
  clear hmk
  go_loopw [6] (fun i wr => ∃ (k : Nat) (seen : List Int), k ≤ xs.length ∧ i = .int .i64 k ∧ Hid (earlyF c [] xs = earlyF c seen (xs.drop k)) ∧ Blk wr w.heap.size tB (encB (flagsOf (tset seen))).toArray ∧ Below w.heap.size w wr) (fun i _ => xs.length - (intOf i).toNat)
  case atStart => exact ⟨0, [], Nat.zero_le _, rfl, rfl, by rw [show tset [] = 0 from by unfold tset; rfl]; exact blks, bel⟩
  case round =>
    obtain ⟨k, seen, hk, rfl, HA, k0, hB⟩ := hrel
    by_cases hlt : k < xs.length
    · obtain ⟨b, off, rfl, hbl⟩ := h.blt hlt
      obtain ⟨g0, g1, g2⟩ := (h.below hB).cl hlt
      have HD := Lib.hid (earlyF_drop c seen xs k hlt)
      have hxk := HX.out _ (List.getElem_mem hlt)
      have hck := HCL.out _ (List.getElem_mem hlt)
      obtain ⟨x, hxe⟩ : ∃ x, x = xs[k] := ⟨_, rfl⟩
      rw [← hxe] at g0 g1 g2 HD hxk hck
      clear hxe
      obtain ⟨q, xa, xb⟩ := x
      dsimp only at g0 g1 g2 hxk hck
      obtain ⟨⟨a1, a2⟩, -⟩ := hxk
      obtain ⟨xa, rfl⟩ := Int.eq_ofNat_of_zero_le a1
      have ha9 : (xa : Int) < 9 := by omega
      have e1 := ints_cl (H'.out.below hB) (m := xa) (by rw [HC.out]; omega)
      have HR : Hid (earlyF c [] xs = if decide (q = 1) && decide (0 ≤ cl c xa) then !decide (cl c xa = 0) && !decide (cl c xa ∈ seen) && earlyF c (seen ++ [cl c xa]) (xs.drop (k + 1)) else earlyF c seen (xs.drop (k + 1))) := by show _ = _; rw [HA.out, HD.out]
      obtain ⟨u, hu⟩ : ∃ u, u = cl c xa := ⟨_, rfl⟩
      rw [← hu] at e1 HR hck
      clear hu a1 a2 HD HA
      cases hq : (q != 1)
      · have hq1 : q = 1 := by simpa using hq
        by_cases hu0 : 0 ≤ u
        · have HR2 : Hid (earlyF c [] xs = (!decide (u = 0) && !decide (u ∈ seen) && earlyF c (seen ++ [u]) (xs.drop (k + 1)))) := by show _ = _; rw [HR.out, hq1, decide_eq_true hu0]; rfl
          obtain ⟨m, rfl⟩ := Int.eq_ofNat_of_zero_le hu0
          have m8 : m ≤ 8 := by omega
          have m8' : (m : Int) < 9 := by omega
          have hst : isTermB (m : Int) = true := by rw [isTermB_iff]; omega
          have hbt : (tset seen).testBit m = decide ((m : Int) ∈ seen) := by
            rw [tset_bit, decide_eq_decide]; exact ⟨fun h => h.2, fun h => ⟨hst, h⟩⟩
          have q3 : wr.cell? ⟨w.heap.size, m, none⟩ = some (.bool (decide ((m : Int) ∈ seen))) := (k0.cell m).trans ((flags_cell _ _ rfl (by omega)).trans (by rw [hbt]))
          have r3 := k0.frozen
          have l3 := k0.lt
          clear hst hbt
          by_cases hz : (m : Int) = 0
          · have HZ := Lib.hid (show earlyF c [] xs = false by rw [HR2.out, decide_eq_true hz]; rfl)
            have hzb : ((m : Int) == 0) = true := by simpa using hz
            clear hq1 hz
            go_wp2_with fail
            go_ret
            exact ⟨ret_bool HZ.out.symm, hB⟩
          · have hzb : ((m : Int) == 0) = false := by simpa using hz
            by_cases hs : (m : Int) ∈ seen
            · have HZ := Lib.hid (show earlyF c [] xs = false by rw [HR2.out, decide_eq_true hs]; simp)
              rw [decide_eq_true hs] at q3
              clear hq1 hz hs
              go_wp2_with fail
              go_ret
              exact ⟨ret_bool HZ.out.symm, hB⟩
            · have HZ := Lib.hid (show earlyF c [] xs = earlyF c (seen ++ [(m : Int)]) (xs.drop (k + 1)) by rw [HR2.out, decide_eq_false hs, decide_eq_false hz]; simp)
              rw [decide_eq_false hs] at q3
              clear hq1 hz hs
              go_wp2_with fail
              go_round
              case rel =>
                refine ⟨k + 1, seen ++ [(m : Int)], by omega, by go_num, HZ, ?_, bel⟩
                rw [tset_snoc, ← tins_flags _ _ m8]
                exact k0.set_ _ _
              case measure => simp [intOf]; omega
        · have HZ := Lib.hid (show earlyF c [] xs = earlyF c seen (xs.drop (k + 1)) by rw [HR.out, decide_eq_false hu0]; simp)
          clear hq1
          go_wp2_with fail
          go_round
          case rel => exact ⟨k + 1, seen, by omega, by go_num, HZ, k0, hB⟩
          case measure => simp [intOf]; omega
      · have hq1 : ¬ q = 1 := by simpa using hq
        have HZ := Lib.hid (show earlyF c [] xs = earlyF c seen (xs.drop (k + 1)) by rw [HR.out, decide_eq_false hq1]; simp)
        clear hq1
        go_wp2_with fail
        go_round
        case rel => exact ⟨k + 1, seen, by omega, by go_num, HZ, k0, hB⟩
        case measure => simp [intOf]; omega
    · obtain rfl : k = xs.length := by omega
      go_wp2_with fail
      go_ret
      exact ⟨ret_bool (by rw [HA.out, List.drop_length]; rfl), hB⟩

--@ spec.l5Apart
theorem apartF_at (xs : List Atm) (k : Nat) (hk : k < xs.length) : apartF ((xs.take k).map Atm.a) (xs.drop k) = (!decide (xs[k].a = 0) && !decide (xs[k].a ∈ (xs.take k).map Atm.a) && apartF ((xs.take (k + 1)).map Atm.a) (xs.drop (k + 1))) := by
  rw [List.drop_eq_getElem_cons hk, List.take_succ_eq_append_getElem hk, List.map_append]; rfl
set_option maxRecDepth 100000 in
set_option maxHeartbeats 3200000 in
theorem c_spec_l5Apart {lo hi : Nat} (A : Option Addr) (c0 : Nat) (xs : List Atm) (w : World) (h : AtomsV w lo hi A xs) :
    Calls Tryz.prog 205 #[.slice A xs.length c0] w fun e w' => e = .returned (.bool (apartF [] xs)) ∧ Below w.heap.size w w' := by
  have hl := h.le
  go_enter Tryz.func205, Tryz.ntmps205
  go_wp2_with fail
  go_loopw [3] (fun i wr => ∃ k : Nat, k ≤ xs.length ∧ i = .int .i64 k ∧ Hid (apartF [] xs = apartF ((xs.take k).map Atm.a) (xs.drop k)) ∧ Below w.heap.size w wr) (fun i _ => xs.length - (intOf i).toNat)
  case atStart => exact ⟨0, Nat.zero_le _, rfl, rfl, bel⟩
  case round =>
    obtain ⟨k, hk, rfl, HA, hB⟩ := hrel
    by_cases hlt : k < xs.length
    · obtain ⟨b, off, rfl, hbl⟩ := h.blt hlt
      obtain ⟨g0, g1, g2⟩ := (h.below hB).cl hlt
      have HD := Lib.hid (apartF_at xs k hlt)
      by_cases hz : xs[k].a = 0
      · have HZ := Lib.hid (show apartF [] xs = false by rw [HA.out, HD.out, decide_eq_true hz]; rfl)
        have hzb : (xs[k].a == 0) = true := by simpa using hz
        clear hz
        go_wp2_with fail
        go_ret
        exact ⟨ret_bool HZ.out.symm, hB⟩
      · have hzb : (xs[k].a == 0) = false := by simpa using hz
        have HNZ := Lib.hid hz
        clear hz
        go_wp2_with fail
        go_loopw [4] (fun i wr => ∃ j : Nat, j ≤ k ∧ i = .int .i64 j ∧ Hid (∀ n, n < j → ∀ hn : n < xs.length, xs[n].a ≠ xs[k].a) ∧ Below w.heap.size w wr) (fun i _ => k - (intOf i).toNat)
        case atStart => exact ⟨0, Nat.zero_le _, rfl, fun n hn => absurd hn (by omega), hB⟩
        case round =>
          clear hB g0 g1 g2
          obtain ⟨j, hj, rfl, HJ, hB⟩ := hrel
          by_cases hjl : j < k
          · have hjx : j < xs.length := by omega
            obtain ⟨g0, g1, g2⟩ := (h.below hB).cl hlt
            obtain ⟨e0, e1, e2⟩ := (h.below hB).cl hjx
            cases he : (xs[j].a == xs[k].a)
            all_goals
              have hjx2 : (j : Int) < (xs.length : Int) := by omega
              have hkx2 : (k : Int) < (xs.length : Int) := by omega
              go_wp2_with fail
              go_quiet (fail)
              have hBq := below_drewN hB nq
              generalize wr.drewN nq = w2 at hBq ⊢
              go_wp2_with fail
            · go_round
              case rel =>
                refine ⟨j + 1, by omega, by go_num, fun n hn hx => ?_, hBq⟩
                by_cases e : n = j
                · subst e; simpa using he
                · exact HJ.out n (by omega) hx
              case measure => simp [intOf]; omega
            · go_ret
              refine ⟨ret_bool ?_, hBq⟩
              have hm : xs[k].a ∈ (xs.take k).map Atm.a := List.mem_map.2 ⟨xs[j], by rw [List.mem_take_iff_getElem]; exact ⟨j, by omega, rfl⟩, by simpa using he⟩
              rw [HA.out, HD.out, decide_eq_true hm]; simp
          · obtain rfl : j = k := by omega
            have hm : xs[j].a ∉ (xs.take j).map Atm.a := fun hm => by
              obtain ⟨y, hy, ey⟩ := List.mem_map.1 hm
              rw [List.mem_take_iff_getElem] at hy
              obtain ⟨n, hn, en⟩ := hy
              have hn' : n < j := by omega
              exact HJ.out n hn' (by omega) (by rw [en]; exact ey)
            have HZ := Lib.hid (show apartF [] xs = apartF ((xs.take (j + 1)).map Atm.a) (xs.drop (j + 1)) by rw [HA.out, HD.out, decide_eq_false hm, decide_eq_false HNZ.out]; simp)
            clear hm
            go_wp2_with fail
            go_round
            case rel => exact ⟨j + 1, by omega, by go_num, HZ, hB⟩
            case measure => simp [intOf]; omega
    · obtain rfl : k = xs.length := by omega
      go_wp2_with fail
      go_ret
      exact ⟨ret_bool (by rw [HA.out, List.drop_length]; rfl), hB⟩
end Go.Proofs.YtlmjjflalmegfaaGreat
