/- Contracts: impl's states with some cells alone. -/
import Derived.Test.YtdhllcejahdjfaaCellsB
set_option linter.unusedSimpArgs false
set_option linter.unusedVariables false
namespace Go.Proofs.Ytdhllcejahdjfaa
open Go Go.RowKit Go.Proofs

--@ impl.stateWith
/-- the cells up to k that are not in S are gone -/
def maskH (h : List Int) (S k : Nat) : List Int := h.mapIdx fun i v => if i < k ∧ S.testBit (i + 1) = false then -1 else v
theorem maskH_zero (h : List Int) (S : Nat) : maskH h S 0 = h := by
  apply List.ext_getElem?
  intro i
  simp [maskH, List.getElem?_mapIdx]
theorem maskH_len (h : List Int) (S k : Nat) : (maskH h S k).length = h.length := by simp [maskH]
theorem maskH_keep {h : List Int} {S k : Nat} (hb : S.testBit (k + 1) = true) : maskH h S (k + 1) = maskH h S k := by
  apply List.ext_getElem?
  intro i
  simp only [maskH, List.getElem?_mapIdx]
  congr 1
  funext v
  by_cases e : i = k
  · subst e; rw [hb]; simp
  · by_cases h1 : i < k
    · simp [h1, show i < k + 1 from by omega]
    · simp [h1, show ¬ i < k + 1 from by omega]
theorem maskH_drop {h : List Int} {S k : Nat} (hb : S.testBit (k + 1) = false) (hk : k < h.length) : maskH h S (k + 1) = (maskH h S k).set k (-1) := by
  apply List.ext_getElem?
  intro i
  rw [List.getElem?_set, maskH_len]
  by_cases e : k = i
  · subst e
    rw [if_pos rfl, if_pos hk]
    simp only [maskH, List.getElem?_mapIdx]
    rw [List.getElem?_eq_getElem hk]
    simp [hb]
  · rw [if_neg e]
    simp only [maskH, List.getElem?_mapIdx]
    congr 1
    funext v
    by_cases h1 : i < k
    · simp [h1, show i < k + 1 from by omega]
    · simp [h1, show ¬ i < k + 1 from by omega]
theorem maskH_all {h : List Int} {S : Nat} (hl : h.length = 8) : maskH h S 8 = keepH h (fun x => S.testBit x.toNat) := by
  apply List.ext_getElem?
  intro i
  by_cases hi : i < 8
  · simp only [maskH, keepH, List.getElem?_mapIdx, List.getElem?_map]
    rw [List.getElem?_eq_getElem (by omega), List.getElem?_range' (by omega)]
    have e1 : ((1 + 1 * i : Nat) : Int).toNat = i + 1 := by omega
    have e2 : cont h ((1 + 1 * i : Nat) : Int) = h[i] := by
      unfold cont
      rw [if_pos (by simp only [addrB, decide_eq_true_eq]; omega), show (((1 + 1 * i : Nat) : Int) - 1).toNat = i from by omega, List.getElem?_eq_getElem (by omega)]
      rfl
    simp only [Option.map_some, e1, e2, hi, true_and]
    cases S.testBit (i + 1) <;> simp
  · rw [List.getElem?_eq_none (by rw [maskH_len]; omega), List.getElem?_eq_none (by simp [keepH]; omega)]
set_option maxRecDepth 100000 in
set_option maxHeartbeats 1600000 in
theorem c_impl_stateWith {lo hi : Nat} (v : Value) (s : Ste) (S : Nat) (w : World) (h : StateV w lo hi v s) (hs : s.valid = true) (hS : S < 65536) :
    Calls Try.prog 95 #[v, .int .u16 S] w fun e w' => ∃ r, e = .returned r ∧ StateO w' w.heap.size r (keepS s fun x => S.testBit x.toNat) ∧ Below w.heap.size w w' := by
  have hV := Lib.hid h
  obtain ⟨A1, c1, A2, c2, rfl, -, -⟩ := h
  have H8 := Lib.hid (Ste.valid_len hs).2
  have HS := Lib.hid hS
  clear hs hS
  go_enter Try.func95, Try.ntmps95
  obtain ⟨k0, k1⟩ := blk2 w tSt tSt #[.slice A1 s.values.length c1, .slice A2 s.heap.length c2] #[.slice none 0 0, .slice none 0 0]
  go_wp2_with fail
  refine (c_impl_copyState _ s _ (hV.out.below (by repeat (first | (with_reducible exact Below.refl _ _) | (with_reducible assumption) | (with_reducible apply bbox) | ((with_reducible apply Below.setCell); (case hp => (first | exact Nat.le_refl _ | (simp; done) | (simp; omega) | (simp only; omega) | omega))) | (with_reducible apply Below.drew) | (with_reducible apply below_drewN))))).mono ?_
  rintro e w1 ⟨r, rfl, o, hB1⟩
  have hB := bgo (w := w) (by repeat (first | (with_reducible exact Below.refl _ _) | (with_reducible assumption) | (with_reducible apply bbox) | ((with_reducible apply Below.setCell); (case hp => (first | exact Nat.le_refl _ | (simp; done) | (simp; omega) | (simp only; omega) | omega))) | (with_reducible apply Below.drew) | (with_reducible apply below_drewN))) hB1
  have hz : w.heap.size ≤ (((w.alloc (.cells #[.slice A1 s.values.length c1, .slice A2 s.heap.length c2] tSt)).alloc (.cells #[.slice none 0 0, .slice none 0 0] tSt))).heap.size := by simp; omega
  (replace k1 := k1.next hB1; replace qk1 := k1.cell; replace rk1 := k1.frozen; replace lk1 := k1.lt)
  clear hB1 k0
  obtain ⟨fv, av, rfl, o1, o2, dj⟩ := o
  obtain ⟨F, e1, rfl, -⟩ := o1.reads
  obtain ⟨G, e2, rfl, -⟩ := o2.reads
  have O1 := Lib.hid (o1.lower (base' := w.heap.size) hz)
  have O2 := Lib.hid (o2.lower (base' := w.heap.size) hz)
  have HD := Lib.hid dj
  have hzw := hB.size
  have hB2 : Below w.heap.size w (w1.alloc (.cells #[.slice F s.values.length e1, .slice G s.heap.length e2] tSt)) := bbox hB _
  have hBw : Below w1.heap.size w1 (w1.alloc (.cells #[.slice F s.values.length e1, .slice G s.heap.length e2] tSt)) := bbox (Below.refl _ _) _
  have k2 : Blk (w1.alloc (.cells #[.slice F s.values.length e1, .slice G s.heap.length e2] tSt)) w1.heap.size tSt #[.slice F s.values.length e1, .slice G s.heap.length e2] := Blk.new _ _ _
  have P1 := Lib.hid (O1.out.below hBw)
  have P2 := Lib.hid (O2.out.below hBw)
  replace k1 := k1.alloc (.cells #[.slice F s.values.length e1, .slice G s.heap.length e2] tSt)
  have hl1 : w.heap.size + 1 < w1.heap.size := lk1
  clear o1 o2 dj hB O1 O2 hBw hz
  go_wp2_with fail
  go_loopw [6] (fun i wr => ∃ k : Nat, k ≤ 8 ∧ i = .int .i64 ((k : Int) + 1) ∧ Blk wr (w.heap.size + 1) tSt #[.slice none 0 0, .slice none 0 0] ∧ Blk wr w1.heap.size tSt #[.slice F s.values.length e1, .slice G s.heap.length e2] ∧ Hid (IntsO wr w.heap.size (.slice F s.values.length e1) s.values) ∧ Hid (IntsO wr w.heap.size (.slice G s.heap.length e2) (maskH s.heap S k)) ∧ Hid (Below w.heap.size w wr)) (fun i _ => 10 - (intOf i).toNat)
  case atStart => exact ⟨0, by omega, rfl, k1, k2, P1.out, by rw [maskH_zero]; exact P2.out, hB2⟩
  case round =>
    clear k1 k2 hB2 qk1 rk1 lk1 P1 P2
    obtain ⟨k, hk, rfl, k1, k2, HF, HG, HB⟩ := hrel
    (replace qk1 := k1.cell; replace rk1 := k1.frozen; replace lk1 := k1.lt; replace qk2 := k2.cell; replace rk2 := k2.frozen; replace lk2 := k2.lt)
    have hsz := HB.out.size
    by_cases hlt : k < 8
    · have hki : (k : Int) + 1 ≤ 8 := by omega
      have hv : addrB ((k : Int) + 1) = true := by simp only [addrB, decide_eq_true_eq]; omega
      have ht : ((k : Int) + 1).toNat = k + 1 := by omega
      go_wp2_with fail
      refine (c_impl_cellHas S _ _ HS.out).mono ?_
      rintro e w2 ⟨rfl, rfl⟩
      rw [hv, ht]
      clear hv ht
      cases hb : S.testBit (k + 1)
      · have HM := Lib.hid (maskH_drop (h := s.heap) hb (by have := H8.out; omega))
        clear hb
        have hnl : (k : Int) < (s.heap.length : Int) := by have := H8.out; omega
        have HX := Lib.hid (maskH_len s.heap S k)
        obtain ⟨g, cur, -, rfl, hg, kg, hc, hset⟩ := HG.out.cell_ (k := k) (by rw [maskH_len]; have := H8.out; omega)
        have q := kg.cell k
        rw [hc] at q
        obtain ⟨y, hy⟩ : ∃ y, y = (maskH s.heap S k)[k]'(by rw [maskH_len]; have := H8.out; omega) := ⟨_, rfl⟩
        rw [← hy] at q
        have f := kg.frozen k
        have hgl := kg.lt
        have HSET := Lib.hid (hset (-1))
        have hne1 : w.heap.size + 1 ≠ g := k1.ne_ kg (by decide)
        have hne2 : w1.heap.size ≠ g := k2.ne_ kg (by decide)
        have H12 := Lib.hid (And.intro hne1 hne2)
        clear hset hc hy
        go_wp2_with fail
        go_round
        case rel => exact ⟨k + 1, by omega, by go_num, k1.far (p := ⟨g, k, none⟩) H12.out.1 _, k2.far (p := ⟨g, k, none⟩) H12.out.2 _, HF.out.set_ne (q := ⟨g, k, none⟩) (fun e => HD.out g e rfl) _, by rw [HM.out]; exact HSET.out, HB.out.setCell (p := ⟨g, k, none⟩) hg _⟩
        case measure => simp [intOf]; omega
      · have HM := Lib.hid (maskH_keep (h := s.heap) hb)
        clear hb
        go_wp2_with fail
        go_round
        case rel => exact ⟨k + 1, by omega, by go_num, k1, k2, HF.out, by rw [HM.out]; exact HG.out, HB.out⟩
        case measure => simp [intOf]; omega
    · obtain rfl : k = 8 := by omega
      have hne : w1.heap.size ≠ w.heap.size + 1 := by omega
      have HM := Lib.hid (maskH_all (S := S) H8.out)
      go_wp2_with fail
      refine bodyPost_ret (v := .agg #[.slice F s.values.length e1, .slice G s.heap.length e2]) (by simp [results, Try.results95, go_sem, qk1]) rfl ⟨_, rfl, ⟨_, _, rfl, ?_, ?_, HD.out⟩, ?_⟩
      · exact (HF.out.setT k1 (by decide) 0 _).setT (k1.set_ 0 _) (by decide) 1 _
      · show IntsO _ _ _ (keepH s.heap fun x => S.testBit x.toNat)
        rw [← HM.out]
        exact (HG.out.setT k1 (by decide) 0 _).setT (k1.set_ 0 _) (by decide) 1 _
      · exact (HB.out.setCell (p := ⟨w.heap.size + 1, 0, none⟩) (by simp only; omega) _).setCell (p := ⟨w.heap.size + 1, 1, none⟩) (by simp only; omega) _
end Go.Proofs.Ytdhllcejahdjfaa
