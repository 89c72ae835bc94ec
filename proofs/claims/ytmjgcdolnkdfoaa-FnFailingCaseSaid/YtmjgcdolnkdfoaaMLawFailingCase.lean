/- What the reader draws: the arguments of FailingCase. -/
import Derived.Test.YtmjgcdolnkdfoaaDrawI
import Derived.Test.YtmjgcdolnkdfoaaMFailH
import Derived.Test.YtmjgcdolnkdfoaaPar
import Derived.Test.YtmjgcdolnkdfoaaSlInts
import Derived.Deep.RegionHeld3
set_option linter.unusedSimpArgs false
set_option linter.unusedVariables false
namespace Go.Proofs.Ytmjgcdolnkdfoaa
open Go Go.RowKit Go.Proofs
attribute [local go_sem ↓] Go.wp_at_zero Go.wp_at_succ

--@ spec.DrawFailingCase
set_option maxRecDepth 100000 in
set_option maxHeartbeats 6400000 in
theorem c_DrawFailingCase (A : Option Addr) (n c : Nat) (w : World) (h : BytesR w A n c) :
    Calls Try.prog 15 #[.slice A n c] w fun e w' => ∃ r1 r2 a b, e = .returned (.tuple #[r1, r2]) ∧ AsnO w' w.heap.size r1 a ∧ AsnO w' w.heap.size r2 b ∧ Below w.heap.size w w' := by
  have HR0 : Hid (BytesR ((w.alloc (.cells #[.slice none 0 0, .slice none 0 0] tAs)).alloc (.cells #[.slice none 0 0, .slice none 0 0] tAs)) A n c) := by
    obtain ⟨bs, h1, h2, h3⟩ := h
    exact ⟨bs, h1, (h2.below (bbox (bbox (Below.refl _ _) _) _)).mono (Nat.le_refl _) (by simp; omega), h3⟩
  clear h
  go_enter Try.func15, Try.ntmps15
  have k0 : Blk ((w.alloc (.cells #[.slice none 0 0, .slice none 0 0] tAs)).alloc (.cells #[.slice none 0 0, .slice none 0 0] tAs)) w.heap.size tAs #[.slice none 0 0, .slice none 0 0] := (by repeat (first | (with_reducible assumption) | (with_reducible exact Blk.new _ _ _) | ((with_reducible apply Blk.far); (case hp => (first | exact Nat.le_refl _ | (simp; done) | (simp; omega) | (simp only; omega) | omega))) | (with_reducible apply Blk.set_) | ((with_reducible refine Blk.newE ?_); (simp; done)) | (with_reducible apply Blk.alloc) | (with_reducible apply Blk.drew) | (with_reducible apply Blk.drewN)))
  have k1 : Blk ((w.alloc (.cells #[.slice none 0 0, .slice none 0 0] tAs)).alloc (.cells #[.slice none 0 0, .slice none 0 0] tAs)) (w.heap.size + 1) tAs #[.slice none 0 0, .slice none 0 0] := (by repeat (first | (with_reducible assumption) | (with_reducible exact Blk.new _ _ _) | ((with_reducible apply Blk.far); (case hp => (first | exact Nat.le_refl _ | (simp; done) | (simp; omega) | (simp only; omega) | omega))) | (with_reducible apply Blk.set_) | ((with_reducible refine Blk.newE ?_); (simp; done)) | (with_reducible apply Blk.alloc) | (with_reducible apply Blk.drew) | (with_reducible apply Blk.drewN)))
  have hB0 : Below w.heap.size w ((w.alloc (.cells #[.slice none 0 0, .slice none 0 0] tAs)).alloc (.cells #[.slice none 0 0, .slice none 0 0] tAs)) := (by repeat (first | (with_reducible exact Below.refl _ _) | (with_reducible assumption) | (with_reducible apply bbox) | ((with_reducible apply Below.setCell); (case hp => (first | exact Nat.le_refl _ | (simp; done) | (simp; omega) | (simp only; omega) | omega))) | (with_reducible apply Below.drew) | (with_reducible apply below_drewN)))
  have hs0 : w.heap.size + 2 ≤ ((w.alloc (.cells #[.slice none 0 0, .slice none 0 0] tAs)).alloc (.cells #[.slice none 0 0, .slice none 0 0] tAs)).heap.size := by simp
  go_wp2_with fail
  generalize ((w.alloc (.cells #[.slice none 0 0, .slice none 0 0] tAs)).alloc (.cells #[.slice none 0 0, .slice none 0 0] tAs)) = W0 at k0 k1 hB0 hs0 HR0 ⊢
  refine (c_DrawEntails A n c _ HR0.out).mono ?_
  rintro e w7 ⟨r1, r2, a6, a7, rfl, o6, o7, hB7⟩
  have k07 := k0.next hB7
  have k17 := k1.next hB7
  have HB7 : Hid (Below w.heap.size w w7) := bgo hB0 hB7
  clear hB7 hB0
  obtain ⟨fv6, av6, rfl, o61, o62⟩ := o6
  obtain ⟨V6, c6, rfl, -⟩ := o61.reads
  obtain ⟨B6, d6, rfl, -⟩ := o62.reads
  obtain ⟨fv7, av7, rfl, o71, o72⟩ := o7
  obtain ⟨F7, e7, rfl, -⟩ := o71.reads
  obtain ⟨G7, g7, rfl, -⟩ := o72.reads
  have P1 := Lib.hid (o61.lower (base' := w.heap.size) (by omega))
  have P2 := Lib.hid (o62.lower (base' := w.heap.size) (by omega))
  have P3 := Lib.hid (o71.lower (base' := w.heap.size) (by omega))
  have P4 := Lib.hid (o72.lower (base' := w.heap.size) (by omega))
  have hne01 : w.heap.size ≠ w.heap.size + 1 := by omega
  clear o61 o62 o71 o72 k0 k1 HR0
  (replace qk07 := k07.cell; replace rk07 := k07.frozen; replace lk07 := k07.lt; replace qk17 := k17.cell; replace rk17 := k17.frozen; replace lk17 := k17.lt)
  go_wp2_with fail
  have j1 := (k17.far (p := ⟨w.heap.size, 0, none⟩) (by simp only; omega) (.slice V6 a6.facts.length c6)).far (p := ⟨w.heap.size, 1, none⟩) (by simp only; omega) (.slice B6 a6.atoms.length d6)
  refine bodyPost_ret (v := .tuple #[.agg #[.slice V6 a6.facts.length c6, .slice B6 a6.atoms.length d6], .agg #[.slice F7 a7.facts.length e7, .slice G7 a7.atoms.length g7]]) (by simp [results, Try.results15, go_sem, qk07, qk17, lk07, lk17]) rfl ⟨_, _, a6, a7, rfl, ⟨_, _, rfl, ?_, ?_⟩, ⟨_, _, rfl, ?_, ?_⟩, ?_⟩
  · exact (((P1.out.setT k07 (by decide) 0 _).setT (k07.set_ 0 _) (by decide) 1 _).setT j1 (by decide) 0 _).setT (j1.set_ 0 _) (by decide) 1 _
  · exact (((P2.out.setT k07 (by decide) 0 _).setT (k07.set_ 0 _) (by decide) 1 _).setT j1 (by decide) 0 _).setT (j1.set_ 0 _) (by decide) 1 _
  · exact (((P3.out.setT k07 (by decide) 0 _).setT (k07.set_ 0 _) (by decide) 1 _).setT j1 (by decide) 0 _).setT (j1.set_ 0 _) (by decide) 1 _
  · exact (((P4.out.setT k07 (by decide) 0 _).setT (k07.set_ 0 _) (by decide) 1 _).setT j1 (by decide) 0 _).setT (j1.set_ 0 _) (by decide) 1 _
  · exact (((HB7.out.setCell (p := ⟨w.heap.size, 0, none⟩) (by simp only; omega) _).setCell (p := ⟨w.heap.size, 1, none⟩) (by simp only; omega) _).setCell (p := ⟨w.heap.size + 1, 0, none⟩) (by simp only; omega) _).setCell (p := ⟨w.heap.size + 1, 1, none⟩) (by simp only; omega) _
end Go.Proofs.Ytmjgcdolnkdfoaa

/- Contracts: impl's EntailsCase at a case. -/
namespace Go.Proofs.Ytmjgcdolnkdfoaa
open Go Go.RowKit Go.Proofs
attribute [local go_sem ↓] Go.wp_at_zero Go.wp_at_succ

theorem gen_idem (S : Nat) : ∀ (n : Nat) (c d : List Int), n ≤ 9 → c.length = 9 → d ∈ gen S n c → ∀ j : Nat, 9 - n ≤ j → j < 9 → S.testBit j = true → cl d (cl d j) = cl d j := by
  intro n
  induction n with
  | zero => intro c d _ _ _ j h1 h2; omega
  | succ n ih =>
    intro c d hn hc hd j h1 h2 hj
    unfold gen at hd
    cases e : S.testBit (8 - n)
    · rw [e] at hd
      simp only [Bool.false_eq_true, if_false] at hd
      by_cases ej : j = 8 - n
      · subst ej; rw [e] at hj; cases hj
      · exact ih _ _ (by omega) (by simpa using hc) hd j (by omega) h2 hj
    · rw [e, if_pos rfl, List.mem_flatMap] at hd
      obtain ⟨k, hk, hd⟩ := hd
      rw [List.mem_range] at hk
      split at hd
      · cases hd
      · rename_i hne
        by_cases ej : j = 8 - n
        · have hA := (gen_ok S n _ _ (by omega) (by simpa using hc) hd).2.1
          have e1 : cl d (j : Int) = k := by rw [hA j (by omega) (by omega), cl_set hc (by omega) _ (by omega), if_pos (by omega)]
          rw [e1, hA k (by omega) (by omega), cl_set hc (by omega) _ (by omega)]
          split
          · rfl
          · rename_i hkn
            by_cases h3 : cl c k = k
            · exact h3
            · exact absurd ⟨by omega, h3⟩ hne
        · exact ih _ _ (by omega) (by simpa using hc) hd j (by omega) h2 hj

--@ impl.readCase
set_option maxRecDepth 100000 in
set_option maxHeartbeats 6400000 in
theorem c_impl_readCase {lo hi lo' hi' : Nat} (v : Value) (a : Asn) (F : Nat) (cs : List Int) (A : Option Addr) (c : Nat) (w : World) (h : AsnV w lo hi v a) (hA : IntsV w lo' hi' A cs) (hv : a.valid = true) (hF : F < 512) (hcs : cs ∈ cases a (caseS a F)) :
    Calls Try.prog 90 #[v, .int .u16 F, .slice A cs.length c] w fun e w' => e = .returned (.tuple #[.agg (case9 cs), .bool true]) ∧ Below w.heap.size w w' := by
  have hV := Lib.hid h
  have HX := Lib.hid hA
  obtain ⟨A1, c1, A2, c2, rfl, -, -⟩ := h
  have hgen : cs ∈ gen (caseS a F) 9 zeros := (List.mem_filter.1 hcs).1
  have hfull : full a cs = true := (List.mem_filter.1 hcs).2
  have hok := Asn.valid_ok hv
  have H9 : Hid (cs.length = 9) := (gen_ok _ 9 zeros cs (by omega) rfl hgen).1
  have HG : Hid (∀ j : Nat, j < 9 → ((caseS a F).testBit j = true → 0 ≤ cl cs j ∧ cl cs j ≤ j) ∧ ((caseS a F).testBit j = false → cl cs j = -1)) := fun j hj => (gen_ok _ 9 zeros cs (by omega) rfl hgen).2.2 j (by omega) hj
  have HI : Hid (∀ j : Nat, j < 9 → (caseS a F).testBit j = true → cl cs (cl cs j) = cl cs j) := fun j hj hb => gen_idem _ 9 zeros cs (by omega) rfl hgen j (by omega) hj hb
  have HP : Hid (poss a cs 8 = true) := by show _ = _; rw [← full_poss hok.1 hok.2]; exact hfull
  have HOK := Lib.hid hok
  have HT := Lib.hid (caseS_terms hv F)
  have hT := tset_lt (termsL a)
  have hT2 := tins_lt hT 0
  have hU := u16_or_nat (tins (tset (termsL a)) 0) F (by omega) (by omega)
  have hSlt : caseS a F < 512 := caseS_lt hF
  have hn9 : ((cs.length : Int) != 9) = false := by have := H9.out; simp; omega
  have HCS : Hid (tins (tset (termsL a)) 0 ||| F = caseS a F) := rfl
  clear hgen hfull hok hcs hA
  go_enter Try.func90, Try.ntmps90
  have k0 : Blk (((w.alloc (.cells #[.slice A1 a.facts.length c1, .slice A2 a.atoms.length c2] tAs)).alloc (.cells (case9 zeros) tC)).alloc (.cells (case9 zeros) tC)) w.heap.size tAs #[.slice A1 a.facts.length c1, .slice A2 a.atoms.length c2] := (by repeat (first | (with_reducible assumption) | (with_reducible exact Blk.new _ _ _) | ((with_reducible apply Blk.far); (case hp => (first | exact Nat.le_refl _ | (simp; done) | (simp; omega) | (simp only; omega) | omega))) | (with_reducible apply Blk.set_) | ((with_reducible refine Blk.newE ?_); (simp; done)) | (with_reducible apply Blk.alloc) | (with_reducible apply Blk.drew) | (with_reducible apply Blk.drewN)))
  have k1 : Blk (((w.alloc (.cells #[.slice A1 a.facts.length c1, .slice A2 a.atoms.length c2] tAs)).alloc (.cells (case9 zeros) tC)).alloc (.cells (case9 zeros) tC)) (w.heap.size + 1) tC (case9 zeros) := (by repeat (first | (with_reducible assumption) | (with_reducible exact Blk.new _ _ _) | ((with_reducible apply Blk.far); (case hp => (first | exact Nat.le_refl _ | (simp; done) | (simp; omega) | (simp only; omega) | omega))) | (with_reducible apply Blk.set_) | ((with_reducible refine Blk.newE ?_); (simp; done)) | (with_reducible apply Blk.alloc) | (with_reducible apply Blk.drew) | (with_reducible apply Blk.drewN)))
  have k2 : Blk (((w.alloc (.cells #[.slice A1 a.facts.length c1, .slice A2 a.atoms.length c2] tAs)).alloc (.cells (case9 zeros) tC)).alloc (.cells (case9 zeros) tC)) (w.heap.size + 1 + 1) tC (case9 zeros) := (by repeat (first | (with_reducible assumption) | (with_reducible exact Blk.new _ _ _) | ((with_reducible apply Blk.far); (case hp => (first | exact Nat.le_refl _ | (simp; done) | (simp; omega) | (simp only; omega) | omega))) | (with_reducible apply Blk.set_) | ((with_reducible refine Blk.newE ?_); (simp; done)) | (with_reducible apply Blk.alloc) | (with_reducible apply Blk.drew) | (with_reducible apply Blk.drewN)))
  go_wp2_with fail
  refine (c_impl_termsIn _ a _ (hV.out.below (by repeat (first | (with_reducible exact Below.refl _ _) | (with_reducible assumption) | (with_reducible apply bbox) | ((with_reducible apply Below.setCell); (case hp => (first | exact Nat.le_refl _ | (simp; done) | (simp; omega) | (simp only; omega) | omega))) | (with_reducible apply Below.drew) | (with_reducible apply below_drewN))))).mono ?_
  rintro e w1 ⟨rfl, hB1⟩
  have hB := bgo (w := w) (by repeat (first | (with_reducible exact Below.refl _ _) | (with_reducible assumption) | (with_reducible apply bbox) | ((with_reducible apply Below.setCell); (case hp => (first | exact Nat.le_refl _ | (simp; done) | (simp; omega) | (simp only; omega) | omega))) | (with_reducible apply Below.drew) | (with_reducible apply below_drewN))) hB1
  replace k0 := Blk.next k0 hB1
  replace k1 := Blk.next k1 hB1
  replace k2 := Blk.next k2 hB1
  clear hB1
  go_wp2_with fail
  refine (c_impl_with _ 0 _ hT).mono ?_
  rintro e w2 ⟨rfl, rfl⟩
  obtain ⟨S, hSe⟩ : ∃ S, S = caseS a F := ⟨_, rfl⟩
  have HB := Lib.hid hB
  rw [HCS.out, ← hSe] at hU
  rw [← hSe] at HG HI HT hSlt
  clear hB HCS hSe
  (replace qk0 := k0.cell; replace rk0 := k0.frozen; replace lk0 := k0.lt)
  go_wp2_with fail
  try rw [hU]
  clear hU hT hT2
  go_loopw [23] (fun i wr => ∃ (k : Nat) (d : List Int), k ≤ 9 ∧ i = .int .i64 k ∧ Hid (d.length = 9 ∧ ∀ j : Nat, j < k → cl d j = cl cs j) ∧ Blk wr w.heap.size tAs #[.slice A1 a.facts.length c1, .slice A2 a.atoms.length c2] ∧ Blk wr (w.heap.size + 1) tC (case9 zeros) ∧ Blk wr (w.heap.size + 1 + 1) tC (case9 d) ∧ Hid (Below w.heap.size w wr)) (fun i _ => 9 - (intOf i).toNat)
  case atStart => exact ⟨0, zeros, by omega, rfl, ⟨rfl, fun j hj => by omega⟩, k0, k1, k2, HB.out⟩
  case round =>
    clear k0 k1 k2 HB qk0 rk0 lk0
    obtain ⟨k, d, hk, rfl, HD, k0, k1, k2, HB⟩ := hrel
    have hll : Hid ((cs.length : Int) = 9) := by show _ = _; have := H9.out; omega
    by_cases hk9 : k < 9
    · have hki : (k : Int) < (cs.length : Int) := by have := hll.out; omega
      have hki9 : (k : Int) < 9 := by omega
      have hkl : k < cs.length := by have := H9.out; omega
      obtain ⟨b, off, e, cx⟩ := (HX.out.below HB.out).at hkl
      subst e
      have hclk : cl cs k = cs[k] := by unfold cl; rw [Int.toNat_natCast, List.getElem?_eq_getElem hkl]; rfl
      obtain ⟨x, hx⟩ : ∃ x, x = cs[k] := ⟨_, rfl⟩
      rw [← hx] at cx hclk
      have HGK := Lib.hid (HG.out k hk9)
      have HIK := Lib.hid (HI.out k hk9)
      rw [hclk] at HGK HIK
      have HCK := Lib.hid hclk
      have qm : wr.cell? ⟨w.heap.size + 1 + 1, k, none⟩ = some (.int .i64 (cl d k)) := case_cell (k2.case HD.out.1) (by rw [HD.out.1]; omega)
      have r2 := k2.frozen
      have l2 := k2.lt
      have k2' := k2.caseSet HD.out.1 k x
      have k0' := k0.far (p := ⟨w.heap.size + 1 + 1, k, none⟩) (by simp only; omega) (.int .i64 x)
      have k1' := k1.far (p := ⟨w.heap.size + 1 + 1, k, none⟩) (by simp only; omega) (.int .i64 x)
      have HB' : Hid (Below w.heap.size w (wr.setCell ⟨w.heap.size + 1 + 1, k, none⟩ (.int .i64 x))) := HB.out.setCell (p := ⟨w.heap.size + 1 + 1, k, none⟩) (by simp only; omega) _
      have HDS : Hid ((d.set k x).length = 9 ∧ ∀ j : Nat, j < k + 1 → cl (d.set k x) j = cl cs j) := by
        refine ⟨by simpa using HD.out.1, fun j hj => ?_⟩
        rw [cl_set HD.out.1 hk9 _ (by omega)]
        split
        · rename_i e; rw [HCK.out.symm]; congr 1; omega
        · exact HD.out.2 j (by omega)
      clear hx hclk hkl
      go_wp2_with fail
      refine (c_impl_tHas S (k : Int) _ hSlt).mono ?_
      rintro e w3 ⟨rfl, rfl⟩
      rw [show isTermB (k : Int) = true from isTermB_iff.2 (by omega), Int.toNat_natCast, Bool.true_and]
      generalize (wr.setCell ⟨w.heap.size + 1 + 1, k, none⟩ (.int .i64 x)) = W3 at k2' k0' k1' HB' ⊢
      clear k0 k1 k2 HB qm r2 l2 cx
      cases hb : S.testBit k
      · have hx1 : x = -1 := HGK.out.2 hb
        have hx2 : (x != -1) = false := by simp [hx1]
        clear hb hx1
        go_wp2_with fail
        go_round
        case rel => exact ⟨k + 1, d.set k x, by omega, by go_num, HDS.out, k0', k1', k2', HB'⟩
        case measure => simp [intOf]; omega
      · have hx1 := HGK.out.1 hb
        have hidem := HIK.out hb
        clear hb
        obtain ⟨xn, rfl⟩ := Int.eq_ofNat_of_zero_le hx1.1
        have hxk : ¬ ((k : Int) < (xn : Int)) := by omega
        have hx0 : ¬ ((xn : Int) < 0) := by omega
        have hx9 : (xn : Int) < 9 := by omega
        have qx : W3.cell? ⟨w.heap.size + 1 + 1, xn, none⟩ = some (.int .i64 (cl (d.set k (xn : Int)) xn)) := case_cell (k2'.case HDS.out.1) (by rw [HDS.out.1]; omega)
        rw [HDS.out.2 xn (by omega), hidem] at qx
        have hxx : ((xn : Int) != (xn : Int)) = false := by simp
        clear hidem hx1
        go_wp2_with fail
        go_round
        case rel => exact ⟨k + 1, d.set k (xn : Int), by omega, by go_num, HDS.out, k0', k1', k2', HB'⟩
        case measure => simp [intOf]; omega
    · obtain rfl : k = 9 := by omega
      have hkn : ¬ ((9 : Int) < (cs.length : Int)) := by have := hll.out; omega
      obtain rfl : d = cs := by
        apply List.ext_getElem (by rw [HD.out.1, H9.out])
        intro j h1 h2
        have := HD.out.2 j (by have := HD.out.1; omega)
        simpa [cl, List.getElem?_eq_getElem h1, List.getElem?_eq_getElem h2] using this
      have hlen9 : (d.length : Int) = 9 := hll.out
      have hB := HB.out
      have HCLS : Hid (∀ x ∈ a.atoms, x.a ≤ 8 → isTermB (cl d x.a) = true) := by
        intro x hx h8
        have h1 := (HOK.out.2 x hx).1
        have h2 : x.a ∈ termsL a := by
          simp only [termsL, List.mem_append, List.mem_flatMap]
          exact Or.inr ⟨x, hx, by simp [atomT]⟩
        have h3 := (HG.out x.a.toNat (by omega)).1 (HT.out _ h2)
        rw [show ((x.a.toNat : Nat) : Int) = x.a from Int.toNat_of_nonneg h1.1] at h3
        rw [isTermB_iff]
        omega
      have k9 := Lib.hid (k2.case H9.out)
      have hBd : Below w.heap.size w wr.drew := hB.drew
      obtain ⟨q0, q1, q2, q3, q4, q5, q6, q7, q8⟩ := case9_cells k2
      have hne : w.heap.size + 1 ≠ w.heap.size + 1 + 1 := by omega
      (replace qk0 := k0.cell; replace rk0 := k0.frozen; replace lk0 := k0.lt)
      go_wp2_with fail
      refine wp_region_noPanic ?_
      refine wp_region_held_drew (S := (fun w' => (∀ i, w'.cell? ⟨w.heap.size + 1 + 1, i, none⟩ = (case9 d)[i]?) ∧ (∀ i, w'.cell? ⟨w.heap.size, i, none⟩ = #[.slice A1 a.facts.length c1, .slice A2 a.atoms.length c2][i]?))) (by kernel_rfl) (⟨k2.drew.cell, k0.drew.cell⟩) (fun hHeld => ?_)
      refine wpAnyH_take (i := 0) (v := ?_) rfl (by kernel_rfl) (by kernel_rfl) (by kernel_rfl) (fun _ _ _ h => h) (Or.inl ⟨by rfl, fun w hSw => ?_⟩) hHeld ?_
      rotate_left
      · ((try dsimp only at hSw); go_split_ands; go_simp; (try with_reducible rfl))
      try simp only [Act.put, List.getElem_toArray, List.getElem_cons_zero, List.getElem_cons_succ, List.setIfInBounds_toArray, List.set_cons_zero, List.set_cons_succ]
      refine wpAnyH_take (i := 1) (v := ?_) rfl (by kernel_rfl) (by kernel_rfl) (by kernel_rfl) (fun _ _ _ h => h) (Or.inl ⟨by rfl, fun w hSw => ?_⟩) hHeld ?_
      rotate_left
      · ((try dsimp only at hSw); go_split_ands; go_simp; (try with_reducible rfl))
      try simp only [Act.put, List.getElem_toArray, List.getElem_cons_zero, List.getElem_cons_succ, List.setIfInBounds_toArray, List.set_cons_zero, List.set_cons_succ]
      refine wpAnyH_ready (rs := [2]) (by kernel_rfl) (by simp) ?_
      refine AllReadyH.cons rfl (fun K hK => ?_) AllReadyH.nil
      try simp only [List.getElem_toArray, List.getElem_cons_zero, List.getElem_cons_succ]
      (go_simp; refine (c_impl_possible _ a 8 d (w.heap.size + 1 + 1) _ (hV.out.below hBd) k9.out.drew H9.out HOK.out.1 HOK.out.2 HCLS.out).mono ?_; rintro e w4 ⟨rfl, hB4⟩; rw [HP.out]; have k04 := k0.drew.next hB4; have k14 := k1.drew.next hB4; have k24 := k2.drew.next hB4; have HB4 := Lib.hid (bgo hBd hB4))
      refine hK.out _ _ (⟨k24.cell, k04.cell⟩) (fun hHeldN => ?_)
      clear hHeld hK K
      have hHeld := hHeldN
      clear hHeldN
      try simp only [Act.put, List.getElem_toArray, List.getElem_cons_zero, List.getElem_cons_succ, List.setIfInBounds_toArray, List.set_cons_zero, List.set_cons_succ]
      clear q0 q1 q2 q3 q4 q5 q6 q7 q8
      obtain ⟨z0, z1, z2, z3, z4, z5, z6, z7, z8⟩ := case9_cells k14
      have r14 := k14.frozen
      have l14 := k14.lt
      refine wpAnyH_ready (rs := [3]) (by kernel_rfl) (by simp) ?_
      refine AllReadyH.cons rfl (fun K hK => ?_) AllReadyH.nil
      try simp only [List.getElem_toArray, List.getElem_cons_zero, List.getElem_cons_succ]
      go_simp
      refine hK.out _ _ (⟨(k24.nineFar (by omega)).cell, (k04.nineFar (by omega)).cell⟩) (fun hHeldN => ?_)
      clear hHeld hK K
      have hHeld := hHeldN
      clear hHeldN
      try simp only [Act.put, List.getElem_toArray, List.getElem_cons_zero, List.getElem_cons_succ, List.setIfInBounds_toArray, List.set_cons_zero, List.set_cons_succ]
      refine wpAnyH_take (i := 4) (v := ?_) rfl (by kernel_rfl) (by kernel_rfl) (by kernel_rfl) (fun _ _ _ h => h) (Or.inl ⟨by rfl, fun w hSw => ?_⟩) hHeld ?_
      rotate_left
      · ((try dsimp only at hSw); go_split_ands; go_simp; (try with_reducible rfl))
      try simp only [Act.put, List.getElem_toArray, List.getElem_cons_zero, List.getElem_cons_succ, List.setIfInBounds_toArray, List.set_cons_zero, List.set_cons_succ]
      refine wpAnyH_done (by kernel_rfl) ?_ _
      refine NoPanic.normal ?_
      have kR := Blk.nine (v0 := .int .i64 (cl d 0)) (v1 := .int .i64 (cl d 1)) (v2 := .int .i64 (cl d 2)) (v3 := .int .i64 (cl d 3)) (v4 := .int .i64 (cl d 4)) (v5 := .int .i64 (cl d 5)) (v6 := .int .i64 (cl d 6)) (v7 := .int .i64 (cl d 7)) (v8 := .int .i64 (cl d 8)) k14
      have hBR := below9 (g := w.heap.size + 1) (v0 := .int .i64 (cl d 0)) (v1 := .int .i64 (cl d 1)) (v2 := .int .i64 (cl d 2)) (v3 := .int .i64 (cl d 3)) (v4 := .int .i64 (cl d 4)) (v5 := .int .i64 (cl d 5)) (v6 := .int .i64 (cl d 6)) (v7 := .int .i64 (cl d 7)) (v8 := .int .i64 (cl d 8)) HB4.out (by omega)
      obtain ⟨V, hVe⟩ : ∃ V, V = (set9 w4 (w.heap.size + 1) (.int .i64 (cl d 0)) (.int .i64 (cl d 1)) (.int .i64 (cl d 2)) (.int .i64 (cl d 3)) (.int .i64 (cl d 4)) (.int .i64 (cl d 5)) (.int .i64 (cl d 6)) (.int .i64 (cl d 7)) (.int .i64 (cl d 8))) := ⟨_, rfl⟩
      show Exit.then _ _ Exit.normal _ (set9 w4 (w.heap.size + 1) (.int .i64 (cl d 0)) (.int .i64 (cl d 1)) (.int .i64 (cl d 2)) (.int .i64 (cl d 3)) (.int .i64 (cl d 4)) (.int .i64 (cl d 5)) (.int .i64 (cl d 6)) (.int .i64 (cl d 7)) (.int .i64 (cl d 8)))
      rw [← hVe] at kR hBR ⊢
      have kR' : Blk V (w.heap.size + 1) tC (case9 d) := kR
      obtain ⟨p0, p1, p2, p3, p4, p5, p6, p7, p8⟩ := case9_cells kR'
      clear hVe kR k14 z0 z1 z2 z3 z4 z5 z6 z7 z8 r14 l14
      go_wp2_with fail
      exact bodyPost_ret (v := .tuple #[.agg (case9 d), .bool true]) (by simp [results, Try.results90, go_sem, p0, p1, p2, p3, p4, p5, p6, p7, p8]) rfl ⟨rfl, hBR⟩

--@ impl.EntailsCase
set_option maxRecDepth 100000 in
set_option maxHeartbeats 6400000 in
theorem c_impl_EntailsCase {lo hi lo' hi' lo2 hi2 : Nat} (v v' : Value) (a b : Asn) (cs : List Int) (A : Option Addr) (c : Nat) (w : World) (h : AsnV w lo hi v a) (h' : AsnV w lo' hi' v' b) (hA : IntsV w lo2 hi2 A cs) (ha : a.valid = true) (hb : b.valid = true) (hcs : cs ∈ cases a (caseS a (tset (termsL b)))) :
    Calls Try.prog 21 #[v, v', .slice A cs.length c] w fun e w' => e = .returned (.bool (entB a b cs)) ∧ Below w.heap.size w w' := by
  have hV := Lib.hid h
  have hV' := Lib.hid h'
  have HX := Lib.hid hA
  obtain ⟨A1, c1, A2, c2, rfl, -, -⟩ := h
  obtain ⟨A3, c3, A4, c4, rfl, -, -⟩ := h'
  have HA := Lib.hid ha
  have HBV := Lib.hid hb
  have HCS := Lib.hid hcs
  have H9 : Hid (cs.length = 9) := (gen_ok _ 9 zeros cs (by omega) rfl (List.mem_filter.1 hcs).1).1
  have hTb := tset_lt (termsL b)
  clear ha hb hcs hA
  go_enter Try.func21, Try.ntmps21
  have k0 : Blk ((w.alloc (.cells #[.slice A1 a.facts.length c1, .slice A2 a.atoms.length c2] tAs)).alloc (.cells #[.slice A3 b.facts.length c3, .slice A4 b.atoms.length c4] tAs)) w.heap.size tAs #[.slice A1 a.facts.length c1, .slice A2 a.atoms.length c2] := (by repeat (first | (with_reducible assumption) | (with_reducible exact Blk.new _ _ _) | ((with_reducible apply Blk.far); (case hp => (first | exact Nat.le_refl _ | (simp; done) | (simp; omega) | (simp only; omega) | omega))) | (with_reducible apply Blk.set_) | ((with_reducible refine Blk.newE ?_); (simp; done)) | (with_reducible apply Blk.alloc) | (with_reducible apply Blk.drew) | (with_reducible apply Blk.drewN)))
  have k1 : Blk ((w.alloc (.cells #[.slice A1 a.facts.length c1, .slice A2 a.atoms.length c2] tAs)).alloc (.cells #[.slice A3 b.facts.length c3, .slice A4 b.atoms.length c4] tAs)) (w.heap.size + 1) tAs #[.slice A3 b.facts.length c3, .slice A4 b.atoms.length c4] := (by repeat (first | (with_reducible assumption) | (with_reducible exact Blk.new _ _ _) | ((with_reducible apply Blk.far); (case hp => (first | exact Nat.le_refl _ | (simp; done) | (simp; omega) | (simp only; omega) | omega))) | (with_reducible apply Blk.set_) | ((with_reducible refine Blk.newE ?_); (simp; done)) | (with_reducible apply Blk.alloc) | (with_reducible apply Blk.drew) | (with_reducible apply Blk.drewN)))
  go_wp2_with fail
  refine (c_impl_AssertionValid _ a _ (hV.out.below (by repeat (first | (with_reducible exact Below.refl _ _) | (with_reducible assumption) | (with_reducible apply bbox) | ((with_reducible apply Below.setCell); (case hp => (first | exact Nat.le_refl _ | (simp; done) | (simp; omega) | (simp only; omega) | omega))) | (with_reducible apply Below.drew) | (with_reducible apply below_drewN))))).mono ?_
  rintro e w1 ⟨rfl, hB1⟩
  rw [HA.out]
  have hB : Below w.heap.size w w1 := bgo (w := w) (by repeat (first | (with_reducible exact Below.refl _ _) | (with_reducible assumption) | (with_reducible apply bbox) | ((with_reducible apply Below.setCell); (case hp => (first | exact Nat.le_refl _ | (simp; done) | (simp; omega) | (simp only; omega) | omega))) | (with_reducible apply Below.drew) | (with_reducible apply below_drewN))) hB1
  (replace k0 := k0.next hB1; replace qk0 := k0.cell; replace rk0 := k0.frozen; replace lk0 := k0.lt; replace k1 := k1.next hB1; replace qk1 := k1.cell; replace rk1 := k1.frozen; replace lk1 := k1.lt)
  clear hB1
  go_wp2_with fail
  refine (c_impl_AssertionValid _ b _ (hV'.out.below hB)).mono ?_
  rintro e w2 ⟨rfl, hB2⟩
  rw [HBV.out]
  (replace hB := bgo hB hB2; replace k0 := k0.next hB2; replace qk0 := k0.cell; replace rk0 := k0.frozen; replace lk0 := k0.lt; replace k1 := k1.next hB2; replace qk1 := k1.cell; replace rk1 := k1.frozen; replace lk1 := k1.lt)
  clear hB2
  obtain ⟨T, hTe⟩ : ∃ T, T = tset (termsL b) := ⟨_, rfl⟩
  have HTE := Lib.hid hTe
  rw [← hTe] at HCS hTb
  clear hTe
  go_wp2_with fail
  refine wp_region_noPanic ?_
  refine wp_region_held_drew (S := (fun w' => (∀ i, w'.cell? ⟨w.heap.size, i, none⟩ = #[.slice A1 a.facts.length c1, .slice A2 a.atoms.length c2][i]?) ∧ (∀ i, w'.cell? ⟨w.heap.size + 1, i, none⟩ = #[.slice A3 b.facts.length c3, .slice A4 b.atoms.length c4][i]?))) (by kernel_rfl) (⟨Blk.cell (by repeat (first | (with_reducible assumption) | (with_reducible exact Blk.new _ _ _) | ((with_reducible apply Blk.far); (case hp => (first | exact Nat.le_refl _ | (simp; done) | (simp; omega) | (simp only; omega) | omega))) | (with_reducible apply Blk.set_) | ((with_reducible refine Blk.newE ?_); (simp; done)) | (with_reducible apply Blk.alloc) | (with_reducible apply Blk.drew) | (with_reducible apply Blk.drewN))), Blk.cell (by repeat (first | (with_reducible assumption) | (with_reducible exact Blk.new _ _ _) | ((with_reducible apply Blk.far); (case hp => (first | exact Nat.le_refl _ | (simp; done) | (simp; omega) | (simp only; omega) | omega))) | (with_reducible apply Blk.set_) | ((with_reducible refine Blk.newE ?_); (simp; done)) | (with_reducible apply Blk.alloc) | (with_reducible apply Blk.drew) | (with_reducible apply Blk.drewN)))⟩) (fun hHeld => ?_)
  refine wpAnyH_take (i := 0) (v := ?_) rfl (by kernel_rfl) (by kernel_rfl) (by kernel_rfl) (fun _ _ _ h => h) (Or.inl ⟨by rfl, fun w hSw => ?_⟩) hHeld ?_
  rotate_left
  · ((try dsimp only at hSw); go_split_ands; go_simp; (try with_reducible rfl))
  try simp only [Act.put, List.getElem_toArray, List.getElem_cons_zero, List.getElem_cons_succ, List.setIfInBounds_toArray, List.set_cons_zero, List.set_cons_succ]
  refine wpAnyH_take (i := 1) (v := ?_) rfl (by kernel_rfl) (by kernel_rfl) (by kernel_rfl) (fun _ _ _ h => h) (Or.inl ⟨by rfl, fun w hSw => ?_⟩) hHeld ?_
  rotate_left
  · ((try dsimp only at hSw); go_split_ands; go_simp; (try with_reducible rfl))
  try simp only [Act.put, List.getElem_toArray, List.getElem_cons_zero, List.getElem_cons_succ, List.setIfInBounds_toArray, List.set_cons_zero, List.set_cons_succ]
  refine wpAnyH_take (i := 3) (v := ?_) rfl (by kernel_rfl) (by kernel_rfl) (by kernel_rfl) (fun _ _ _ h => h) (Or.inl ⟨by rfl, fun w hSw => ?_⟩) hHeld ?_
  rotate_left
  · ((try dsimp only at hSw); go_split_ands; go_simp; (try with_reducible rfl))
  try simp only [Act.put, List.getElem_toArray, List.getElem_cons_zero, List.getElem_cons_succ, List.setIfInBounds_toArray, List.set_cons_zero, List.set_cons_succ]
  refine wpAnyH_par [2, 4, 5, 6, 7, 8, 9] #[true, true, true, true, true, true, true, true, true, true, false] 7 (by kernel_rfl) hHeld
    (fun a0 D a1 w' => Hid (Below w.heap.size w w' ∧ Blk w' w.heap.size tAs #[.slice A1 a.facts.length c1, .slice A2 a.atoms.length c2] ∧ Blk w' (w.heap.size + 1) tAs #[.slice A3 b.facts.length c3, .slice A4 b.atoms.length c4]) ∧
      ∃ v20 v22 v17 v23 v24 v7, a1 = (((((a0.put (some 20) v20).put (some 22) v22).put (some 17) v17).put (some 23) v23).put (some 24) v24).put (some 7) v7 ∧
        Hid (dn D 2 = true → v20 = .int .u16 T) ∧ Hid (dn D 4 = true → v22 = .tuple #[.agg (case9 cs), .bool true]) ∧ Hid (dn D 5 = true → v17 = .tuple #[.agg (case9 cs), .bool true]) ∧
        Hid (dn D 6 = true → v23 = .agg (case9 cs)) ∧ Hid (dn D 7 = true → v24 = .bool true) ∧
        Hid (dn D 9 = true → dn D 8 = true) ∧ Hid (dn D 8 = true → ∃ x, v7 = .pointer (some ⟨x, 0, none⟩) ∧ w.heap.size + 1 < x ∧ Blk w' x tC (case9 (if dn D 9 = true then cs else zeros)))) ?start ?steps ?fin
  case start => exact ⟨⟨hB.drew, k0.drew, k1.drew⟩, undef, undef, undef, undef, undef, undef, rfl, fun h => absurd h (by decide), fun h => absurd h (by decide), fun h => absurd h (by decide), fun h => absurd h (by decide), fun h => absurd h (by decide), fun h => absurd h (by decide), fun h => absurd h (by decide)⟩
  case steps =>
    refine ParSteps.cons rfl (fun D a1 w' hu hd hI hS K' hK G hG => ?_) (ParSteps.cons rfl (fun D a1 w' hu hd hI hS K' hK G hG => ?_) (ParSteps.cons rfl (fun D a1 w' hu hd hI hS K' hK G hG => ?_) (ParSteps.cons rfl (fun D a1 w' hu hd hI hS K' hK G hG => ?_) (ParSteps.cons rfl (fun D a1 w' hu hd hI hS K' hK G hG => ?_) (ParSteps.cons rfl (fun D a1 w' hu hd hI hS K' hK G hG => ?_) (ParSteps.cons rfl (fun D a1 w' hu hd hI hS K' hK G hG => ?_) (ParSteps.nil)))))))
    · obtain ⟨HW, v20, v22, v17, v23, v24, v7, ha, h2, h4, h5, h6, h7, h9, h8⟩ := hI
      rw [ha] at hG
      clear ha a1
      refine hG ?_
      clear hG hd
      try simp only [Act.put, List.setIfInBounds_toArray, List.set_cons_zero, List.set_cons_succ]
      go_simp
      refine (c_impl_termsIn _ b _ (hV'.out.below HW.out.1)).mono ?_
      rintro e w3 ⟨rfl, hB3⟩
      rw [← HTE.out]
      refine hK.out _ _ ⟨(HW.out.2.1.next hB3).cell, (HW.out.2.2.next hB3).cell⟩ ⟨⟨bgo HW.out.1 hB3, HW.out.2.1.next hB3, HW.out.2.2.next hB3⟩, .int .u16 T, v22, v17, v23, v24, v7, rfl, fun _ => rfl, dn_keep (by decide) h4.out id, dn_keep (by decide) h5.out id, dn_keep (by decide) h6.out id, dn_keep (by decide) h7.out id, fun h => by rw [dn_ne (by decide)] at h ⊢; exact h9.out h, fun h => by rw [dn_ne (by decide)] at h; rw [dn_ne (by decide)]; obtain ⟨x, ex, hx, kx⟩ := h8.out h; exact ⟨x, ex, hx, kx.next hB3⟩⟩
    · obtain ⟨HW, v20, v22, v17, v23, v24, v7, ha, h2, h4, h5, h6, h7, h9, h8⟩ := hI
      rw [ha] at hG
      clear ha a1
      have t : dn D 2 = true := hd ⟨2, .data⟩ (by simp) (by decide)
      have e2 := h2.out t
      subst e2
      clear t
      refine hG ?_
      clear hG hd
      try simp only [Act.put, List.setIfInBounds_toArray, List.set_cons_zero, List.set_cons_succ]
      go_simp
      refine (c_impl_readCase _ a T cs A c _ (hV.out.below HW.out.1) (HX.out.below HW.out.1) HA.out hTb HCS.out).mono ?_
      rintro e w3 ⟨rfl, hB3⟩
      refine hK.out _ _ ⟨(HW.out.2.1.next hB3).cell, (HW.out.2.2.next hB3).cell⟩ ⟨⟨bgo HW.out.1 hB3, HW.out.2.1.next hB3, HW.out.2.2.next hB3⟩, .int .u16 T, .tuple #[.agg (case9 cs), .bool true], v17, v23, v24, v7, rfl, dn_keep (by decide) h2.out id, fun _ => rfl, dn_keep (by decide) h5.out id, dn_keep (by decide) h6.out id, dn_keep (by decide) h7.out id, fun h => by rw [dn_ne (by decide)] at h ⊢; exact h9.out h, fun h => by rw [dn_ne (by decide)] at h; rw [dn_ne (by decide)]; obtain ⟨x, ex, hx, kx⟩ := h8.out h; exact ⟨x, ex, hx, kx.next hB3⟩⟩
    · obtain ⟨HW, v20, v22, v17, v23, v24, v7, ha, h2, h4, h5, h6, h7, h9, h8⟩ := hI
      rw [ha] at hG
      clear ha a1
      have t : dn D 4 = true := hd ⟨4, .data⟩ (by simp) (by decide)
      have e2 := h4.out t
      subst e2
      clear t
      refine hG ?_
      clear hG hd
      try simp only [Act.put, List.setIfInBounds_toArray, List.set_cons_zero, List.set_cons_succ]
      go_simp
      refine hK.out _ _ hS ⟨HW.out, v20, .tuple #[.agg (case9 cs), .bool true], .tuple #[.agg (case9 cs), .bool true], v23, v24, v7, rfl, dn_keep (by decide) h2.out id, dn_keep (by decide) h4.out id, fun _ => rfl, dn_keep (by decide) h6.out id, dn_keep (by decide) h7.out id, fun h => by rw [dn_ne (by decide)] at h ⊢; exact h9.out h, fun h => by rw [dn_ne (by decide)] at h; rw [dn_ne (by decide)]; obtain ⟨x, ex, hx, kx⟩ := h8.out h; exact ⟨x, ex, hx, kx⟩⟩
    · obtain ⟨HW, v20, v22, v17, v23, v24, v7, ha, h2, h4, h5, h6, h7, h9, h8⟩ := hI
      rw [ha] at hG
      clear ha a1
      have t : dn D 5 = true := hd ⟨5, .data⟩ (by simp) (by decide)
      have e2 := h5.out t
      subst e2
      clear t
      refine hG ?_
      clear hG hd
      try simp only [Act.put, List.setIfInBounds_toArray, List.set_cons_zero, List.set_cons_succ]
      go_simp
      refine hK.out _ _ hS ⟨HW.out, v20, v22, .tuple #[.agg (case9 cs), .bool true], .agg (case9 cs), v24, v7, rfl, dn_keep (by decide) h2.out id, dn_keep (by decide) h4.out id, dn_keep (by decide) h5.out id, fun _ => rfl, dn_keep (by decide) h7.out id, fun h => by rw [dn_ne (by decide)] at h ⊢; exact h9.out h, fun h => by rw [dn_ne (by decide)] at h; rw [dn_ne (by decide)]; obtain ⟨x, ex, hx, kx⟩ := h8.out h; exact ⟨x, ex, hx, kx⟩⟩
    · obtain ⟨HW, v20, v22, v17, v23, v24, v7, ha, h2, h4, h5, h6, h7, h9, h8⟩ := hI
      rw [ha] at hG
      clear ha a1
      have t : dn D 5 = true := hd ⟨5, .data⟩ (by simp) (by decide)
      have e2 := h5.out t
      subst e2
      clear t
      refine hG ?_
      clear hG hd
      try simp only [Act.put, List.setIfInBounds_toArray, List.set_cons_zero, List.set_cons_succ]
      go_simp
      refine hK.out _ _ hS ⟨HW.out, v20, v22, .tuple #[.agg (case9 cs), .bool true], v23, .bool true, v7, rfl, dn_keep (by decide) h2.out id, dn_keep (by decide) h4.out id, dn_keep (by decide) h5.out id, dn_keep (by decide) h6.out id, fun _ => rfl, fun h => by rw [dn_ne (by decide)] at h ⊢; exact h9.out h, fun h => by rw [dn_ne (by decide)] at h; rw [dn_ne (by decide)]; obtain ⟨x, ex, hx, kx⟩ := h8.out h; exact ⟨x, ex, hx, kx⟩⟩
    · obtain ⟨HW, v20, v22, v17, v23, v24, v7, ha, h2, h4, h5, h6, h7, h9, h8⟩ := hI
      rw [ha] at hG
      clear ha a1
      have u8 := dn_un hu
      have U9 : Hid (dn D 9 = false) := by show _ = _; cases e : dn D 9; rfl; have := h9.out e; rw [u8] at this; cases this
      clear u8
      refine hG ?_
      clear hG hd
      try simp only [Act.put, List.setIfInBounds_toArray, List.set_cons_zero, List.set_cons_succ]
      go_simp
      have hlt := HW.out.2.2.lt
      have hB2 : Below w.heap.size w (w'.alloc (.cells (case9 zeros) tC)) := HW.out.1.alloc HW.out.1.size _
      refine hK.out _ _ ⟨(HW.out.2.1.alloc _).cell, (HW.out.2.2.alloc _).cell⟩ ⟨⟨hB2, HW.out.2.1.alloc _, HW.out.2.2.alloc _⟩, v20, v22, v17, v23, v24, .pointer (some ⟨w'.heap.size, 0, none⟩), rfl, dn_keep (by decide) h2.out id, dn_keep (by decide) h4.out id, dn_keep (by decide) h5.out id, dn_keep (by decide) h6.out id, dn_keep (by decide) h7.out id, fun _ => dn_self hu, fun _ => ⟨_, rfl, hlt, by rw [dn_ne (by decide), if_neg (by rw [U9.out]; decide)]; exact Blk.new _ _ _⟩⟩
    · obtain ⟨HW, v20, v22, v17, v23, v24, v7, ha, h2, h4, h5, h6, h7, h9, h8⟩ := hI
      rw [ha] at hG
      clear ha a1
      have t : dn D 6 = true := hd ⟨6, .data⟩ (by simp) (by decide)
      have e2 := h6.out t
      subst e2
      clear t
      have t8 : dn D 8 = true := hd ⟨8, .data⟩ (by simp) (by decide)
      have T8 := Lib.hid t8
      obtain ⟨x, rfl, hx, kx0⟩ := h8.out t8
      have u9 := dn_un hu
      have kx : Blk w' x tC (case9 zeros) := by rw [u9, if_neg (by decide)] at kx0; exact kx0
      clear kx0 t8 u9
      have kR' := Blk.nine (v0 := .int .i64 (cl cs 0)) (v1 := .int .i64 (cl cs 1)) (v2 := .int .i64 (cl cs 2)) (v3 := .int .i64 (cl cs 3)) (v4 := .int .i64 (cl cs 4)) (v5 := .int .i64 (cl cs 5)) (v6 := .int .i64 (cl cs 6)) (v7 := .int .i64 (cl cs 7)) (v8 := .int .i64 (cl cs 8)) kx
      have kR : Blk (set9 w' x (.int .i64 (cl cs 0)) (.int .i64 (cl cs 1)) (.int .i64 (cl cs 2)) (.int .i64 (cl cs 3)) (.int .i64 (cl cs 4)) (.int .i64 (cl cs 5)) (.int .i64 (cl cs 6)) (.int .i64 (cl cs 7)) (.int .i64 (cl cs 8))) x tC (case9 cs) := kR'
      obtain ⟨z0, z1, z2, z3, z4, z5, z6, z7, z8⟩ := case9_cells kx
      have rx := kx.frozen
      have lx := kx.lt
      refine hG ?_
      clear hG hd
      try simp only [Act.put, List.setIfInBounds_toArray, List.set_cons_zero, List.set_cons_succ]
      go_simp
      refine hK.out _ _ ⟨(HW.out.2.1.nineFar (by omega)).cell, (HW.out.2.2.nineFar (by omega)).cell⟩ ⟨⟨below9 HW.out.1 (by omega), HW.out.2.1.nineFar (by omega), HW.out.2.2.nineFar (by omega)⟩, v20, v22, v17, .agg (case9 cs), v24, .pointer (some ⟨x, 0, none⟩), rfl, dn_keep (by decide) h2.out id, dn_keep (by decide) h4.out id, dn_keep (by decide) h5.out id, dn_keep (by decide) h6.out id, dn_keep (by decide) h7.out id, fun _ => by rw [dn_ne (by decide)]; exact T8.out, fun _ => ⟨x, rfl, hx, by rw [dn_self hu, if_pos rfl]; exact kR⟩⟩
  case fin =>
    rintro a1 V hHeld ⟨HW, v20, v22, v17, v23, v24, v7, rfl, h2, h4, h5, h6, h7, -, h8⟩
    obtain rfl := h2.out (by decide)
    obtain rfl := h4.out (by decide)
    obtain rfl := h5.out (by decide)
    obtain rfl := h6.out (by decide)
    obtain rfl := h7.out (by decide)
    obtain ⟨x, rfl, hx, kx⟩ := h8.out (by decide)
    have kR' : Blk V x tC (case9 cs) := by rw [if_pos (by decide)] at kx; exact kx
    have hBR := HW.out.1
    have k05 := HW.out.2.1
    have k15 := HW.out.2.2
    clear h2 h4 h5 h6 h7 h8 HW k0 k1 qk0 rk0 lk0 qk1 rk1 lk1 kx
    try simp only [Act.put, List.setIfInBounds_toArray, List.set_cons_zero, List.set_cons_succ]
    refine wpAnyH_take (i := 10) (v := ?_) rfl (by kernel_rfl) (by kernel_rfl) (by kernel_rfl) (fun _ _ _ h => h) (Or.inl ⟨by rfl, fun w hSw => ?_⟩) hHeld ?_
    rotate_left
    · ((try dsimp only at hSw); go_split_ands; go_simp; (try with_reducible rfl))
    try simp only [Act.put, List.getElem_toArray, List.getElem_cons_zero, List.getElem_cons_succ, List.setIfInBounds_toArray, List.set_cons_zero, List.set_cons_succ]
    refine wpAnyH_done (by kernel_rfl) ?_ _
    refine NoPanic.normal ?_
    obtain ⟨p0, p1, p2, p3, p4, p5, p6, p7, p8⟩ := case9_cells kR'
    clear hHeld
    (replace qk05 := k05.cell; replace rk05 := k05.frozen; replace lk05 := k05.lt; replace qk15 := k15.cell; replace rk15 := k15.frozen; replace lk15 := k15.lt)
    go_wp2_with fail
    refine (c_impl_matchCase _ _ a b cs _ (hV.out.below hBR) (hV'.out.below hBR) HA.out HBV.out H9.out).mono ?_
    rintro e w6 ⟨r6, rfl, hB6⟩
    have hB7 := bgo hBR hB6
    go_wp2_with fail
    go_ret
    exact ⟨rfl, hB7⟩
end Go.Proofs.Ytmjgcdolnkdfoaa

/- 'laws.FnFailingCase' returns true for all bytes that can be read. -/
namespace Go.Proofs.Ytmjgcdolnkdfoaa
open Go Go.RowKit Go.Proofs
attribute [local go_sem ↓] Go.wp_at_zero Go.wp_at_succ

--@ laws.FnFailingCase
theorem c_slIntsF {lo hi lo' hi' : Nat} (A A' : Option Addr) (c c' : Nat) (fs : List Int) (w : World) (h : IntsV w lo hi A fs) (h' : IntsV w lo' hi' A' fs) : Calls Try.prog 18 #[.slice A fs.length c, .slice A' fs.length c'] w fun e w' => e = .returned (.bool true) ∧ Below w.heap.size w w' := by
  have := c_slInts A A' c c' fs fs w h h'
  rwa [decide_eq_true (Eq.refl fs)] at this
set_option maxRecDepth 100000 in
set_option maxHeartbeats 6400000 in
theorem c_FnFailingCase (v : Value) (A : Option Addr × Nat × Nat) (w : World) (h : v = .slice A.1 A.2.1 A.2.2 ∧ BytesR w A.1 A.2.1 A.2.2) : Calls Try.prog 3 #[v] w fun e w' => e = .returned (.bool true) ∧ Below w.heap.size w w' := by
  obtain ⟨A, n, c⟩ := A
  obtain ⟨rfl, hR⟩ := h
  simp only at hR ⊢
  have HR := Lib.hid hR
  clear hR
  by_cases hn : 1048576 < n
  · have hni : (1048576 : Int) < (n : Int) := by omega
    clear hn
    go_enter Try.func3, Try.ntmps3
    go_wp2_with fail
    go_ret
    exact ⟨rfl, (by repeat (first | (with_reducible exact Below.refl _ _) | (with_reducible assumption) | (with_reducible apply bbox) | ((with_reducible apply Below.setCell); (case hp => (first | exact Nat.le_refl _ | (simp; done) | (simp; omega) | (simp only; omega) | omega))) | (with_reducible apply Below.drew) | (with_reducible apply below_drewN)))⟩
  have hni : ¬ (1048576 : Int) < (n : Int) := by omega
  clear hn
  go_enter Try.func3, Try.ntmps3
  go_wp2_with fail
  refine (c_DrawFailingCase A n c _ HR.out).mono ?_
  rintro e w1 ⟨r1, r2, a, b, rfl, oa, ob, hB1⟩
  have HB1 := Lib.hid hB1
  have hav : AsnV w1 0 w1.heap.size r1 a := (AsnO.reads oa).mono (Nat.zero_le _) (Nat.le_refl _)
  have hbv : AsnV w1 0 w1.heap.size r2 b := (AsnO.reads ob).mono (Nat.zero_le _) (Nat.le_refl _)
  obtain ⟨F, f, G, g, rfl, -, -⟩ := id hav
  obtain ⟨F2, f2, G2, g2, rfl, -, -⟩ := id hbv
  have HA := Lib.hid hav
  have HBV := Lib.hid hbv
  clear hB1 oa ob hav hbv hni HR
  obtain ⟨ka, kb⟩ := blk2 w1 tAs tAs #[.slice F a.facts.length f, .slice G a.atoms.length g] #[.slice F2 b.facts.length f2, .slice G2 b.atoms.length g2]
  have hBx : Below w1.heap.size w1 ((w1.alloc (.cells #[.slice F a.facts.length f, .slice G a.atoms.length g] tAs)).alloc (.cells #[.slice F2 b.facts.length f2, .slice G2 b.atoms.length g2] tAs)) := bbox (bbox (Below.refl _ _) _) _
  have lka := ka.lt
  have lkb := kb.lt
  have HAT : Hid (∀ W, Below w1.heap.size w1 W → AsnV W 0 W.heap.size (.agg #[.slice F a.facts.length f, .slice G a.atoms.length g]) a) := fun W hW => (HA.out.below hW).mono (Nat.le_refl _) hW.size
  have HBT : Hid (∀ W, Below w1.heap.size w1 W → AsnV W 0 W.heap.size (.agg #[.slice F2 b.facts.length f2, .slice G2 b.atoms.length g2]) b) := fun W hW => (HBV.out.below hW).mono (Nat.le_refl _) hW.size
  go_wp2_with fail
  generalize ((w1.alloc (.cells #[.slice F a.facts.length f, .slice G a.atoms.length g] tAs)).alloc (.cells #[.slice F2 b.facts.length f2, .slice G2 b.atoms.length g2] tAs)) = W2 at ka kb hBx lka lkb ⊢
  have HB2 := Lib.hid hBx
  clear hBx
  obtain ⟨q, hq⟩ : ∃ q, q = failB a b := ⟨_, rfl⟩
  obtain ⟨L, hL⟩ : ∃ L, L = failL a b := ⟨_, rfl⟩
  have HQ := Lib.hid hq
  have HLE := Lib.hid hL
  have hfi := c_impl_FailingCase _ _ a b _ (HAT.out _ HB2.out) (HBT.out _ HB2.out) (Nat.le_refl _) (Nat.le_refl _)
  rw [← hq, ← hL] at hfi
  have HFI := Lib.hid hfi
  clear hfi hq hL
  refine HFI.out.mono ?_
  rintro e w3 ⟨r3, rfl, o3, hB3⟩
  obtain ⟨A3, c3, rfl, f3⟩ := o3.reads
  have HL3 := Lib.hid f3
  have HB3 := Lib.hid (bgo HB2.out hB3)
  replace ka := ka.next hB3
  replace kb := kb.next hB3
  clear hB3 HB2 o3 f3 HFI
  (replace qka := ka.cell; replace rka := ka.frozen; replace lka := ka.lt; replace qkb := kb.cell; replace rkb := kb.frozen; replace lkb := kb.lt)
  go_wp2_with fail
  have hfs := c_spec_FailingCase _ _ a b _ (HAT.out _ HB3.out) (HBT.out _ HB3.out)
  rw [← HQ.out, ← HLE.out] at hfs
  have HFS := Lib.hid hfs
  clear hfs
  refine HFS.out.mono ?_
  rintro e w4 ⟨r4, rfl, o4, hB4⟩
  obtain ⟨A4, c4, rfl, f4⟩ := o4.reads
  have HL4 := Lib.hid f4
  have HL34 := Lib.hid (HL3.out.below hB4)
  have HB4 := Lib.hid (bgo HB3.out hB4)
  replace ka := ka.next hB4
  replace kb := kb.next hB4
  clear hB4 HB3 o4 f4 HFS HL3
  (replace qka := ka.cell; replace rka := ka.frozen; replace lka := ka.lt; replace qkb := kb.cell; replace rkb := kb.frozen; replace lkb := kb.lt)
  have hne : (q != q) = false := by cases q <;> rfl
  have heq : (q == q) = true := by cases q <;> rfl
  go_wp2_with fail
  refine (c_slIntsF A3 A4 c3 c4 L _ HL34.out HL4.out).mono ?_
  rintro e w5 ⟨rfl, hB5⟩
  have HB5 := Lib.hid (bgo HB4.out hB5)
  have HL35 := Lib.hid (HL34.out.below hB5)
  have HL45 := Lib.hid (HL4.out.below hB5)
  replace ka := ka.next hB5
  replace kb := kb.next hB5
  clear hB5 HB4 HL34 HL4
  (replace qka := ka.cell; replace rka := ka.frozen; replace lka := ka.lt; replace qkb := kb.cell; replace rkb := kb.frozen; replace lkb := kb.lt)
  go_wp2_with fail
  refine (c_impl_AssertionValid _ a _ (HAT.out _ HB5.out)).mono ?_
  rintro e w6 ⟨rfl, hB6⟩
  have HB6 := Lib.hid (bgo HB5.out hB6)
  have HL36 := Lib.hid (HL35.out.below hB6)
  have HL46 := Lib.hid (HL45.out.below hB6)
  replace ka := ka.next hB6
  replace kb := kb.next hB6
  clear hB6 HB5 HL35 HL45
  (replace qka := ka.cell; replace rka := ka.frozen; replace lka := ka.lt; replace qkb := kb.cell; replace rkb := kb.frozen; replace lkb := kb.lt)
  cases hva : a.valid
  · clear hva
    go_wp2_with fail
    refine (c_slIntsF A3 A4 c3 c4 L _ HL36.out HL46.out).mono ?_
    rintro e w7 ⟨rfl, hB7⟩
    go_wp2_with fail
    go_ret
    exact ⟨rfl, bgo HB1.out (bgo HB6.out hB7)⟩
  have HVA := Lib.hid hva
  clear hva
  go_wp2_with fail
  refine (c_impl_AssertionValid _ b _ (HBT.out _ HB6.out)).mono ?_
  rintro e w7 ⟨rfl, hB7⟩
  have HB7 := Lib.hid (bgo HB6.out hB7)
  have HL37 := Lib.hid (HL36.out.below hB7)
  have HL47 := Lib.hid (HL46.out.below hB7)
  replace ka := ka.next hB7
  replace kb := kb.next hB7
  clear hB7 HB6 HL36 HL46
  (replace qka := ka.cell; replace rka := ka.frozen; replace lka := ka.lt; replace qkb := kb.cell; replace rkb := kb.frozen; replace lkb := kb.lt)
  cases hvb : b.valid
  · clear hvb
    go_wp2_with fail
    refine (c_slIntsF A3 A4 c3 c4 L _ HL37.out HL47.out).mono ?_
    rintro e w8 ⟨rfl, hB8⟩
    go_wp2_with fail
    go_ret
    exact ⟨rfl, bgo HB1.out (bgo HB7.out hB8)⟩
  have HVB := Lib.hid hvb
  have HENT : Hid (entF a b = !q) := by
    show _ = _
    rw [HQ.out]
    unfold entF failB
    rw [HVA.out, hvb]
    cases (failF a b).isSome <;> rfl
  have HCASE : Hid (q = true → L ∈ cases a (caseS a (tset (termsL b))) ∧ entB a b L = false) := by
    intro hqt
    rw [HQ.out] at hqt
    unfold failB at hqt
    rw [HVA.out, hvb] at hqt
    have hL2 : L = (failF a b).getD [] := by rw [HLE.out]; unfold failL; rw [HVA.out, hvb]; rfl
    cases hf : failF a b with
    | none => rw [hf] at hqt; cases hqt
    | some d =>
      rw [hf] at hL2
      obtain rfl : L = d := hL2
      unfold failF at hf
      exact ⟨List.mem_of_find?_eq_some hf, by have := List.find?_some hf; simpa using this⟩
  clear hvb
  clear HQ HLE
  go_wp2_with fail
  refine (c_impl_Entails _ _ a b _ (HAT.out _ HB7.out) (HBT.out _ HB7.out) (Nat.le_refl _) (Nat.le_refl _)).mono ?_
  rintro e w8 ⟨rfl, hB8⟩
  rw [HENT.out]
  have HB8 := Lib.hid (bgo HB7.out hB8)
  have HL38 := Lib.hid (HL37.out.below hB8)
  replace ka := ka.next hB8
  replace kb := kb.next hB8
  clear hB8 HB7 HL37 HL47 hne heq
  (replace qka := ka.cell; replace rka := ka.frozen; replace lka := ka.lt; replace qkb := kb.cell; replace rkb := kb.frozen; replace lkb := kb.lt)
  cases q
  · clear HCASE
    go_wp2_with fail
    go_ret
    exact ⟨rfl, bgo HB1.out HB8.out⟩
  · have HC := Lib.hid (HCASE.out rfl)
    clear HCASE
    go_wp2_with fail
    refine (c_impl_EntailsCase _ _ a b L A3 c3 _ (HAT.out _ HB8.out) (HBT.out _ HB8.out) HL38.out HVA.out HVB.out HC.out.1).mono ?_
    rintro e w9 ⟨rfl, hB9⟩
    rw [HC.out.2]
    go_wp2_with fail
    go_ret
    exact ⟨rfl, bgo HB1.out (bgo HB8.out hB9)⟩
end Go.Proofs.Ytmjgcdolnkdfoaa
