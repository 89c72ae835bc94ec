/- Running programs: the cells that a program needs. -/
import Derived.Test.YteogcababfenfaaGreatMRunK
import Derived.Test.YteogcababfenfaaGreatUsedS
import Derived.Test.YteogcababfenfaaGreatMSte
set_option linter.unusedSimpArgs false
set_option linter.unusedVariables false
namespace Go.Proofs.YteogcababfenfaaGreat
open Go Go.RowKit Go.Proofs

theorem hd0 {a lo0 b n c g : Nat} (h : lo0 = a + 2) (hg : (Value.slice (some ⟨a + 1, 0, none⟩) n c).ownBlock = some g) : g < lo0 ∨ b ≤ g := by
  have hg2 : a + 1 = g := by simpa [Value.ownBlock] using hg
  omega
def lessF (s : Ste) (a : Int) : Ste := ⟨s.values, s.heap.set (a - 1).toNat (-1)⟩
def needB (s : Ste) (L : Cms) (a : Int) : Bool := decide (codeF (lessF s a) L 200 ≠ 0)
/-- what SafeCells hands back -/
def safeB (s : Ste) (L : Cms) : Bool := decide (codeF s L 200 = 0)
def safeL (s : Ste) (L : Cms) : List Int := if safeB s L then (usedL s.heap 8).filter (needB s L) else []
theorem code0 {s : Ste} {L : Cms} {f : Int} (h : codeF s L f = 0) : s.valid = true := by
  unfold codeF at h
  split at h
  · rename_i h1; exact (runsP_yes h1).1
  · cases h
theorem usedL_alloc {h : List Int} {a : Int} (ha : a ∈ usedL h 8) : allocB h a = true ∧ ∃ n : Nat, a = (n : Int) + 1 ∧ n < 8 := by
  unfold usedL at ha
  obtain ⟨m, hm, rfl⟩ := List.mem_map.1 ha
  obtain ⟨h1, h2⟩ := List.mem_filter.1 hm
  have h3 := List.mem_range'.1 h1
  obtain ⟨i, hi, rfl⟩ := h3
  exact ⟨h2, i, by omega, by omega⟩
theorem filter_take_succ {p : Int → Bool} {l : List Int} {k : Nat} (h : k < l.length) : (l.take (k + 1)).filter p = (l.take k).filter p ++ if p l[k] then [l[k]] else [] := by
  rw [List.take_add_one, List.getElem?_eq_getElem h, Option.toList, List.filter_append, List.filter_cons, List.filter_nil]
theorem filter_take_len {p : Int → Bool} {l : List Int} {k : Nat} : ((l.take k).filter p).length ≤ k := by
  have h1 := List.length_filter_le p (l.take k)
  have h2 := List.length_take (i := k) (l := l)
  omega
--@ impl.FreeCell
set_option maxRecDepth 100000 in
set_option maxHeartbeats 1600000 in
theorem c_impl_FreeOk {lo hi : Nat} (v : Value) (s : Ste) (n : Nat) (w : World) (h : StateV w lo hi v s) (hs : s.valid = true) (hn : n < 8) (ha : allocB s.heap ((n : Int) + 1) = true) :
    Calls Tryz.prog 11 #[v, .int .i64 ((n : Int) + 1)] w fun e w' => ∃ r, e = .returned (.tuple #[r, .bool true]) ∧ StateO w' w.heap.size r ⟨s.values, s.heap.set n (-1)⟩ ∧ Below w.heap.size w w' := by
  have hV := Lib.hid h
  obtain ⟨A1, c1, A2, c2, rfl, -, -⟩ := h
  have H8 := Lib.hid (Ste.valid_len hs)
  have HS := Lib.hid hs
  have HA := Lib.hid ha
  clear hs ha
  go_enter Tryz.func11, Tryz.ntmps11
  obtain ⟨k0, k1⟩ := blk2 w tSt tSt #[.slice A1 s.values.length c1, .slice A2 s.heap.length c2] #[.slice none 0 0, .slice none 0 0]
  go_wp2_with fail
  refine (c_impl_StateValid _ s _ (hV.out.below bel)).mono ?_
  rintro e w1 ⟨rfl, hB1⟩
  rw [HS.out]
  have hB := bgo (w := w) bel hB1
  (replace k0 := k0.next hB1; replace qk0 := k0.cell; replace rk0 := k0.frozen; replace lk0 := k0.lt; replace k1 := k1.next hB1; replace qk1 := k1.cell; replace rk1 := k1.frozen; replace lk1 := k1.lt)
  clear hB1
  go_wp2_with fail
  refine (c_impl_allocated _ s _ _ (hV.out.below hB) H8.out.2).mono ?_
  rintro e w2 ⟨rfl, hB2⟩
  rw [HA.out]
  (replace hB := bgo hB hB2; replace k0 := k0.next hB2; replace qk0 := k0.cell; replace rk0 := k0.frozen; replace lk0 := k0.lt; replace k1 := k1.next hB2; replace qk1 := k1.cell; replace rk1 := k1.frozen; replace lk1 := k1.lt)
  clear hB2
  go_wp2_with fail
  refine (c_impl_copyState _ s _ (hV.out.below hB)).mono ?_
  rintro e w4 ⟨r, rfl, o, hB4⟩
  have hz := hB.size
  (replace hB := bgo hB hB4; replace k0 := k0.next hB4; replace qk0 := k0.cell; replace rk0 := k0.frozen; replace lk0 := k0.lt; replace k1 := k1.next hB4; replace qk1 := k1.cell; replace rk1 := k1.frozen; replace lk1 := k1.lt)
  clear hB4
  obtain ⟨fv, av, rfl, o1, o2, dj⟩ := o
  obtain ⟨F, e1, rfl, -⟩ := o1.reads
  obtain ⟨G, e2, rfl, -⟩ := o2.reads
  have hnl : (n : Int) < (s.heap.length : Int) := by have := H8.out.2; omega
  have hn8 : (n : Int) < 8 := by omega
  obtain ⟨g, cur, -, rfl, hg, kg, hc, hset⟩ := (o2.lower (base' := w.heap.size) hz).cell_ (k := n) (by omega)
  have q := kg.cell n
  rw [hc] at q
  obtain ⟨y, hy⟩ : ∃ y, y = s.heap[n]'(by omega) := ⟨_, rfl⟩
  rw [← hy] at q
  have f := kg.frozen n
  have hgl := kg.lt
  have HSET := Lib.hid (hset (-1))
  have O1 := Lib.hid (o1.lower (base' := w.heap.size) hz)
  have HD := Lib.hid dj
  have hne : w.heap.size + 1 ≠ g := k1.ne_ kg (by decide)
  have hBW := hB
  clear hset o1 o2 dj hc hy
  go_wp2_with fail
  have k6 := k1.far (p := ⟨g, n, none⟩) hne (.int .i64 (-1))
  refine bodyPost_ret (v := .tuple #[.agg #[.slice F s.values.length e1, .slice (some ⟨g, 0, none⟩) s.heap.length e2], .bool true]) (by simp [results, Tryz.results11, go_sem, qk1, lk1]) rfl ⟨_, rfl, ⟨_, _, rfl, ?_, ?_, HD.out⟩, ?_⟩
  · exact (((O1.out.set_ne (q := ⟨g, n, none⟩) (fun e => HD.out g e rfl) (.int .i64 (-1))).setT k6 (by decide) 0 _).setT (k6.set_ 0 _) (by decide) 1 _).below (bbox (Below.refl _ _) _)
  · exact ((HSET.out.setT k6 (by decide) 0 _).setT (k6.set_ 0 _) (by decide) 1 _).below (bbox (Below.refl _ _) _)
  · exact bbox (((hB.setCell (p := ⟨g, n, none⟩) hg _).setCell (p := ⟨w.heap.size + 1, 0, none⟩) (by simp only; omega) _).setCell (p := ⟨w.heap.size + 1, 1, none⟩) (by simp only; omega) _) _
--@ spec.FreeCell
set_option maxRecDepth 100000 in
set_option maxHeartbeats 1600000 in
theorem c_spec_FreeOk {lo hi : Nat} (v : Value) (s : Ste) (n : Nat) (w : World) (h : StateV w lo hi v s) (hs : s.valid = true) (hn : n < 8) (ha : allocB s.heap ((n : Int) + 1) = true) :
    Calls Tryz.prog 31 #[v, .int .i64 ((n : Int) + 1)] w fun e w' => ∃ r, e = .returned (.tuple #[r, .bool true]) ∧ StateO w' w.heap.size r ⟨s.values, s.heap.set n (-1)⟩ ∧ Below w.heap.size w w' := by
  have hV := Lib.hid h
  obtain ⟨A1, c1, A2, c2, rfl, -, -⟩ := h
  have H8 := Lib.hid (Ste.valid_len hs)
  have HS := Lib.hid hs
  have HA := Lib.hid ha
  clear hs ha
  go_enter Tryz.func31, Tryz.ntmps31
  obtain ⟨k0, k1⟩ := blk2 w tSt tSt #[.slice A1 s.values.length c1, .slice A2 s.heap.length c2] #[.slice none 0 0, .slice none 0 0]
  go_wp2_with fail
  refine (c_spec_StateValid _ s _ (hV.out.below bel)).mono ?_
  rintro e w1 ⟨rfl, hB1⟩
  rw [HS.out]
  have hB := bgo (w := w) bel hB1
  (replace k0 := k0.next hB1; replace qk0 := k0.cell; replace rk0 := k0.frozen; replace lk0 := k0.lt; replace k1 := k1.next hB1; replace qk1 := k1.cell; replace rk1 := k1.frozen; replace lk1 := k1.lt)
  clear hB1
  go_wp2_with fail
  refine (c_spec_l2Has _ s _ _ (hV.out.below hB) H8.out.2).mono ?_
  rintro e w2 ⟨rfl, hB2⟩
  rw [HA.out]
  (replace hB := bgo hB hB2; replace k0 := k0.next hB2; replace qk0 := k0.cell; replace rk0 := k0.frozen; replace lk0 := k0.lt; replace k1 := k1.next hB2; replace qk1 := k1.cell; replace rk1 := k1.frozen; replace lk1 := k1.lt)
  clear hB2
  go_wp2_with fail
  refine (c_l2Copy _ s _ (hV.out.below hB)).mono ?_
  rintro e w4 ⟨r, rfl, o, hB4⟩
  have hz := hB.size
  (replace hB := bgo hB hB4; replace k0 := k0.next hB4; replace qk0 := k0.cell; replace rk0 := k0.frozen; replace lk0 := k0.lt; replace k1 := k1.next hB4; replace qk1 := k1.cell; replace rk1 := k1.frozen; replace lk1 := k1.lt)
  clear hB4
  obtain ⟨fv, av, rfl, o1, o2, dj⟩ := o
  obtain ⟨F, e1, rfl, -⟩ := o1.reads
  obtain ⟨G, e2, rfl, -⟩ := o2.reads
  have hnl : (n : Int) < (s.heap.length : Int) := by have := H8.out.2; omega
  have hn8 : (n : Int) < 8 := by omega
  obtain ⟨g, cur, -, rfl, hg, kg, hc, hset⟩ := (o2.lower (base' := w.heap.size) hz).cell_ (k := n) (by omega)
  have q := kg.cell n
  rw [hc] at q
  obtain ⟨y, hy⟩ : ∃ y, y = s.heap[n]'(by omega) := ⟨_, rfl⟩
  rw [← hy] at q
  have f := kg.frozen n
  have hgl := kg.lt
  have HSET := Lib.hid (hset (-1))
  have O1 := Lib.hid (o1.lower (base' := w.heap.size) hz)
  have HD := Lib.hid dj
  have hne : w.heap.size + 1 ≠ g := k1.ne_ kg (by decide)
  have hBW := hB
  clear hset o1 o2 dj hc hy
  go_wp2_with fail
  have k6 := k1.far (p := ⟨g, n, none⟩) hne (.int .i64 (-1))
  refine bodyPost_ret (v := .tuple #[.agg #[.slice F s.values.length e1, .slice (some ⟨g, 0, none⟩) s.heap.length e2], .bool true]) (by simp [results, Tryz.results31, go_sem, qk1, lk1]) rfl ⟨_, rfl, ⟨_, _, rfl, ?_, ?_, HD.out⟩, ?_⟩
  · exact (((O1.out.set_ne (q := ⟨g, n, none⟩) (fun e => HD.out g e rfl) (.int .i64 (-1))).setT k6 (by decide) 0 _).setT (k6.set_ 0 _) (by decide) 1 _).below (bbox (Below.refl _ _) _)
  · exact ((HSET.out.setT k6 (by decide) 0 _).setT (k6.set_ 0 _) (by decide) 1 _).below (bbox (Below.refl _ _) _)
  · exact bbox (((hB.setCell (p := ⟨g, n, none⟩) hg _).setCell (p := ⟨w.heap.size + 1, 0, none⟩) (by simp only; omega) _).setCell (p := ⟨w.heap.size + 1, 1, none⟩) (by simp only; omega) _) _
--@ impl.SafeCells
set_option maxRecDepth 100000 in
set_option maxHeartbeats 3200000 in
theorem c_impl_SafeCells {lo hi lo' hi' : Nat} (v : Value) (s : Ste) (A : Option Addr) (c : Nat) (L : Cms) (w : World) (h : StateV w lo hi v s) (hV : CmsV w lo' hi' A L) (hhi : hi' ≤ w.heap.size) (hlen : L.len ≤ 1049600) (hsm : L.small 1049600) (hz : L.sz ≤ 1049600) :
    Calls Tryz.prog 7 #[v, .slice A L.len c] w fun e w' => ∃ r, e = .returned (.tuple #[r, .bool (safeB s L)]) ∧ IntsO w' w.heap.size r (safeL s L) ∧ Below w.heap.size w w' := by
  have hS := Lib.hid h
  obtain ⟨A1, c1, A2, c2, rfl, -, -⟩ := h
  have hP := Lib.hid hV
  clear hV
  replace hsm := Lib.hid hsm
  obtain ⟨cd, hcd⟩ : ∃ x, x = codeF s L 200 := ⟨_, rfl⟩
  go_enter Tryz.func7, Tryz.ntmps7
  have k00 : Blk (w.alloc (.cells #[.slice A1 s.values.length c1, .slice A2 s.heap.length c2] tSt)) w.heap.size tSt #[.slice A1 s.values.length c1, .slice A2 s.heap.length c2] := blks
  go_wp2_with fail
  refine (c_impl_RunProgram _ s A c L 200 _ (hS.out.below bel) (hP.out.below bel) (by first | omega | (simp; omega)) hlen hsm.out).mono ?_
  rintro e w1 ⟨r1, rfl, oR, hB1⟩
  rw [← hcd]
  have hB := bgo (w := w) bel hB1
  have k0 := k00.next hB1
  have hzz := hB1.size
  simp only [World.size_alloc] at hzz
  (replace qk0 := k0.cell; replace rk0 := k0.frozen; replace lk0 := k0.lt)
  obtain ⟨fv, hv, rfl, o1, o2, -⟩ := oR
  obtain ⟨F1, d1, rfl, -⟩ := o1.reads
  obtain ⟨G1, d2, rfl, -⟩ := o2.reads
  clear hB1 k00 o1 o2
  by_cases hc : cd = 0
  case neg =>
    have E : Hid (safeB s L = false) := by show _ = _; unfold safeB; rw [← hcd]; simp [hc]
    have E2 : Hid (safeL s L = []) := by show _ = _; unfold safeL; rw [E.out]; rfl
    have hcb : (cd != 0) = true := by simpa using hc
    clear hcd hc
    go_wp2_with fail
    go_ret2
    refine ⟨_, by rw [E.out]; rfl, ?_, bel⟩
    rw [E2.out]
    exact IntsO.nil _ _
  subst hc
  have E : Hid (safeB s L = true) := by show _ = _; unfold safeB; rw [← hcd]; rfl
  have hs := code0 hcd.symm
  obtain ⟨U, hU⟩ : ∃ x, x = usedL s.heap 8 := ⟨_, rfl⟩
  have hUl : U.length ≤ 8 := by rw [hU]; exact usedL_le _ _
  have E2 : Hid (safeL s L = U.filter (needB s L)) := by show _ = _; unfold safeL; rw [E.out, hU]; rfl
  have hal : ∀ a ∈ U, allocB s.heap a = true ∧ ∃ n : Nat, a = (n : Int) + 1 ∧ n < 8 := fun a ha => usedL_alloc (by rw [← hU]; exact ha)
  have hUF : usedF s = U := by unfold usedF; rw [if_pos hs, hU]
  replace hU := Lib.hid hU
  replace hUF := Lib.hid hUF
  replace hal := Lib.hid hal
  replace hs := Lib.hid hs
  clear hcd
  go_wp2_with fail
  refine (c_impl_UsedCells _ s _ (hS.out.below bel)).mono ?_
  rintro e w2 ⟨r2, rfl, oU, hB2⟩
  rw [hUF.out] at oU
  have hB3 : Below w.heap.size w w2 := bgo (w := w) bel hB2
  have k2 : Blk w2 w.heap.size tSt #[.slice A1 s.values.length c1, .slice A2 s.heap.length c2] := Blk.next blks hB2
  obtain ⟨AU, cU, rfl, fU⟩ := oU.reads
  obtain ⟨lo0, hlo⟩ : ∃ x, x = w1.heap.size + 1 := ⟨_, rfl⟩
  replace fU : Hid (IntsV w2 lo0 w2.heap.size AU U) := fU.mono (by simp; omega) (Nat.le_refl _)
  clear hB hB2 k0 qk0 rk0 lk0 oU
  go_wp2_with fail
  go_loopw [8, 26] (fun y x wr => ∃ (k : Nat) (B : Option Addr) (cB : Nat), k ≤ U.length ∧ x = .int .i64 (k : Int) ∧ y = .slice B ((U.take k).filter (needB s L)).length cB ∧ Hid (IntsO wr w.heap.size (.slice B ((U.take k).filter (needB s L)).length cB) ((U.take k).filter (needB s L))) ∧ Blk wr w.heap.size tSt #[.slice A1 s.values.length c1, .slice A2 s.heap.length c2] ∧ Hid (Below w.heap.size w wr) ∧ w2.heap.size ≤ wr.heap.size ∧ Hid (IntsV wr lo0 w2.heap.size AU U) ∧ Hid (∀ g, (Value.slice B ((U.take k).filter (needB s L)).length cB).ownBlock = some g → g < lo0 ∨ w2.heap.size ≤ g)) (fun _ x _ => U.length - (intOf x).toNat)
  case atStart => exact ⟨0, none, 0, Nat.zero_le _, rfl, rfl, Lib.hid (IntsO.nil _ _), k2, Lib.hid hB3, Nat.le_refl _, fU, Lib.hid (fun g hg => by cases hg)⟩
  case round =>
    clear k2 hB3
    clear fU
    obtain ⟨k, B, cB, hk, rfl, rfl, hO, k0, hB, hws, fU, HD⟩ := hrel
    have hsz := hB.out.size
    have HL := Lib.hid (filter_take_len (p := needB s L) (l := U) (k := k))
    by_cases hlt : k < U.length
    · have hmem := hal.out U[k] (List.getElem_mem hlt)
      obtain ⟨ha, n, en, hn8⟩ := hmem
      obtain ⟨bu, ou, rfl, pu⟩ := fU.out.at hlt
      rw [en] at pu ha
      have HF := Lib.hid (filter_take_succ (p := needB s L) hlt)
      rw [en] at HF
      have hlf : lessF s ((n : Int) + 1) = ⟨s.values, s.heap.set n (-1)⟩ := by unfold lessF; rw [show ((n : Int) + 1 - 1).toNat = n by omega]
      obtain ⟨c3, hc3⟩ : ∃ x, x = codeF ⟨s.values, s.heap.set n (-1)⟩ L 200 := ⟨_, rfl⟩
      have hnd : needB s L ((n : Int) + 1) = decide (c3 ≠ 0) := by unfold needB; rw [hlf, hc3]
      replace hc3 := Lib.hid hc3
      replace hnd := Lib.hid hnd
      replace ha := Lib.hid ha
      clear en hlf
      (replace qk0 := k0.cell; replace rk0 := k0.frozen; replace lk0 := k0.lt)
      go_wp2_with fail
      refine (c_impl_FreeOk _ s n _ (hS.out.below hB.out) hs.out hn8 ha.out).mono ?_
      rintro e w3 ⟨r3, rfl, o3, hB3⟩
      replace hB := bgo hB.out hB3
      replace fU := Lib.hid (fU.out.below hB3)
      have hsz3w := hB3.size
      have hsz3 := hB.size
      have hO3 := Lib.hid (hO.out.below hB3)
      replace k0 := k0.next hB3
      (replace qk0 := k0.cell; replace rk0 := k0.frozen; replace lk0 := k0.lt)
      obtain ⟨fv, hv, rfl, o1, o2, dj⟩ := o3
      obtain ⟨F3, d1, rfl, -⟩ := o1.reads
      obtain ⟨G3, d2, rfl, -⟩ := o2.reads
      have hSR : Hid (StateV w3 wr.heap.size w3.heap.size (.agg #[.slice F3 s.values.length d1, .slice G3 (s.heap.set n (-1)).length d2]) ⟨s.values, s.heap.set n (-1)⟩) := ⟨_, _, _, _, rfl, o1.readsI.2, o2.readsI.2⟩
      rw [List.length_set] at hSR
      clear hB3 o1 o2 dj hO
      go_wp2_with fail
      refine (c_impl_RunProgram (.agg #[.slice F3 s.values.length d1, .slice G3 s.heap.length d2]) ⟨s.values, s.heap.set n (-1)⟩ A c L 200 _ (hSR.out.below bel) (hP.out.below bel) (by first | omega | (simp; omega)) hlen hsm.out).mono ?_
      rintro e w4 ⟨r4, rfl, oR4, hB4⟩
      rw [← hc3.out]
      have hB5 := bgo (w := w) (bbox hB _) hB4
      have fU5 := Lib.hid (IntsV.below fU.out (bgo (w := w3) bel hB4))
      have hws5 := (bgo (w := w3) bel hB4 : Below w3.heap.size w3 w4).size
      have hO5 := Lib.hid (IntsO.below hO3.out (bgo (w := w3) bel hB4))
      have k5 := (k0.alloc _).next hB4
      have hsz5 := hB5.size
      obtain ⟨fv4, hv4, rfl, o1, o2, -⟩ := oR4
      obtain ⟨F4, d4, rfl, -⟩ := o1.reads
      obtain ⟨G4, d5, rfl, -⟩ := o2.reads
      clear hB4 o1 o2 hO3 k0 qk0 rk0 lk0 hB fU hSR
      by_cases hc : c3 = 0
      · subst hc
        have HF2 : Hid ((U.take (k + 1)).filter (needB s L) = (U.take k).filter (needB s L)) := by show _ = _; rw [HF.out, hnd.out]; simp
        go_wp2_with fail
        go_round
        case rel => exact ⟨k + 1, B, cB, by omega, by go_num, by rw [HF2.out], by rw [HF2.out]; exact Lib.hid (hO5.out.below (bbox (Below.refl _ _) _)), k5.alloc _, Lib.hid (bbox hB5 _), by simp; omega, Lib.hid (fU5.out.below (bbox (Below.refl _ _) _)), by rw [HF2.out]; exact HD⟩
        case measure => simp [intOf]; omega
      · have HF2 : Hid ((U.take (k + 1)).filter (needB s L) = (U.take k).filter (needB s L) ++ [(n : Int) + 1]) := by show _ = _; rw [HF.out, hnd.out, if_pos (by simp [hc])]
        have hcb : (c3 != 0) = true := by simpa using hc
        have hB5' := Lib.hid hB5
        clear hB5
        go_wp2_with (at_builtin; refine appIX (ys := [(n : Int) + 1]) (base := w.heap.size) rfl _ _ rfl rfl (hO5.out.below bel) rfl (Blk.newE (by simp)) (by rfl) (by have := HL.out; simp; omega) (by simp; omega) ?_; intro A6 d6 w6 o6 hg6 hB6 h46)
        have k6 := Blk.grownO (hg := hg6) ((k5.alloc _).alloc _) (hO5.out.below (bbox (bbox (Below.refl _ _) _) _)).1 (by decide)
        have fU6 : IntsV w6 lo0 w2.heap.size _ U := (fU5.out.below (bbox (bbox (Below.refl _ _) _) _)).keep fun b h1 h2 => hg6.block b (by simp; omega) (fun e => by have := HD.out b e.symm; omega)
        have HD6 : ∀ g, (Value.slice A6 ((U.take k).filter (needB s L) ++ [(n : Int) + 1]).length d6).ownBlock = some g → g < lo0 ∨ w2.heap.size ≤ g := fun g hg => by
          rcases h46 with e | e
          · exact HD.out g (e.symm.trans hg)
          · rw [e] at hg; injection hg with hg; simp at hg; omega
        have hBB : Below w.heap.size w w6 := Below.trans (bbox (bbox hB5'.out _) _) hB6
        have hws6 := hg6.size
        simp only [World.size_alloc] at hws6
        replace o6 := Lib.hid o6
        replace HD6 := Lib.hid HD6
        clear hg6 hB6 h46
        go_wp2_with fail
        go_round
        case rel => exact ⟨k + 1, A6, d6, by omega, by go_num, by rw [HF2.out]; simp, by rw [HF2.out]; exact o6, k6, Lib.hid hBB, by omega, Lib.hid fU6, by rw [HF2.out]; exact HD6⟩
        case measure => simp [intOf]; omega
    · obtain rfl : k = U.length := by omega
      have hO2 := hO.out
      rw [List.take_length] at hO2
      have e1 : ((U.take U.length).filter (needB s L)).length = (U.filter (needB s L)).length := by rw [List.take_length]
      go_wp2_with fail
      go_ret2
      refine ⟨_, by rw [E.out]; rfl, ?_, hB.out⟩
      rw [E2.out, e1]
      exact hO2
--@ spec.SafeCells
set_option maxRecDepth 100000 in
set_option maxHeartbeats 3200000 in
theorem c_spec_SafeCells {lo hi lo' hi' : Nat} (v : Value) (s : Ste) (A : Option Addr) (c : Nat) (L : Cms) (w : World) (h : StateV w lo hi v s) (hV : CmsV w lo' hi' A L) (hhi : hi' ≤ w.heap.size) (hlen : L.len ≤ 1049600) (hsm : L.small 1049600) (hz : L.sz ≤ 1049600) :
    Calls Tryz.prog 8 #[v, .slice A L.len c] w fun e w' => ∃ r, e = .returned (.tuple #[r, .bool (safeB s L)]) ∧ IntsO w' w.heap.size r (safeL s L) ∧ Below w.heap.size w w' := by
  have hS := Lib.hid h
  obtain ⟨A1, c1, A2, c2, rfl, -, -⟩ := h
  have hP := Lib.hid hV
  clear hV
  replace hsm := Lib.hid hsm
  obtain ⟨cd, hcd⟩ : ∃ x, x = codeF s L 200 := ⟨_, rfl⟩
  go_enter Tryz.func8, Tryz.ntmps8
  have k00 : Blk (w.alloc (.cells #[.slice A1 s.values.length c1, .slice A2 s.heap.length c2] tSt)) w.heap.size tSt #[.slice A1 s.values.length c1, .slice A2 s.heap.length c2] := blks
  go_wp2_with fail
  refine (c_spec_RunProgram _ s A c L 200 _ (hS.out.below bel) (hP.out.below bel) hlen hsm.out hz).mono ?_
  rintro e w1 ⟨r1, rfl, oR, hB1⟩
  rw [← hcd]
  have hB := bgo (w := w) bel hB1
  have k0 := k00.next hB1
  have hzz := hB1.size
  simp only [World.size_alloc] at hzz
  (replace qk0 := k0.cell; replace rk0 := k0.frozen; replace lk0 := k0.lt)
  obtain ⟨fv, hv, rfl, o1, o2, -⟩ := oR
  obtain ⟨F1, d1, rfl, -⟩ := o1.reads
  obtain ⟨G1, d2, rfl, -⟩ := o2.reads
  clear hB1 k00 o1 o2
  by_cases hc : cd = 0
  case neg =>
    have E : Hid (safeB s L = false) := by show _ = _; unfold safeB; rw [← hcd]; simp [hc]
    have E2 : Hid (safeL s L = []) := by show _ = _; unfold safeL; rw [E.out]; rfl
    have hcb : (cd != 0) = true := by simpa using hc
    clear hcd hc
    go_wp2_with fail
    go_ret2
    refine ⟨_, by rw [E.out]; rfl, ?_, bel⟩
    rw [E2.out]
    exact (IntsO.empty _ (by simp)).lower (by omega)
  subst hc
  have E : Hid (safeB s L = true) := by show _ = _; unfold safeB; rw [← hcd]; rfl
  have hs := code0 hcd.symm
  obtain ⟨U, hU⟩ : ∃ x, x = usedL s.heap 8 := ⟨_, rfl⟩
  have hUl : U.length ≤ 8 := by rw [hU]; exact usedL_le _ _
  have E2 : Hid (safeL s L = U.filter (needB s L)) := by show _ = _; unfold safeL; rw [E.out, hU]; rfl
  have hal : ∀ a ∈ U, allocB s.heap a = true ∧ ∃ n : Nat, a = (n : Int) + 1 ∧ n < 8 := fun a ha => usedL_alloc (by rw [← hU]; exact ha)
  have hUF : usedF s = U := by unfold usedF; rw [if_pos hs, hU]
  replace hU := Lib.hid hU
  replace hUF := Lib.hid hUF
  replace hal := Lib.hid hal
  replace hs := Lib.hid hs
  clear hcd
  go_wp2_with fail
  refine (c_spec_UsedCells _ s _ (hS.out.below bel) hs.out).mono ?_
  rintro e w2 ⟨r2, rfl, oU, hB2⟩
  rw [← hU.out] at oU
  have hB3 : Below w.heap.size w w2 := bgo (w := w) bel hB2
  have k2 : Blk w2 w.heap.size tSt #[.slice A1 s.values.length c1, .slice A2 s.heap.length c2] := Blk.next blks hB2
  obtain ⟨AU, cU, rfl, fU⟩ := oU.reads
  obtain ⟨lo0, hlo⟩ : ∃ x, x = w1.heap.size + 2 := ⟨_, rfl⟩
  replace fU : Hid (IntsV w2 lo0 w2.heap.size AU U) := fU.mono (by simp; omega) (Nat.le_refl _)
  have oN : Hid (IntsO w2 w.heap.size (.slice (some ⟨w1.heap.size + 1, 0, none⟩) 0 0) []) := IntsO.below ((IntsO.empty (w1.alloc (.cells #[.slice F1 (afterF s L 200).values.length d1, .slice G1 (afterF s L 200).heap.length d2] tSt)) (g := w1.heap.size + 1) (by simp)).lower (by omega)) hB2
  clear hB hB2 k0 qk0 rk0 lk0 oU
  go_wp2_with fail
  go_loopw [8, 10] (fun y x wr => ∃ (k : Nat) (B : Option Addr) (cB : Nat), k ≤ U.length ∧ x = .int .i64 (k : Int) ∧ y = .slice B ((U.take k).filter (needB s L)).length cB ∧ Hid (IntsO wr w.heap.size (.slice B ((U.take k).filter (needB s L)).length cB) ((U.take k).filter (needB s L))) ∧ Blk wr w.heap.size tSt #[.slice A1 s.values.length c1, .slice A2 s.heap.length c2] ∧ Hid (Below w.heap.size w wr) ∧ w2.heap.size ≤ wr.heap.size ∧ Hid (IntsV wr lo0 w2.heap.size AU U) ∧ Hid (∀ g, (Value.slice B ((U.take k).filter (needB s L)).length cB).ownBlock = some g → g < lo0 ∨ w2.heap.size ≤ g)) (fun _ x _ => U.length - (intOf x).toNat)
  case atStart => exact ⟨0, some ⟨w1.heap.size + 1, 0, none⟩, 0, Nat.zero_le _, rfl, rfl, oN, k2, Lib.hid hB3, Nat.le_refl _, fU, Lib.hid (fun g hg => hd0 hlo hg)⟩
  case round =>
    clear k2 hB3
    clear fU
    obtain ⟨k, B, cB, hk, rfl, rfl, hO, k0, hB, hws, fU, HD⟩ := hrel
    have hsz := hB.out.size
    have HL := Lib.hid (filter_take_len (p := needB s L) (l := U) (k := k))
    by_cases hlt : k < U.length
    · have hmem := hal.out U[k] (List.getElem_mem hlt)
      obtain ⟨ha, n, en, hn8⟩ := hmem
      obtain ⟨bu, ou, rfl, pu⟩ := fU.out.at hlt
      rw [en] at pu ha
      have HF := Lib.hid (filter_take_succ (p := needB s L) hlt)
      rw [en] at HF
      have hlf : lessF s ((n : Int) + 1) = ⟨s.values, s.heap.set n (-1)⟩ := by unfold lessF; rw [show ((n : Int) + 1 - 1).toNat = n by omega]
      obtain ⟨c3, hc3⟩ : ∃ x, x = codeF ⟨s.values, s.heap.set n (-1)⟩ L 200 := ⟨_, rfl⟩
      have hnd : needB s L ((n : Int) + 1) = decide (c3 ≠ 0) := by unfold needB; rw [hlf, hc3]
      replace hc3 := Lib.hid hc3
      replace hnd := Lib.hid hnd
      replace ha := Lib.hid ha
      clear en hlf
      (replace qk0 := k0.cell; replace rk0 := k0.frozen; replace lk0 := k0.lt)
      go_wp2_with fail
      refine wp_region_noPanic ?_
      refine wp_region_held_drew (S := (fun w' => (∀ j, w'.cell? ⟨w.heap.size, j, none⟩ = #[.slice A1 s.values.length c1, .slice A2 s.heap.length c2][j]?) ∧ w'.cell? ⟨bu, ou + k, none⟩ = some (.int .i64 ((n : Int) + 1)))) (by kernel_rfl) (⟨k0.cell, pu⟩) (fun hHeld => ?_)
      refine wpAnyH_take (i := 0) (v := ?_) rfl (by kernel_rfl) (by kernel_rfl) (by kernel_rfl) (fun _ _ _ h => h) (Or.inl ⟨by rfl, fun w hSw => ?_⟩) hHeld ?_
      rotate_left
      · ((try dsimp only at hSw); go_split_ands; go_simp; (try with_reducible rfl))
      try simp only [Act.put, List.getElem_toArray, List.getElem_cons_zero, List.getElem_cons_succ, List.setIfInBounds_toArray, List.set_cons_zero, List.set_cons_succ]
      refine wpAnyH_take (i := 1) (v := ?_) rfl (by kernel_rfl) (by kernel_rfl) (by kernel_rfl) (fun _ _ _ h => h) (Or.inl ⟨by rfl, fun w hSw => ?_⟩) hHeld ?_
      rotate_left
      · ((try dsimp only at hSw); go_split_ands; go_simp; (try with_reducible rfl))
      try simp only [Act.put, List.getElem_toArray, List.getElem_cons_zero, List.getElem_cons_succ, List.setIfInBounds_toArray, List.set_cons_zero, List.set_cons_succ]
      refine wpAnyH_take (i := 2) (v := ?_) rfl (by kernel_rfl) (by kernel_rfl) (by kernel_rfl) (fun _ _ _ h => h) (Or.inl ⟨by rfl, fun w hSw => ?_⟩) hHeld ?_
      rotate_left
      · ((try dsimp only at hSw); go_split_ands; go_simp; (try with_reducible rfl))
      try simp only [Act.put, List.getElem_toArray, List.getElem_cons_zero, List.getElem_cons_succ, List.setIfInBounds_toArray, List.set_cons_zero, List.set_cons_succ]
      refine wpAnyH_take (i := 3) (v := ?_) rfl (by kernel_rfl) (by kernel_rfl) (by kernel_rfl) (fun _ _ _ h => h) (Or.inl ⟨by rfl, fun w hSw => ?_⟩) hHeld ?_
      rotate_left
      · ((try dsimp only at hSw); go_split_ands; go_simp; (try with_reducible rfl))
      try simp only [Act.put, List.getElem_toArray, List.getElem_cons_zero, List.getElem_cons_succ, List.setIfInBounds_toArray, List.set_cons_zero, List.set_cons_succ]
      refine wpAnyH_take (i := 4) (v := ?_) rfl (by kernel_rfl) (by kernel_rfl) (by kernel_rfl) (fun _ _ _ h => h) (Or.inl ⟨by rfl, fun w hSw => ?_⟩) hHeld ?_
      rotate_left
      · ((try dsimp only at hSw); go_split_ands; go_simp; (try with_reducible rfl))
      try simp only [Act.put, List.getElem_toArray, List.getElem_cons_zero, List.getElem_cons_succ, List.setIfInBounds_toArray, List.set_cons_zero, List.set_cons_succ]
      obtain ⟨X, hX⟩ : ∃ X, X = wr.drew := ⟨_, rfl⟩
      have hWX : Below wr.heap.size wr X := by rw [hX]; exact (Below.refl _ _).drew
      rw [← hX] at hHeld ⊢
      have hBX := bgo hB.out hWX
      have kX := k0.next hWX
      have fUX := Lib.hid (fU.out.below hWX)
      have hOX := Lib.hid (hO.out.below hWX)
      have puX := (hWX.cell (p := ⟨bu, ou + k, none⟩) (block_lt_of_cell pu)).trans pu
      have hwsX := hWX.size
      have hszX := hBX.size
      clear hX hWX hB k0 fU hO pu qk0 rk0 lk0
      refine wpAnyH_ready (rs := [5, 9]) (by kernel_rfl) (by simp) ?_
      refine AllReadyH.cons rfl (fun K hK => ?_) (AllReadyH.cons rfl (fun K hK => ?_) AllReadyH.nil)
      · (go_simp; refine (c_spec_FreeOk _ s n _ (hS.out.below hBX) hs.out hn8 ha.out).mono ?_; rintro e w3 ⟨r3, rfl, o3, hB3⟩; obtain ⟨fv, hv, rfl, o1, o2, dj⟩ := o3; obtain ⟨F3, d1, rfl, -⟩ := o1.reads; obtain ⟨G3, d2, rfl, -⟩ := o2.reads; rw [List.length_set] at o2 ⊢)
        have k3 := kX.next hB3
        have pu3 := (hB3.cell (p := ⟨bu, ou + k, none⟩) (block_lt_of_cell puX)).trans puX
        have lu3 : bu < w3.heap.size := block_lt_of_cell pu3
        refine hK.out _ _ (⟨k3.cell, pu3⟩) (fun hHeldN => ?_)
        clear hHeld hK K
        have hHeld := hHeldN
        clear hHeldN
        try simp only [Act.put, List.getElem_toArray, List.getElem_cons_zero, List.getElem_cons_succ, List.setIfInBounds_toArray, List.set_cons_zero, List.set_cons_succ]
        refine wpAnyH_take (i := 6) (v := ?_) rfl (by kernel_rfl) (by kernel_rfl) (by kernel_rfl) (fun _ _ _ h => h) (Or.inl ⟨by rfl, fun w hSw => ?_⟩) hHeld ?_
        rotate_left
        · ((try dsimp only at hSw); go_split_ands; go_simp; (try with_reducible rfl))
        try simp only [Act.put, List.getElem_toArray, List.getElem_cons_zero, List.getElem_cons_succ, List.setIfInBounds_toArray, List.set_cons_zero, List.set_cons_succ]
        refine wpAnyH_take (i := 7) (v := ?_) rfl (by kernel_rfl) (by kernel_rfl) (by kernel_rfl) (fun _ _ _ h => h) (Or.inl ⟨by rfl, fun w hSw => ?_⟩) hHeld ?_
        rotate_left
        · ((try dsimp only at hSw); go_split_ands; go_simp; (try with_reducible rfl))
        try simp only [Act.put, List.getElem_toArray, List.getElem_cons_zero, List.getElem_cons_succ, List.setIfInBounds_toArray, List.set_cons_zero, List.set_cons_succ]
        refine wpAnyH_take (i := 8) (v := ?_) rfl (by kernel_rfl) (by kernel_rfl) (by kernel_rfl) (fun _ _ _ h => h) (Or.inl ⟨by rfl, fun w hSw => ?_⟩) hHeld ?_
        rotate_left
        · ((try dsimp only at hSw); go_split_ands; go_simp; (try with_reducible rfl))
        try simp only [Act.put, List.getElem_toArray, List.getElem_cons_zero, List.getElem_cons_succ, List.setIfInBounds_toArray, List.set_cons_zero, List.set_cons_succ]
        refine wpAnyH_ready (rs := [9]) (by kernel_rfl) (by simp) ?_
        refine AllReadyH.cons rfl (fun K hK => ?_) AllReadyH.nil
        try simp only [List.getElem_toArray, List.getElem_cons_zero, List.getElem_cons_succ]
        (go_simp; have ka := k3.alloc (.cells #[.slice none 0 0, .slice none 0 0] tSt); have pa : (w3.alloc (.cells #[.slice none 0 0, .slice none 0 0] tSt)).cell? ⟨bu, ou + k, none⟩ = some (.int .i64 ((n : Int) + 1)) := (World.cell?_of_block (a := ⟨bu, ou + k, none⟩) (Below.heap_alloc _ _ _ lu3)).trans pu3)
        refine hK.out _ _ (⟨ka.cell, pa⟩) (fun hHeldN => ?_)
        clear hHeld hK K
        have hHeld := hHeldN
        clear hHeldN
        try simp only [Act.put, List.getElem_toArray, List.getElem_cons_zero, List.getElem_cons_succ, List.setIfInBounds_toArray, List.set_cons_zero, List.set_cons_succ]
        refine wpAnyH_ready (rs := [10]) (by kernel_rfl) (by simp) ?_
        refine AllReadyH.cons rfl (fun K hK => ?_) AllReadyH.nil
        try simp only [List.getElem_toArray, List.getElem_cons_zero, List.getElem_cons_succ]
        (go_simp; have kc := k3.alloc (.cells #[.slice F3 s.values.length d1, .slice G3 s.heap.length d2] tSt); have pc : (w3.alloc (.cells #[.slice F3 s.values.length d1, .slice G3 s.heap.length d2] tSt)).cell? ⟨bu, ou + k, none⟩ = some (.int .i64 ((n : Int) + 1)) := (World.cell?_of_block (a := ⟨bu, ou + k, none⟩) (Below.heap_alloc _ _ _ lu3)).trans pu3)
        refine hK.out _ _ (⟨kc.cell, pc⟩) (fun hHeldN => ?_)
        clear hHeld hK K
        have hHeld := hHeldN
        clear hHeldN
        try simp only [Act.put, List.getElem_toArray, List.getElem_cons_zero, List.getElem_cons_succ, List.setIfInBounds_toArray, List.set_cons_zero, List.set_cons_succ]
        refine wpAnyH_take (i := 11) (v := ?_) rfl (by kernel_rfl) (by kernel_rfl) (by kernel_rfl) (fun _ _ _ h => h) (Or.inl ⟨by rfl, fun w hSw => ?_⟩) hHeld ?_
        rotate_left
        · ((try dsimp only at hSw); go_split_ands; go_simp; (try with_reducible rfl))
        try simp only [Act.put, List.getElem_toArray, List.getElem_cons_zero, List.getElem_cons_succ, List.setIfInBounds_toArray, List.set_cons_zero, List.set_cons_succ]
        refine wpAnyH_done (by kernel_rfl) ?_ _
        refine NoPanic.normal ?_
        obtain ⟨V, hVe⟩ : ∃ V, V = (w3.alloc (.cells #[.slice F3 s.values.length d1, .slice G3 s.heap.length d2] tSt)) := ⟨_, rfl⟩
        have hXV : Below X.heap.size X V := by rw [hVe]; exact bbox hB3 _
        have kb : Blk V (w3.heap.size) tSt #[.slice F3 s.values.length d1, .slice G3 s.heap.length d2] := by rw [hVe]; exact Blk.new _ _ _
        have p1 : IntsO V X.heap.size (.slice F3 s.values.length d1) s.values := by rw [hVe]; exact o1.below (bbox (Below.refl _ _) _)
        have p2 : IntsO V X.heap.size (.slice G3 s.heap.length d2) (s.heap.set n (-1)) := by rw [hVe]; exact o2.below (bbox (Below.refl _ _) _)
        have hSR : Hid (StateV V X.heap.size V.heap.size (.agg #[.slice F3 s.values.length d1, .slice G3 (s.heap.set n (-1)).length d2]) ⟨s.values, s.heap.set n (-1)⟩) := ⟨_, _, _, _, rfl, p1.readsI.2, p2.readsI.2⟩
        rw [List.length_set] at hSR
        rw [← hVe]
        have hB := bgo hBX hXV
        have k0 := kX.next hXV
        have fU := Lib.hid (fUX.out.below hXV)
        have hO3 := Lib.hid (hOX.out.below hXV)
        have pu4 := (hXV.cell (p := ⟨bu, ou + k, none⟩) (block_lt_of_cell puX)).trans puX
        have hws4 := hXV.size
        (replace qk0 := k0.cell; replace rk0 := k0.frozen; replace lk0 := k0.lt; replace qkb := kb.cell; replace rkb := kb.frozen; replace lkb := kb.lt)
        clear hVe hXV p1 p2 hHeld hBX kX fUX hOX puX o1 o2
        clear k3 pu3 lu3 ka pa kc pc hB3 dj
        go_wp2_with fail
        refine (c_spec_RunProgram (.agg #[.slice F3 s.values.length d1, .slice G3 s.heap.length d2]) ⟨s.values, s.heap.set n (-1)⟩ A c L 200 _ (hSR.out.below bel) (hP.out.below hB) hlen hsm.out hz).mono ?_
        rintro e w4 ⟨r4, rfl, oR4, hB4⟩
        rw [← hc3.out]
        have hB5 := bgo (w := w) (hB) hB4
        have fU5 := Lib.hid (IntsV.below fU.out (bgo (w := V) bel hB4))
        have hws5 := (bgo (w := V) bel hB4 : Below V.heap.size V w4).size
        have hO5 := Lib.hid (IntsO.below hO3.out (bgo (w := V) bel hB4))
        have k5 := (k0).next hB4
        have hsz5 := hB5.size
        obtain ⟨fv4, hv4, rfl, o1, o2, -⟩ := oR4
        obtain ⟨F4, d4, rfl, -⟩ := o1.reads
        obtain ⟨G4, d5, rfl, -⟩ := o2.reads
        have pu5 := (hB4.cell (p := ⟨bu, ou + k, none⟩) (block_lt_of_cell pu4)).trans pu4
        have lu5 := block_lt_of_cell pu5
        clear kb qkb rkb lkb pu4
        clear hB4 o1 o2 hO3 k0 qk0 rk0 lk0 hB fU hSR
        by_cases hc : c3 = 0
        · subst hc
          have HF2 : Hid ((U.take (k + 1)).filter (needB s L) = (U.take k).filter (needB s L)) := by show _ = _; rw [HF.out, hnd.out]; simp
          go_wp2_with fail
          go_round
          case rel => exact ⟨k + 1, B, cB, by omega, by go_num, by rw [HF2.out], by rw [HF2.out]; exact Lib.hid (hO5.out.below (bbox (Below.refl _ _) _)), k5.alloc _, Lib.hid (bbox hB5 _), by simp; omega, Lib.hid (fU5.out.below (bbox (Below.refl _ _) _)), by rw [HF2.out]; exact HD⟩
          case measure => simp [intOf]; omega
        · have HF2 : Hid ((U.take (k + 1)).filter (needB s L) = (U.take k).filter (needB s L) ++ [(n : Int) + 1]) := by show _ = _; rw [HF.out, hnd.out, if_pos (by simp [hc])]
          have hcb : (c3 != 0) = true := by simpa using hc
          have hB5' := Lib.hid hB5
          clear hB5
          go_wp2_with (at_builtin; refine appIX (ys := [(n : Int) + 1]) (base := w.heap.size) rfl _ _ rfl rfl (hO5.out.below bel) rfl (Blk.newE (by simp)) (by rfl) (by have := HL.out; simp; omega) (by simp; omega) ?_; intro A6 d6 w6 o6 hg6 hB6 h46)
          have k6 := Blk.grownO (hg := hg6) ((k5.alloc _).alloc _) (hO5.out.below (bbox (bbox (Below.refl _ _) _) _)).1 (by decide)
          have fU6 : IntsV w6 lo0 w2.heap.size _ U := (fU5.out.below (bbox (bbox (Below.refl _ _) _) _)).keep fun b h1 h2 => hg6.block b (by simp; omega) (fun e => by have := HD.out b e.symm; omega)
          have HD6 : ∀ g, (Value.slice A6 ((U.take k).filter (needB s L) ++ [(n : Int) + 1]).length d6).ownBlock = some g → g < lo0 ∨ w2.heap.size ≤ g := fun g hg => by
            rcases h46 with e | e
            · exact HD.out g (e.symm.trans hg)
            · rw [e] at hg; injection hg with hg; simp at hg; omega
          have hBB : Below w.heap.size w w6 := Below.trans (bbox (bbox hB5'.out _) _) hB6
          have hws6 := hg6.size
          simp only [World.size_alloc] at hws6
          replace o6 := Lib.hid o6
          replace HD6 := Lib.hid HD6
          clear hg6 hB6 h46
          go_wp2_with fail
          go_round
          case rel => exact ⟨k + 1, A6, d6, by omega, by go_num, by rw [HF2.out]; simp, by rw [HF2.out]; exact o6, k6, Lib.hid hBB, by omega, Lib.hid fU6, by rw [HF2.out]; exact HD6⟩
          case measure => simp [intOf]; omega
      · go_simp
        have ka := kX.alloc (.cells #[.slice none 0 0, .slice none 0 0] tSt)
        have luX : bu < X.heap.size := block_lt_of_cell puX
        have pa : (X.alloc (.cells #[.slice none 0 0, .slice none 0 0] tSt)).cell? ⟨bu, ou + k, none⟩ = some (.int .i64 ((n : Int) + 1)) := (World.cell?_of_block (a := ⟨bu, ou + k, none⟩) (Below.heap_alloc _ _ _ luX)).trans puX
        refine hK.out _ _ (⟨ka.cell, pa⟩) (fun hHeldN => ?_)
        clear hHeld hK K
        have hHeld := hHeldN
        clear hHeldN
        try simp only [Act.put, List.getElem_toArray, List.getElem_cons_zero, List.getElem_cons_succ, List.setIfInBounds_toArray, List.set_cons_zero, List.set_cons_succ]
        refine wpAnyH_ready (rs := [5]) (by kernel_rfl) (by simp) ?_
        refine AllReadyH.cons rfl (fun K hK => ?_) AllReadyH.nil
        try simp only [List.getElem_toArray, List.getElem_cons_zero, List.getElem_cons_succ]
        (go_simp; refine (c_spec_FreeOk _ s n _ (hS.out.below (bbox hBX _)) hs.out hn8 ha.out).mono ?_; rintro e w3 ⟨r3, rfl, o3, hB3⟩; obtain ⟨fv, hv, rfl, o1, o2, dj⟩ := o3; obtain ⟨F3, d1, rfl, -⟩ := o1.reads; obtain ⟨G3, d2, rfl, -⟩ := o2.reads; rw [List.length_set] at o2 ⊢; have k3 := ka.next hB3; have pu3 := (hB3.cell (p := ⟨bu, ou + k, none⟩) (block_lt_of_cell pa)).trans pa; have kz := Blk.next (Blk.new X tSt #[.slice none 0 0, .slice none 0 0]) hB3)
        refine hK.out _ _ (⟨k3.cell, pu3⟩) (fun hHeldN => ?_)
        clear hHeld hK K
        have hHeld := hHeldN
        clear hHeldN
        try simp only [Act.put, List.getElem_toArray, List.getElem_cons_zero, List.getElem_cons_succ, List.setIfInBounds_toArray, List.set_cons_zero, List.set_cons_succ]
        refine wpAnyH_take (i := 6) (v := ?_) rfl (by kernel_rfl) (by kernel_rfl) (by kernel_rfl) (fun _ _ _ h => h) (Or.inl ⟨by rfl, fun w hSw => ?_⟩) hHeld ?_
        rotate_left
        · ((try dsimp only at hSw); go_split_ands; go_simp; (try with_reducible rfl))
        try simp only [Act.put, List.getElem_toArray, List.getElem_cons_zero, List.getElem_cons_succ, List.setIfInBounds_toArray, List.set_cons_zero, List.set_cons_succ]
        refine wpAnyH_take (i := 7) (v := ?_) rfl (by kernel_rfl) (by kernel_rfl) (by kernel_rfl) (fun _ _ _ h => h) (Or.inl ⟨by rfl, fun w hSw => ?_⟩) hHeld ?_
        rotate_left
        · ((try dsimp only at hSw); go_split_ands; go_simp; (try with_reducible rfl))
        try simp only [Act.put, List.getElem_toArray, List.getElem_cons_zero, List.getElem_cons_succ, List.setIfInBounds_toArray, List.set_cons_zero, List.set_cons_succ]
        refine wpAnyH_take (i := 8) (v := ?_) rfl (by kernel_rfl) (by kernel_rfl) (by kernel_rfl) (fun _ _ _ h => h) (Or.inl ⟨by rfl, fun w hSw => ?_⟩) hHeld ?_
        rotate_left
        · ((try dsimp only at hSw); go_split_ands; go_simp; (try with_reducible rfl))
        try simp only [Act.put, List.getElem_toArray, List.getElem_cons_zero, List.getElem_cons_succ, List.setIfInBounds_toArray, List.set_cons_zero, List.set_cons_succ]
        have qz := kz.cell
        have rz := kz.frozen
        have lz := kz.lt
        refine wpAnyH_ready (rs := [10]) (by kernel_rfl) (by simp) ?_
        refine AllReadyH.cons rfl (fun K hK => ?_) AllReadyH.nil
        try simp only [List.getElem_toArray, List.getElem_cons_zero, List.getElem_cons_succ]
        (go_simp; have kwX := kX.lt; have kc := ((k3.far (p := ⟨X.heap.size, 0, none⟩) (by simp only; omega) (.slice F3 s.values.length d1)).far (p := ⟨X.heap.size, 1, none⟩) (by simp only; omega) (.slice G3 s.heap.length d2)); have pc : ((w3.setCell ⟨X.heap.size, 0, none⟩ (.slice F3 s.values.length d1)).setCell ⟨X.heap.size, 1, none⟩ (.slice G3 s.heap.length d2)).cell? ⟨bu, ou + k, none⟩ = some (.int .i64 ((n : Int) + 1)) := (World.cell?_of_block (a := ⟨bu, ou + k, none⟩) ((Below.heap_setCell _ _ _ bu (by simp only; omega)).trans (Below.heap_setCell _ _ _ bu (by simp only; omega)))).trans pu3)
        refine hK.out _ _ (⟨kc.cell, pc⟩) (fun hHeldN => ?_)
        clear hHeld hK K
        have hHeld := hHeldN
        clear hHeldN
        try simp only [Act.put, List.getElem_toArray, List.getElem_cons_zero, List.getElem_cons_succ, List.setIfInBounds_toArray, List.set_cons_zero, List.set_cons_succ]
        refine wpAnyH_take (i := 11) (v := ?_) rfl (by kernel_rfl) (by kernel_rfl) (by kernel_rfl) (fun _ _ _ h => h) (Or.inl ⟨by rfl, fun w hSw => ?_⟩) hHeld ?_
        rotate_left
        · ((try dsimp only at hSw); go_split_ands; go_simp; (try with_reducible rfl))
        try simp only [Act.put, List.getElem_toArray, List.getElem_cons_zero, List.getElem_cons_succ, List.setIfInBounds_toArray, List.set_cons_zero, List.set_cons_succ]
        refine wpAnyH_done (by kernel_rfl) ?_ _
        refine NoPanic.normal ?_
        obtain ⟨V, hVe⟩ : ∃ V, V = ((w3.setCell ⟨X.heap.size, 0, none⟩ (.slice F3 s.values.length d1)).setCell ⟨X.heap.size, 1, none⟩ (.slice G3 s.heap.length d2)) := ⟨_, rfl⟩
        have hXV : Below X.heap.size X V := by rw [hVe]; exact ((bgo (bbox (Below.refl _ _) _) hB3).setCell (p := ⟨X.heap.size, 0, none⟩) (Nat.le_refl _) _).setCell (p := ⟨X.heap.size, 1, none⟩) (Nat.le_refl _) _
        have kb : Blk V (X.heap.size) tSt #[.slice F3 s.values.length d1, .slice G3 s.heap.length d2] := by rw [hVe]; exact ((kz.set_ 0 _).set_ 1 _)
        have p1 : IntsO V X.heap.size (.slice F3 s.values.length d1) s.values := by rw [hVe]; exact ((o1.lower (by simp)).setT kz (by decide) 0 _).setT (kz.set_ 0 _) (by decide) 1 _
        have p2 : IntsO V X.heap.size (.slice G3 s.heap.length d2) (s.heap.set n (-1)) := by rw [hVe]; exact ((o2.lower (by simp)).setT kz (by decide) 0 _).setT (kz.set_ 0 _) (by decide) 1 _
        have hSR : Hid (StateV V X.heap.size V.heap.size (.agg #[.slice F3 s.values.length d1, .slice G3 (s.heap.set n (-1)).length d2]) ⟨s.values, s.heap.set n (-1)⟩) := ⟨_, _, _, _, rfl, p1.readsI.2, p2.readsI.2⟩
        rw [List.length_set] at hSR
        rw [← hVe]
        have hB := bgo hBX hXV
        have k0 := kX.next hXV
        have fU := Lib.hid (fUX.out.below hXV)
        have hO3 := Lib.hid (hOX.out.below hXV)
        have pu4 := (hXV.cell (p := ⟨bu, ou + k, none⟩) (block_lt_of_cell puX)).trans puX
        have hws4 := hXV.size
        (replace qk0 := k0.cell; replace rk0 := k0.frozen; replace lk0 := k0.lt; replace qkb := kb.cell; replace rkb := kb.frozen; replace lkb := kb.lt)
        clear hVe hXV p1 p2 hHeld hBX kX fUX hOX puX o1 o2
        clear k3 pu3 luX ka pa kwX kc pc hB3 dj kz qz rz lz
        go_wp2_with fail
        refine (c_spec_RunProgram (.agg #[.slice F3 s.values.length d1, .slice G3 s.heap.length d2]) ⟨s.values, s.heap.set n (-1)⟩ A c L 200 _ (hSR.out.below bel) (hP.out.below hB) hlen hsm.out hz).mono ?_
        rintro e w4 ⟨r4, rfl, oR4, hB4⟩
        rw [← hc3.out]
        have hB5 := bgo (w := w) (hB) hB4
        have fU5 := Lib.hid (IntsV.below fU.out (bgo (w := V) bel hB4))
        have hws5 := (bgo (w := V) bel hB4 : Below V.heap.size V w4).size
        have hO5 := Lib.hid (IntsO.below hO3.out (bgo (w := V) bel hB4))
        have k5 := (k0).next hB4
        have hsz5 := hB5.size
        obtain ⟨fv4, hv4, rfl, o1, o2, -⟩ := oR4
        obtain ⟨F4, d4, rfl, -⟩ := o1.reads
        obtain ⟨G4, d5, rfl, -⟩ := o2.reads
        have pu5 := (hB4.cell (p := ⟨bu, ou + k, none⟩) (block_lt_of_cell pu4)).trans pu4
        have lu5 := block_lt_of_cell pu5
        clear kb qkb rkb lkb pu4
        clear hB4 o1 o2 hO3 k0 qk0 rk0 lk0 hB fU hSR
        by_cases hc : c3 = 0
        · subst hc
          have HF2 : Hid ((U.take (k + 1)).filter (needB s L) = (U.take k).filter (needB s L)) := by show _ = _; rw [HF.out, hnd.out]; simp
          go_wp2_with fail
          go_round
          case rel => exact ⟨k + 1, B, cB, by omega, by go_num, by rw [HF2.out], by rw [HF2.out]; exact Lib.hid (hO5.out.below (bbox (Below.refl _ _) _)), k5.alloc _, Lib.hid (bbox hB5 _), by simp; omega, Lib.hid (fU5.out.below (bbox (Below.refl _ _) _)), by rw [HF2.out]; exact HD⟩
          case measure => simp [intOf]; omega
        · have HF2 : Hid ((U.take (k + 1)).filter (needB s L) = (U.take k).filter (needB s L) ++ [(n : Int) + 1]) := by show _ = _; rw [HF.out, hnd.out, if_pos (by simp [hc])]
          have hcb : (c3 != 0) = true := by simpa using hc
          have hB5' := Lib.hid hB5
          clear hB5
          go_wp2_with (at_builtin; refine appIX (ys := [(n : Int) + 1]) (base := w.heap.size) rfl _ _ rfl rfl (hO5.out.below bel) rfl (Blk.newE (by simp)) (by rfl) (by have := HL.out; simp; omega) (by simp; omega) ?_; intro A6 d6 w6 o6 hg6 hB6 h46)
          have k6 := Blk.grownO (hg := hg6) ((k5.alloc _).alloc _) (hO5.out.below (bbox (bbox (Below.refl _ _) _) _)).1 (by decide)
          have fU6 : IntsV w6 lo0 w2.heap.size _ U := (fU5.out.below (bbox (bbox (Below.refl _ _) _) _)).keep fun b h1 h2 => hg6.block b (by simp; omega) (fun e => by have := HD.out b e.symm; omega)
          have HD6 : ∀ g, (Value.slice A6 ((U.take k).filter (needB s L) ++ [(n : Int) + 1]).length d6).ownBlock = some g → g < lo0 ∨ w2.heap.size ≤ g := fun g hg => by
            rcases h46 with e | e
            · exact HD.out g (e.symm.trans hg)
            · rw [e] at hg; injection hg with hg; simp at hg; omega
          have hBB : Below w.heap.size w w6 := Below.trans (bbox (bbox hB5'.out _) _) hB6
          have hws6 := hg6.size
          simp only [World.size_alloc] at hws6
          replace o6 := Lib.hid o6
          replace HD6 := Lib.hid HD6
          clear hg6 hB6 h46
          go_wp2_with fail
          go_round
          case rel => exact ⟨k + 1, A6, d6, by omega, by go_num, by rw [HF2.out]; simp, by rw [HF2.out]; exact o6, k6, Lib.hid hBB, by omega, Lib.hid fU6, by rw [HF2.out]; exact HD6⟩
          case measure => simp [intOf]; omega
    · obtain rfl : k = U.length := by omega
      have hO2 := hO.out
      rw [List.take_length] at hO2
      have e1 : ((U.take U.length).filter (needB s L)).length = (U.filter (needB s L)).length := by rw [List.take_length]
      go_wp2_with fail
      go_ret2
      refine ⟨_, by rw [E.out]; rfl, ?_, hB.out⟩
      rw [E2.out, e1]
      exact hO2
--@
end Go.Proofs.YteogcababfenfaaGreat
