/- Contracts: impl's first failing case. -/
import Derived.Test.YtmjgcdolnkdfoaaMatchM
set_option linter.unusedSimpArgs false
set_option linter.unusedVariables false
namespace Go.Proofs.Ytmjgcdolnkdfoaa
open Go Go.RowKit Go.Proofs
attribute [local go_sem ↓] Go.wp_at_zero Go.wp_at_succ
attribute [local go_sem] Oper.semAt_some

--@ impl.failingCase
/-- the first case in which a does not entail b -/
def failF (a b : Asn) : Option (List Int) := (cases a (caseS a (tset (termsL b)))).find? fun c => !entB a b c
theorem find_pre {L p : List (List Int)} {x : List Int} {f : List Int → Bool} (h : (p ++ [x]) <+: L) (hp : ∀ y ∈ p, f y = false) (hx : f x = true) : L.find? f = some x := by
  obtain ⟨zs, rfl⟩ := h
  rw [List.append_assoc, List.find?_append]
  have h0 : p.find? f = none := by rw [List.find?_eq_none]; intro y hy; simp [hp y hy]
  rw [h0]
  simp [hx]
set_option maxRecDepth 100000 in
set_option maxHeartbeats 3200000 in
theorem c_impl_failingCase {lo hi lo' hi' : Nat} (v v' : Value) (a b : Asn) (w : World) (h : AsnV w lo hi v a) (h' : AsnV w lo' hi' v' b) (hhi : hi ≤ w.heap.size) (hhi' : hi' ≤ w.heap.size) (ha : a.valid = true) (hb : b.valid = true) :
    Calls Try.prog 84 #[v, v'] w fun e w' => e = .returned (.tuple #[.agg (case9 ((failF a b).getD zeros)), .bool (failF a b).isSome]) ∧ Below w.heap.size w w' := by
  have hV := Lib.hid h
  have hV' := Lib.hid h'
  obtain ⟨A1, c1, A2, c2, rfl, -, -⟩ := h
  obtain ⟨A3, c3, A4, c4, rfl, -, -⟩ := h'
  have HVA := Lib.hid ha
  have HVB := Lib.hid hb
  have hT5 : tset (termsL b) < 512 := tset_lt (termsL b)
  have HT5 := Lib.hid hT5
  clear ha hb hT5
  refine (callsIn_wide (n := 3)).1 ?_
  (refine callsIn_of_wp_marks Try.func84 rfl trivial ?_ rfl; simp only [Try.ntmps84, List.size_toArray, List.length_cons, List.length_nil, Nat.reduceAdd, Nat.reduceSub, Array.replicate_succ, Array.replicate_zero, List.push_toArray, List.append_toArray, List.nil_append, List.cons_append])
  gi_wp2_with fail
  refine wpIn_wide.2 ?_
  refine wp_region_noPanic ?_
  refine wp_region_held_drew (S := (fun w' => (∀ i, w'.cell? ⟨w.heap.size, i, none⟩ = #[.slice A1 a.facts.length c1, .slice A2 a.atoms.length c2][i]?) ∧ (∀ i, w'.cell? ⟨w.heap.size + 1, i, none⟩ = #[.slice A3 b.facts.length c3, .slice A4 b.atoms.length c4][i]?))) (by kernel_rfl) (⟨Blk.cell blks, Blk.cell blks⟩) (fun hHeld => ?_)
  refine wpAnyH_take (i := 0) (v := ?_) rfl (by kernel_rfl) (by kernel_rfl) (by kernel_rfl) (fun _ _ _ h => h) (Or.inl ⟨by rfl, fun w hSw => ?_⟩) hHeld ?_
  rotate_left
  · ((try dsimp only at hSw); go_split_ands; go_simp; (try with_reducible rfl))
  try simp only [Act.put, List.getElem_toArray, List.getElem_cons_zero, List.getElem_cons_succ, List.setIfInBounds_toArray, List.set_cons_zero, List.set_cons_succ]
  refine wpAnyH_take (i := 1) (v := ?_) rfl (by kernel_rfl) (by kernel_rfl) (by kernel_rfl) (fun _ _ _ h => h) (Or.inl ⟨by rfl, fun w hSw => ?_⟩) hHeld ?_
  rotate_left
  · ((try dsimp only at hSw); go_split_ands; go_simp; (try with_reducible rfl))
  try simp only [Act.put, List.getElem_toArray, List.getElem_cons_zero, List.getElem_cons_succ, List.setIfInBounds_toArray, List.set_cons_zero, List.set_cons_succ]
  refine wpAnyH_ready (rs := [2]) (by kernel_rfl) (by simp) ?_
  refine AllReadyH.cons rfl (fun K hK => ?_) AllReadyH.nil
  try simp only [List.getElem_toArray, List.getElem_cons_zero, List.getElem_cons_succ]
  (go_simp; refine (c_impl_termsIn _ b _ (hV'.out.below bel)).mono ?_; rintro e w1 ⟨rfl, hB1⟩; have k0 : Blk w1 w.heap.size tAs #[.slice A1 a.facts.length c1, .slice A2 a.atoms.length c2] := Blk.next blks hB1; have k1 : Blk w1 (w.heap.size + 1) tAs #[.slice A3 b.facts.length c3, .slice A4 b.atoms.length c4] := Blk.next blks hB1; have kR0 : Blk w1 (w.heap.size + 1 + 1) tC #[.int .i64 0, .int .i64 0, .int .i64 0, .int .i64 0, .int .i64 0, .int .i64 0, .int .i64 0, .int .i64 0, .int .i64 0] := Blk.next blks hB1; have kO : Blk w1 (w.heap.size + 1 + 1 + 1) 4 #[.bool false] := Blk.next blks hB1; have hB := bgo (w := w) bel hB1)
  refine hK.out _ _ (⟨k0.cell, k1.cell⟩) (fun hHeldN => ?_)
  clear hHeld hK K
  have hHeld := hHeldN
  clear hHeldN
  try simp only [Act.put, List.getElem_toArray, List.getElem_cons_zero, List.getElem_cons_succ, List.setIfInBounds_toArray, List.set_cons_zero, List.set_cons_succ]
  refine wpAnyH_ready (rs := [3]) (by kernel_rfl) (by simp) ?_
  refine AllReadyH.cons rfl (fun K hK => ?_) AllReadyH.nil
  try simp only [List.getElem_toArray, List.getElem_cons_zero, List.getElem_cons_succ]
  (go_simp; refine (c_impl_possibleCases A1 A2 c1 c2 a (tset (termsL b)) _ (hV.out.below bel) HT5.out).mono ?_; rintro e w2 ⟨gA, gT, rfl, hA, hT, kA, kT, hB2⟩; replace k0 := k0.next hB2; replace k1 := k1.next hB2; replace kR0 := kR0.next hB2; replace kO := kO.next hB2; have hz1 := hB.size; replace hB := bgo hB hB2)
  refine hK.out _ _ (⟨k0.cell, k1.cell⟩) (fun hHeldN => ?_)
  clear hHeld hK K
  have hHeld := hHeldN
  clear hHeldN
  try simp only [Act.put, List.getElem_toArray, List.getElem_cons_zero, List.getElem_cons_succ, List.setIfInBounds_toArray, List.set_cons_zero, List.set_cons_succ]
  refine wpAnyH_done (by kernel_rfl) ?_ _
  refine NoPanic.normal ?_
  have kR : Blk w2 (w.heap.size + 1 + 1) tC (case9 zeros) := kR0
  have hzO := kO.lt
  have hz := hB.size
  have hAw := hV.out.below hB
  clear kR0 hB2 hB1
  gi_wp2_with fail
  refine wp_rangeT (gf := 193) (lb := #[.pointer (some ⟨gA, 0, none⟩), .pointer (some ⟨gT, 0, none⟩)]) rfl (enters_of Try.func193 (by kernel_rfl) rfl)
    (c_seq (n₀ := w.heap.size) w2 HVA.out HT5.out hAw hhi (by omega) kA kT) (fun h k => h.trans k) (Kept.putl (by omega)) (Below.refl _ _) (fun _ => rfl)
    (fun pre W => Hid (∀ y ∈ pre, entB a b y.1 = true) ∧ Blk W (w.heap.size + 1 + 1) tC (case9 zeros) ∧ Blk W (w.heap.size + 1 + 1 + 1) 4 #[.bool false] ∧ Blk W w.heap.size tAs #[.slice A1 a.facts.length c1, .slice A2 a.atoms.length c2] ∧ Blk W (w.heap.size + 1) tAs #[.slice A3 b.facts.length c3, .slice A4 b.atoms.length c4] ∧ Below w.heap.size w W)
    (fun c pre W => ∃ p x, c = .ret ∧ pre = p ++ [x] ∧ Hid (∀ y ∈ p, entB a b y.1 = true) ∧ Hid (entB a b x.1 = false) ∧ Blk W (w.heap.size + 1 + 1) tC (case9 x.1) ∧ Blk W (w.heap.size + 1 + 1 + 1) 4 #[.bool true] ∧ Below w.heap.size w W)
    (fun s X Y row hs hg hr => by
      obtain ⟨e1, k1, k2, k3, k4, k5⟩ := hs
      exact ⟨e1, k1.turn hg hr (Or.inr (by omega)), k2.turn hg hr (Or.inr (by omega)), k3.turn hg hr (Or.inr (by omega)), k4.turn hg hr (Or.inr (by omega)), Below.turn k5 hg hr (by omega) k5.size⟩)
    (fun c s X Y row hs hg hr => by
      obtain ⟨p, x, e1, e2, e3, e4, k1, k2, k3⟩ := hs
      exact ⟨p, x, e1, e2, e3, e4, k1.turn hg hr (Or.inr (by omega)), k2.turn hg hr (Or.inr (by omega)), Below.turn k3 hg hr (by omega) k3.size⟩)
    ⟨fun y hy => absurd hy (by simp), kR, kO, k0, k1, hB⟩ ?round ?done ?stop
  case round =>
    rintro l pre x W hl ⟨HP, kR, kO, k0, k1, hB⟩ -
    have hwz := hB.size
    gi_wp2
    refine ⟨(KeepsOthers.alloc _ _).from _, Kept.alloc (by omega) _, fun o o' ho hc => ?_⟩
    have kX := (Blk.new W tC (case9 x.1)).putl o' ho hc
    have lO := kO.lt
    replace kR := (kR.alloc (.cells (case9 x.1) tC)).putl o' ho hc
    replace kO := (kO.alloc (.cells (case9 x.1) tC)).putl o' ho hc
    replace k0 := (k0.alloc (.cells (case9 x.1) tC)).putl o' ho hc
    replace k1 := (k1.alloc (.cells (case9 x.1) tC)).putl o' ho hc
    have hB' := (bbox hB (.cells (case9 x.1) tC)).trans (Kept.put (T1 := tC) (T2 := tAs) (n₀ := w.heap.size) o' (by omega) ho hc).below
    clear ho
    obtain ⟨V, hVe⟩ : ∃ V, V = (W.alloc (.cells (case9 x.1) tC)).putObj l o' := ⟨_, rfl⟩
    rw [← hVe] at kX kR kO k0 k1 hB' ⊢
    clear hVe hB
    obtain ⟨p0, p1, p2, p3, p4, p5, p6, p7, p8⟩ := case9_cells kX
    have q0 := k0.cell
    have q1 := k1.cell
    have hxl := Lib.hid x.len
    gi_wp2_with fail
    refine ⟨trivial, (CallsIn.inRound l (callsIn_wide.2 (c_impl_matchCase _ _ a b x.1 _ (hV.out.below hB') (hV'.out.below hB') HVA.out HVB.out hxl.out))).mono ?_⟩
    rintro e w3 ⟨r, rfl, hB3⟩
    replace kX := kX.next hB3
    replace kR := kR.next hB3
    replace kO := kO.next hB3
    replace k0 := k0.next hB3
    replace k1 := k1.next hB3
    have hBV := bgo hB' hB3
    have hz3 := hBV.size
    have hzV := hB'.size
    have hKV : Kept tC tAs w.heap.size V w3 := Kept.next hB3 hzV
    have hKF : KeepsOthers V w3 := (KX.of hB3).keeps
    clear q0 q1 p0 p1 p2 p3 p4 p5 p6 p7 p8 hB3
    cases he : entB a b x.1
    · have HE := Lib.hid he
      clear he
      obtain ⟨p0, p1, p2, p3, p4, p5, p6, p7, p8⟩ := case9_cells kX
      obtain ⟨q0, q1, q2, q3, q4, q5, q6, q7, q8⟩ := case9_cells kR
      have rR := kR.frozen
      have qO := kO.cell 0
      have rO := kO.frozen
      gi_wp2
      refine ⟨(hKF.trans (keeps9.trans (KeepsOthers.setCell _ _ _))).from _, pre, x, rfl, rfl, HP, HE, ?_, ?_, ?_⟩
      · exact (Blk.nine kR).far (p := ⟨w.heap.size + 1 + 1 + 1, 0, none⟩) (by simp) _
      · exact (kO.nineFar (by omega)).set_ 0 (.bool true)
      · exact (below9 hBV (by omega)).setCell (p := ⟨w.heap.size + 1 + 1 + 1, 0, none⟩) (by simp only; omega) _
    · have HE : Hid (∀ y ∈ pre ++ [x], entB a b y.1 = true) := fun y hy => by
        rcases List.mem_append.1 hy with hy | hy
        · exact HP.out y hy
        · rw [List.mem_singleton.1 hy]; exact he
      clear he
      gi_wp2
      exact ⟨hKF.from _, hKV, HE, kR, kO, k0, k1, hBV⟩
  case done =>
    rintro D ys W hD hS ⟨HP, kR, kO, k0, k1, hB⟩ hK
    have E : Hid (failF a b = none) := by
      show _ = _
      unfold failF
      rw [← hS, List.find?_eq_none]
      intro y hy
      obtain ⟨z, hz, rfl⟩ := List.mem_map.1 hy
      simp [HP.out z hz]
    clear hS k0 k1
    obtain ⟨q0, q1, q2, q3, q4, q5, q6, q7, q8⟩ := case9_cells kR
    have rR := kR.frozen
    have qO := kO.cell 0
    have rO := kO.frozen
    have lO := kO.lt
    have lR := kR.lt
    gi_wp2
    have zR := (Blk.nine (v0 := .int .i64 0) (v1 := .int .i64 0) (v2 := .int .i64 0) (v3 := .int .i64 0) (v4 := .int .i64 0) (v5 := .int .i64 0) (v6 := .int .i64 0) (v7 := .int .i64 0) (v8 := .int .i64 0) kR).far (p := ⟨w.heap.size + 1 + 1 + 1, 0, none⟩) (by simp) (.bool false)
    have zO := (kO.nineFar (g := w.heap.size + 1 + 1) (v0 := .int .i64 0) (v1 := .int .i64 0) (v2 := .int .i64 0) (v3 := .int .i64 0) (v4 := .int .i64 0) (v5 := .int .i64 0) (v6 := .int .i64 0) (v7 := .int .i64 0) (v8 := .int .i64 0) (by omega)).set_ 0 (.bool false)
    have zB := (below9 (g := w.heap.size + 1 + 1) (v0 := .int .i64 0) (v1 := .int .i64 0) (v2 := .int .i64 0) (v3 := .int .i64 0) (v4 := .int .i64 0) (v5 := .int .i64 0) (v6 := .int .i64 0) (v7 := .int .i64 0) (v8 := .int .i64 0) hB (by omega)).setCell (p := ⟨w.heap.size + 1 + 1 + 1, 0, none⟩) (by simp only; omega) (.bool false)
    have zK := ((keeps9 (w := W) (g := w.heap.size + 1 + 1) (v0 := .int .i64 0) (v1 := .int .i64 0) (v2 := .int .i64 0) (v3 := .int .i64 0) (v4 := .int .i64 0) (v5 := .int .i64 0) (v6 := .int .i64 0) (v7 := .int .i64 0) (v8 := .int .i64 0)).trans (KeepsOthers.setCell _ ⟨w.heap.size + 1 + 1 + 1, 0, none⟩ (.bool false))).same D _ hK rfl
    obtain ⟨V, hVe⟩ : ∃ V, V = ((set9 W (w.heap.size + 1 + 1) (.int .i64 0) (.int .i64 0) (.int .i64 0) (.int .i64 0) (.int .i64 0) (.int .i64 0) (.int .i64 0) (.int .i64 0) (.int .i64 0)).setCell ⟨w.heap.size + 1 + 1 + 1, 0, none⟩ (.bool false)) := ⟨_, rfl⟩
    rw [← hVe] at zR zO zB zK ⊢
    refine ⟨by simp, .inl ⟨_, _, rfl, run_takeDeferred zK, ?_⟩⟩
    have yR : Blk _ _ _ (case9 zeros) := zR.putl (.deferred none) zK rfl
    have yO := zO.putl (.deferred none) zK rfl
    obtain ⟨p0, p1, p2, p3, p4, p5, p6, p7, p8⟩ := case9_cells yR
    have pO := yO.cell 0
    refine ⟨.tuple #[.agg (case9 zeros), .bool false], ?_, by rw [E.out]; rfl, zB.trans (belowK_b (w := w) (Nat.le_refl _) V D _ _ (by omega) zK rfl rfl)⟩
    simp [results, Try.f84, go_sem, p0, p1, p2, p3, p4, p5, p6, p7, p8, pO]
  case stop =>
    rintro D c pre W hD hS ⟨p, x, rfl, rfl, HP, HE, kR, kO, hB⟩ hK
    have E : Hid (failF a b = some x.1) := by
      show _ = _
      unfold failF
      rw [List.map_append, List.map_cons, List.map_nil] at hS
      refine find_pre hS (fun y hy => ?_) (by simp [HE.out])
      obtain ⟨z, hz, rfl⟩ := List.mem_map.1 hy
      simp [HP.out z hz]
    clear hS
    obtain ⟨q0, q1, q2, q3, q4, q5, q6, q7, q8⟩ := case9_cells kR
    have qO := kO.cell 0
    have lO := kO.lt
    have lR := kR.lt
    gi_wp2
    refine ⟨by simp, .inl ⟨_, _, rfl, run_takeDeferred hK, ?_⟩⟩
    have yR := kR.putl (.deferred none) hK rfl
    have yO := kO.putl (.deferred none) hK rfl
    obtain ⟨p0, p1, p2, p3, p4, p5, p6, p7, p8⟩ := case9_cells yR
    have pO := yO.cell 0
    refine ⟨.tuple #[.agg (case9 x.1), .bool true], ?_, by rw [E.out]; rfl, hB.trans (belowK_b (w := w) (Nat.le_refl _) W D _ _ (by omega) hK rfl rfl)⟩
    simp [results, Try.f84, go_sem, p0, p1, p2, p3, p4, p5, p6, p7, p8, pO]

--@ impl.FailingCase
def failL (a b : Asn) : List Int := if a.valid && b.valid then (failF a b).getD [] else []
def failB (a b : Asn) : Bool := a.valid && b.valid && (failF a b).isSome
set_option maxRecDepth 100000 in
set_option maxHeartbeats 3200000 in
theorem c_impl_FailingCase {lo hi lo' hi' : Nat} (v v' : Value) (a b : Asn) (w : World) (h : AsnV w lo hi v a) (h' : AsnV w lo' hi' v' b) (hhi : hi ≤ w.heap.size) (hhi' : hi' ≤ w.heap.size) :
    Calls Try.prog 16 #[v, v'] w fun e w' => ∃ r, e = .returned (.tuple #[r, .bool (failB a b)]) ∧ IntsO w' w.heap.size r (failL a b) ∧ Below w.heap.size w w' := by
  have hV := Lib.hid h
  have hV' := Lib.hid h'
  obtain ⟨A1, c1, A2, c2, rfl, -, -⟩ := h
  obtain ⟨A3, c3, A4, c4, rfl, -, -⟩ := h'
  go_enter Try.func16, Try.ntmps16
  have k0 : Blk ((w.alloc (.cells #[.slice A1 a.facts.length c1, .slice A2 a.atoms.length c2] tAs)).alloc (.cells #[.slice A3 b.facts.length c3, .slice A4 b.atoms.length c4] tAs)) w.heap.size tAs #[.slice A1 a.facts.length c1, .slice A2 a.atoms.length c2] := blks
  have k1 : Blk ((w.alloc (.cells #[.slice A1 a.facts.length c1, .slice A2 a.atoms.length c2] tAs)).alloc (.cells #[.slice A3 b.facts.length c3, .slice A4 b.atoms.length c4] tAs)) (w.heap.size + 1) tAs #[.slice A3 b.facts.length c3, .slice A4 b.atoms.length c4] := blks
  go_wp2_with fail
  refine (c_impl_AssertionValid _ a _ (hV.out.below bel)).mono ?_
  rintro e w1 ⟨rfl, hB1⟩
  have hB : Below w.heap.size w w1 := bgo (w := w) bel hB1
  replace k0 := k0.next hB1
  replace k1 := k1.next hB1
  (replace qk0 := k0.cell; replace rk0 := k0.frozen; replace lk0 := k0.lt; replace qk1 := k1.cell; replace rk1 := k1.frozen; replace lk1 := k1.lt)
  clear hB1
  cases ha : a.valid
  · have E : Hid (failL a b = [] ∧ failB a b = false) := by constructor <;> simp [failL, failB, ha]
    clear ha
    go_wp2_with fail
    go_ret2
    exact ⟨_, by rw [E.out.2]; rfl, by rw [E.out.1]; exact IntsO.nil _ _, hB⟩
  · have HA := Lib.hid ha
    clear ha
    go_wp2_with fail
    refine (c_impl_AssertionValid _ b _ (hV'.out.below hB)).mono ?_
    rintro e w2 ⟨rfl, hB2⟩
    replace hB := bgo hB hB2
    replace k0 := k0.next hB2
    replace k1 := k1.next hB2
    (replace qk0 := k0.cell; replace rk0 := k0.frozen; replace lk0 := k0.lt; replace qk1 := k1.cell; replace rk1 := k1.frozen; replace lk1 := k1.lt)
    clear hB2
    cases hb : b.valid
    · have E : Hid (failL a b = [] ∧ failB a b = false) := by constructor <;> simp [failL, failB, hb]
      clear hb
      go_wp2_with fail
      go_ret2
      exact ⟨_, by rw [E.out.2]; rfl, by rw [E.out.1]; exact IntsO.nil _ _, hB⟩
    · have HB := Lib.hid hb
      have hz := hB.size
      clear hb
      go_wp2_with fail
      refine (c_impl_failingCase _ _ a b _ (hV.out.below hB) (hV'.out.below hB) (by omega) (by omega) HA.out HB.out).mono ?_
      rintro e w3 ⟨rfl, hB3⟩
      replace hB := bgo hB hB3
      clear hB3 k0 k1 qk0 qk1 rk0 rk1 lk0 lk1
      cases hf : failF a b
      · have E : Hid (failL a b = [] ∧ failB a b = false) := by constructor <;> simp [failL, failB, hf]
        simp only [Option.getD_none, Option.isSome_none]
        clear hf
        go_wp2_with fail
        go_ret2
        exact ⟨_, by rw [E.out.2]; rfl, by rw [E.out.1]; exact IntsO.nil _ _, bel⟩
      · rename_i c
        have hc : c.length = 9 := cases_nine c (List.mem_of_find?_eq_some hf)
        have HC := Lib.hid hc
        have E : Hid (failL a b = c ∧ failB a b = true) := by constructor <;> simp [failL, failB, hf, HA.out, HB.out]
        simp only [Option.getD_some, Option.isSome_some]
        have hz3 := hB.size
        clear hf hc
        obtain ⟨p0, p1, p2, p3, p4, p5, p6, p7, p8⟩ := case9_cells (Blk.new w3 tC (case9 c))
        go_wp2_with fail
        refine (c_impl_caseList c _ HC.out).mono ?_
        rintro e w4 ⟨r, rfl, o4, hB4⟩
        have hB5 : Below w.heap.size w w4 := bgo (w := w) bel hB4
        have o5 := o4.lower (base' := w.heap.size) (by simp; omega)
        go_wp2_with fail
        go_ret2
        exact ⟨r, by rw [E.out.2]; rfl, by rw [E.out.1]; exact o5, hB5⟩
end Go.Proofs.Ytmjgcdolnkdfoaa
