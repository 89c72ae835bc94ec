/- Programs: comparison. -/
import Derived.Test.YtcgifoghggajgaaCmdD
set_option linter.unusedSimpArgs false
set_option linter.unusedVariables false
namespace Go.Proofs.Ytcgifoghggajgaa
open Go Go.RowKit Go.Proofs

def eq1 (k a b : Int) (t : Fct) (i : Asn) (body els : Cms) (k' a' b' : Int) (t' : Fct) (i' : Asn) (body' els' : Cms) : Bool := decide (k = k' ∧ a = a' ∧ b = b' ∧ t = t' ∧ i = i' ∧ body = body' ∧ els = els')
--@ laws.eqCmd
set_option maxHeartbeats 1600000 in
theorem c_eqCmd {lo hi lo' hi' : Nat} (k a b : Int) (t : Fct) (i : Asn) (A1 A2 A3 A4 : Option Addr) (c1 c2 c3 c4 : Nat) (body els : Cms)
    (k' a' b' : Int) (t' : Fct) (i' : Asn) (B1 B2 B3 B4 : Option Addr) (d1 d2 d3 d4 : Nat) (body' els' : Cms) (w : World)
    (ha : AsnV w lo hi (.agg #[.slice A1 i.facts.length c1, .slice A2 i.atoms.length c2]) i) (hb : CmsV w lo hi A3 body) (he : CmsV w lo hi A4 els)
    (ha' : AsnV w lo' hi' (.agg #[.slice B1 i'.facts.length d1, .slice B2 i'.atoms.length d2]) i') (hb' : CmsV w lo' hi' B3 body') (he' : CmsV w lo' hi' B4 els')
    (IB : ∀ (w : World), CmsV w lo hi A3 body → CmsV w lo' hi' B3 body' → Calls Try.prog 20 #[.slice A3 body.len c3, .slice B3 body'.len d3] w fun e w' => e = .returned (.bool (decide (body = body'))) ∧ Below w.heap.size w w')
    (IE : ∀ (w : World), CmsV w lo hi A4 els → CmsV w lo' hi' B4 els' → Calls Try.prog 20 #[.slice A4 els.len c4, .slice B4 els'.len d4] w fun e w' => e = .returned (.bool (decide (els = els'))) ∧ Below w.heap.size w w') :
    Calls Try.prog 80 #[.agg #[.int .i64 k, .int .i64 a, .int .i64 b, .bool t.eq, .int .i64 t.a, .int .i64 t.b, .slice A1 i.facts.length c1, .slice A2 i.atoms.length c2, .slice A3 body.len c3, .slice A4 els.len c4],
        .agg #[.int .i64 k', .int .i64 a', .int .i64 b', .bool t'.eq, .int .i64 t'.a, .int .i64 t'.b, .slice B1 i'.facts.length d1, .slice B2 i'.atoms.length d2, .slice B3 body'.len d3, .slice B4 els'.len d4]] w fun e w' =>
      e = .returned (.bool (eq1 k a b t i body els k' a' b' t' i' body' els')) ∧ Below w.heap.size w w' := by
  obtain ⟨R, hR⟩ : ∃ R, R = eq1 k a b t i body els k' a' b' t' i' body' els' := ⟨_, rfl⟩
  rw [← hR]
  have hE := Lib.hid (hR.trans (show eq1 k a b t i body els k' a' b' t' i' body' els' = (decide (k = k') && (decide (a = a') && (decide (b = b') && (decide (t = t') && (decide (i = i') && (decide (body = body') && decide (els = els'))))))) from by simp only [eq1, Bool.decide_and]))
  clear hR
  replace IB := Lib.hid IB
  replace IE := Lib.hid IE
  replace ha := Lib.hid ha
  replace hb := Lib.hid hb
  replace he := Lib.hid he
  replace ha' := Lib.hid ha'
  replace hb' := Lib.hid hb'
  replace he' := Lib.hid he'
  by_cases q0 : k = k'
  case neg =>
    have hq := Lib.hid q0
    go_enter Try.func80, Try.ntmps80
    go_wp2_with fail
    go_ret
    exact ⟨ret_bool (by rw [hE.out, decide_eq_false hq.out]; rfl), bel⟩
  by_cases q1 : a = a'
  case neg =>
    have hq := Lib.hid q1
    have hp := Lib.hid (decide_eq_true q0)
    go_enter Try.func80, Try.ntmps80
    go_wp2_with fail
    go_ret
    exact ⟨ret_bool (by rw [hE.out, decide_eq_false hq.out, hp.out]; rfl), bel⟩
  by_cases q2 : b = b'
  case neg =>
    have hq := Lib.hid q2
    have hp := Lib.hid (decide_eq_true q0)
    have hp1 := Lib.hid (decide_eq_true q1)
    go_enter Try.func80, Try.ntmps80
    go_wp2_with fail
    go_ret
    exact ⟨ret_bool (by rw [hE.out, decide_eq_false hq.out, hp.out, hp1.out]; rfl), bel⟩
  have hE2 := Lib.hid (show R = (decide (t = t') && (decide (i = i') && (decide (body = body') && decide (els = els')))) from by rw [hE.out, decide_eq_true q0, decide_eq_true q1, decide_eq_true q2]; rfl)
  clear hE
  go_enter Try.func80, Try.ntmps80
  go_wp2_with fail
  refine (c_eqFact t t' _).mono ?_
  rintro e w1 ⟨rfl, hB1⟩
  have hB := bgo (w := w) bel hB1
  have K0 := (Blk.next (g := w.heap.size) (((Blk.new w _ _).alloc _)) hB1)
  have K1 := (Blk.next (g := w.heap.size + 1) (by rw [← World.size_alloc]; exact Blk.new (w.alloc _) _ _) hB1)
  have k0 := K0.cell
  have k1 := K1.cell
  have l0 := K0.lt
  have l1 := K1.lt
  cases hd : decide (t = t')
  · go_wp2_with fail
    go_ret
    exact ⟨ret_bool (by rw [hE2.out, hd]; rfl), hB⟩
  replace hd := Lib.hid hd
  go_wp2_with fail
  refine (c_eqAssertion _ _ i i' _ (ha.out.below hB) (ha'.out.below hB)).mono ?_
  rintro e w2 ⟨rfl, hB2⟩
  have hBB := bgo hB hB2
  have K0 := K0.next hB2
  have K1 := K1.next hB2
  clear k0 k1
  have k0 := K0.cell
  have k1 := K1.cell
  have l0 := K0.lt
  have l1 := K1.lt
  cases hd2 : decide (i = i')
  · go_wp2_with fail
    go_ret
    exact ⟨ret_bool (by rw [hE2.out, hd.out, hd2]; rfl), hBB⟩
  replace hd2 := Lib.hid hd2
  go_wp2_with fail
  refine (IB.out _ (hb.out.below hBB) (hb'.out.below hBB)).mono ?_
  rintro e w3 ⟨rfl, hB3⟩
  have hBBB := bgo hBB hB3
  have K0 := K0.next hB3
  have K1 := K1.next hB3
  clear k0 k1
  have k0 := K0.cell
  have k1 := K1.cell
  have l0 := K0.lt
  have l1 := K1.lt
  cases hd3 : decide (body = body')
  · go_wp2_with fail
    go_ret
    exact ⟨ret_bool (by rw [hE2.out, hd.out, hd2.out, hd3]; rfl), hBBB⟩
  replace hd3 := Lib.hid hd3
  go_wp2_with fail
  refine (IE.out _ (he.out.below hBBB) (he'.out.below hBBB)).mono ?_
  rintro e w4 ⟨rfl, hB4⟩
  have hB5 := bgo hBBB hB4
  cases hd4 : decide (els = els')
  all_goals
    go_wp2_with fail
    go_ret
    exact ⟨ret_bool (by rw [hE2.out, hd.out, hd2.out, hd3.out, hd4]; rfl), hB5⟩

theorem Cms.drop_all : ∀ (L : Cms), L.drop L.len = .nil
  | .nil => rfl
  | .cons k a b t i body els r => by simp only [Cms.len, Cms.drop]; exact Cms.drop_all r
theorem cms_step {L M : Cms} {j : Nat} {k a b : Int} {t : Fct} {i : Asn} {body els r : Cms} {k' a' b' : Int} {t' : Fct} {i' : Asn} {body' els' r' : Cms} (h : L.drop j = .cons k a b t i body els r) (h' : M.drop j = .cons k' a' b' t' i' body' els' r') :
    decide (L.drop j = M.drop j) = (eq1 k a b t i body els k' a' b' t' i' body' els' && decide (L.drop (j + 1) = M.drop (j + 1))) := by
  rw [Cms.drop_succ j L h, Cms.drop_succ j M h', h, h']
  unfold eq1
  rw [← Bool.decide_and]
  refine decide_eq_decide.2 ?_
  constructor
  · intro e; injection e with e1 e2 e3 e4 e5 e6 e7 e8; exact ⟨⟨e1, e2, e3, e4, e5, e6, e7⟩, e8⟩
  · rintro ⟨⟨e1, e2, e3, e4, e5, e6, e7⟩, e8⟩; rw [e1, e2, e3, e4, e5, e6, e7, e8]
--@ laws.eqCmdS
set_option maxRecDepth 100000 in
set_option maxHeartbeats 3200000 in
theorem eqCmdS_go : ∀ (N : Nat) (L M : Cms), L.sz < N → ∀ (A A' : Option Addr) (c c' : Nat) (w : World) (lo hi lo' hi' : Nat), CmsV w lo hi A L → CmsV w lo' hi' A' M → L.len ≤ 1049600 → M.len ≤ 1049600 → L.small 1049600 → M.small 1049600 →
    Calls Try.prog 20 #[.slice A L.len c, .slice A' M.len c'] w fun e w' => e = .returned (.bool (decide (L = M))) ∧ Below w.heap.size w w' := by
  intro N
  induction N with
  | zero => intro L M h; omega
  | succ N IH =>
    intro L M hsz A A' c c' w lo hi lo' hi' hV hV' hlen hlen' hsm hsm'
    replace IH := Lib.hid IH
    replace hV := Lib.hid hV
    replace hV' := Lib.hid hV'
    replace hsm := Lib.hid hsm
    replace hsm' := Lib.hid hsm'
    replace hsz := Lib.hid hsz
    obtain ⟨n, hn⟩ : ∃ n, n = L.len := ⟨_, rfl⟩
    obtain ⟨n', hn'⟩ : ∃ n', n' = M.len := ⟨_, rfl⟩
    rw [← hn] at hlen
    rw [← hn'] at hlen'
    rw [← hn, ← hn']
    replace hn := Lib.hid hn
    replace hn' := Lib.hid hn'
    obtain ⟨R, hR⟩ : ∃ R, R = decide (L = M) := ⟨_, rfl⟩
    rw [← hR]
    replace hR := Lib.hid hR
    by_cases hne : n = n'
    case neg =>
      have hq := Lib.hid hne
      go_enter Try.func20, Try.ntmps20
      go_wp2_with fail
      go_ret
      exact ⟨ret_bool (by rw [hR.out]; symm; rw [decide_eq_false_iff_not]; intro e; exact hq.out (by rw [hn.out, hn'.out, e])), bel⟩
    subst hne
    go_enter Try.func20, Try.ntmps20
    go_wp2
    go_loopw [5] (fun i wr => ∃ j : Nat, j ≤ n ∧ i = .int .i64 j ∧ Hid (R = decide (L.drop j = M.drop j)) ∧ Below w.heap.size w wr) (fun i _ => n - (intOf i).toNat)
    case atStart => exact ⟨0, Nat.zero_le _, rfl, Lib.hid hR.out, bel⟩
    case round =>
      obtain ⟨j, hj, rfl, HA, hB⟩ := hrel
      by_cases hlt : j < n
      · have hpos : 0 < (L.drop j).len := by rw [Cms.drop_len, ← hn.out]; omega
        have hpos' : 0 < (M.drop j).len := by rw [Cms.drop_len, ← hn'.out]; omega
        obtain ⟨k, a, b, t, i, body, els, r, eL⟩ := Cms.cons_of_len hpos
        obtain ⟨k', a', b', t', i', body', els', r', eM⟩ := Cms.cons_of_len hpos'
        obtain ⟨bl, o, rfl, -, -, hAt⟩ := (hV.out.below hB) (by rw [← hn.out]; omega)
        obtain ⟨bl', o', rfl, -, -, hAt'⟩ := (hV'.out.below hB) (by rw [← hn'.out]; omega)
        have hD := hAt.drop j
        have hD' := hAt'.drop j
        have hS := Cms.small_drop j hsm.out
        have hS' := Cms.small_drop j hsm'.out
        have hZ := Cms.sz_drop j L
        have hStep := Lib.hid (HA.out.trans (cms_step eL eM))
        rw [eL] at hD hS hZ
        rw [eM] at hD' hS'
        obtain ⟨⟨p0, p1, p2, p3, p4, p5⟩, ⟨A6, c6, p6, g6⟩, ⟨A7, c7, p7, g7⟩, ⟨A8, c8, p8, g8⟩, ⟨A9, c9, p9, g9⟩, -⟩ := hD
        obtain ⟨⟨r0, r1, r2, r3, r4, r5⟩, ⟨B6, d6, r6, f6⟩, ⟨B7, d7, r7, f7⟩, ⟨B8, d8, r8, f8⟩, ⟨B9, d9, r9, f9⟩, -⟩ := hD'
        obtain ⟨s1, s2, s3, s4, s5, s6, -⟩ := hS
        obtain ⟨y1, y2, y3, y4, y5, y6, -⟩ := hS'
        simp only [Cms.sz] at hZ
        have hbs : body.sz < N := by have := hsz.out; omega
        have hes : els.sz < N := by have := hsz.out; omega
        have ha : AsnV wr lo hi (.agg #[.slice A6 i.facts.length c6, .slice A7 i.atoms.length c7]) i := ⟨_, _, _, _, rfl, ⟨g6, s1⟩, ⟨g7, s2⟩⟩
        have ha' : AsnV wr lo' hi' (.agg #[.slice B6 i'.facts.length d6, .slice B7 i'.atoms.length d7]) i' := ⟨_, _, _, _, rfl, ⟨f6, y1⟩, ⟨f7, y2⟩⟩
        have call := fun (wd : World) (hBd : Below wr.heap.size wr wd) => c_eqCmd k a b t i A6 A7 A8 A9 c6 c7 c8 c9 body els k' a' b' t' i' B6 B7 B8 B9 d6 d7 d8 d9 body' els' wd (ha.below hBd) (CmsV.below g8 hBd) (CmsV.below g9 hBd) (ha'.below hBd) (CmsV.below f8 hBd) (CmsV.below f9 hBd) (fun w h1 h2 => IH.out body body' hbs _ _ _ _ _ _ _ _ _ h1 h2 s3 y3 s5 y5) (fun w h1 h2 => IH.out els els' hes _ _ _ _ _ _ _ _ _ h1 h2 s4 y4 s6 y6)
        replace call := Lib.hid call
        clear hZ hpos hpos' hAt hAt' g6 g7 g8 g9 f6 f7 f8 f9 s1 s2 s3 s4 s5 s6 y1 y2 y3 y4 y5 y6 hbs hes ha ha' eL eM HA
        generalize hQ : eq1 k a b t i body els k' a' b' t' i' body' els' = Q at call hStep
        clear hQ
        cases Q
        all_goals
          go_wp2_with fail
          go_still_tail 8, (by kernel_rfl)
          change wpList _ _ _ _ _ wr.drew
          have hBd := hB.drew
          have hBr := (Below.refl wr.heap.size wr).drew
          clear hB p0 p1 p2 p3 p4 p5 p6 p7 p8 p9 r0 r1 r2 r3 r4 r5 r6 r7 r8 r9
          generalize wr.drew = wd at *
          go_wp2_with (go_at_call 80; refine (call.out _ hBr).mono ?_; rintro e w' ⟨rfl, hB2⟩)
        · go_ret
          exact ⟨ret_bool (by rw [hStep.out]; rfl), bgo hBd hB2⟩
        · go_round
          case rel => exact ⟨j + 1, by omega, by go_num, by show _ = _; rw [hStep.out]; rfl, bgo hBd hB2⟩
          case measure => simp [intOf]; omega
      · go_wp2
        go_ret
        obtain rfl : j = n := by omega
        have e1 : L.drop j = .nil := by rw [hn.out]; exact Cms.drop_all L
        have e2 : M.drop j = .nil := by rw [hn'.out]; exact Cms.drop_all M
        exact ⟨ret_bool (by rw [HA.out, e1, e2]; simp), hB⟩
--@
end Go.Proofs.Ytcgifoghggajgaa
