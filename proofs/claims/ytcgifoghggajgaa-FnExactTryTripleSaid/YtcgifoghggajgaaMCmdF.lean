/- Programs: the laws' copies of whole lists. -/
import Derived.Test.YtcgifoghggajgaaMCmdC
set_option linter.unusedSimpArgs false
set_option linter.unusedVariables false
namespace Go.Proofs.Ytcgifoghggajgaa
open Go Go.RowKit Go.Proofs

def Cms.take : Nat → Cms → Cms
  | 0, _ => .nil
  | _ + 1, .nil => .nil
  | n + 1, .cons k a b t i body els r => .cons k a b t i body els (r.take n)
theorem Cms.take_all : ∀ (L : Cms), L.take L.len = L
  | .nil => rfl
  | .cons k a b t i body els r => by simp only [Cms.len, Cms.take]; rw [Cms.take_all r]
theorem Cms.take_len : ∀ (n : Nat) (L : Cms), n ≤ L.len → (L.take n).len = n
  | 0, L, _ => by cases L <;> rfl
  | n + 1, .nil, h => by simp [Cms.len] at h
  | n + 1, .cons k a b t i body els r, h => by simp only [Cms.len, Cms.take] at h ⊢; rw [Cms.take_len n r (by omega)]
--@ []impl.Cmd
section
variable {w w' : World}
theorem CmsOAt.lo_ {lo lo' hi o : Nat} {cs : Array Value} : ∀ {L : Cms}, lo' ≤ lo → CmsOAt w L cs o lo hi → CmsOAt w L cs o lo' hi
  | .nil, e, h => Nat.le_trans e h
  | .cons k a b t i body els r, e, h => by
    obtain ⟨vF, vA, gB, gE, csB, csE, m1, m2, m3, hT, ⟨h1, h1'⟩, h⟩ := h
    exact ⟨vF, vA, gB, gE, csB, csE, m1, m2, m3, hT, ⟨by omega, h1'.lo_ e⟩, h⟩
/-- one more command behind the others -/
theorem CmsOAt.snoc {cs : Array Value} {m hi : Nat} {k a b : Int} {t : Fct} {i : Asn} {body els r : Cms} : ∀ {L : Cms} {j o lo : Nat}, CmsOAt w (L.take j) cs o lo m → L.drop j = .cons k a b t i body els r →
    CmsOAt w (.cons k a b t i body els .nil) cs (o + j * 10) m hi → CmsOAt w (L.take (j + 1)) cs o lo hi
  | .nil, 0, o, lo, _, h2, _ => by cases h2
  | .nil, _ + 1, o, lo, _, h2, _ => by cases h2
  | .cons k' a' b' t' i' body' els' r', 0, o, lo, h1, h2, h3 => by
    simp only [Cms.drop] at h2
    injection h2 with e1 e2 e3 e4 e5 e6 e7 e8
    subst e1 e2 e3 e4 e5 e6 e7 e8
    have h4 : lo ≤ m := by simpa [Cms.take, CmsOAt] using h1
    simp only [Nat.zero_mul, Nat.add_zero] at h3
    have := h3.lo_ h4
    simpa only [Cms.take] using this
  | .cons k' a' b' t' i' body' els' r', j + 1, o, lo, h1, h2, h3 => by
    simp only [Cms.drop] at h2
    simp only [Cms.take] at h1 ⊢
    obtain ⟨vF, vA, gB, gE, csB, csE, m1, m2, m3, hT, p1, p2, p3, p4⟩ := h1
    exact ⟨vF, vA, gB, gE, csB, csE, m1, m2, m3, hT, p1, p2, p3, CmsOAt.snoc p4 h2 (by rwa [show o + 10 + j * 10 = o + (j + 1) * 10 from by omega])⟩
def put10 (cs : Array Value) (o : Nat) (v0 v1 v2 v3 v4 v5 v6 v7 v8 v9 : Value) : Array Value := ((((((((((cs).setIfInBounds (o) v0).setIfInBounds (o + 1) v1).setIfInBounds (o + 2) v2).setIfInBounds (o + 3) v3).setIfInBounds (o + 4) v4).setIfInBounds (o + 5) v5).setIfInBounds (o + 6) v6).setIfInBounds (o + 7) v7).setIfInBounds (o + 8) v8).setIfInBounds (o + 9) v9
theorem put10_size {cs : Array Value} {o : Nat} {v0 v1 v2 v3 v4 v5 v6 v7 v8 v9 : Value} : (put10 cs o v0 v1 v2 v3 v4 v5 v6 v7 v8 v9).size = cs.size := by simp [put10]
theorem put10_far {cs : Array Value} {o : Nat} {v0 v1 v2 v3 v4 v5 v6 v7 v8 v9 : Value} {j : Nat} (h : j < o) : (put10 cs o v0 v1 v2 v3 v4 v5 v6 v7 v8 v9)[j]? = cs[j]? := by
  unfold put10
  iterate 10 rw [Array.getElem?_setIfInBounds_ne (by omega)]
theorem put10_ten {cs : Array Value} {o : Nat} (h : o + 10 ≤ cs.size) (k a b : Int) (t : Fct) (vF vA vB vE : Value) : Ten (put10 cs o (.int .i64 k) (.int .i64 a) (.int .i64 b) (.bool t.eq) (.int .i64 t.a) (.int .i64 t.b) vF vA vB vE) o k a b t vF vA vB vE := by
  have h1 : o < cs.size ∧ o + 1 < cs.size ∧ o + 2 < cs.size ∧ o + 3 < cs.size ∧ o + 4 < cs.size ∧ o + 5 < cs.size ∧ o + 6 < cs.size ∧ o + 7 < cs.size ∧ o + 8 < cs.size ∧ o + 9 < cs.size := by omega
  obtain ⟨p0, p1, p2, p3, p4, p5, p6, p7, p8, p9⟩ := h1
  unfold Ten put10
  refine ⟨?_, ?_, ?_, ?_, ?_, ?_, ?_, ?_, ?_, ?_⟩ <;> simp [Array.getElem?_setIfInBounds, p0, p1, p2, p3, p4, p5, p6, p7, p8, p9]
theorem Blk.put10 {g : Nat} {t : TypeId} {cs : Array Value} (h : Blk w g t cs) (o : Nat) (v0 v1 v2 v3 v4 v5 v6 v7 v8 v9 : Value) : Blk (((((((((((w).setCell ⟨g, o, none⟩ v0).setCell ⟨g, o + 1, none⟩ v1).setCell ⟨g, o + 2, none⟩ v2).setCell ⟨g, o + 3, none⟩ v3).setCell ⟨g, o + 4, none⟩ v4).setCell ⟨g, o + 5, none⟩ v5).setCell ⟨g, o + 6, none⟩ v6).setCell ⟨g, o + 7, none⟩ v7).setCell ⟨g, o + 8, none⟩ v8).setCell ⟨g, o + 9, none⟩ v9) g t (Go.Proofs.Ytcgifoghggajgaa.put10 cs o v0 v1 v2 v3 v4 v5 v6 v7 v8 v9) :=
  ((((((((((h).set_ (o) v0).set_ (o + 1) v1).set_ (o + 2) v2).set_ (o + 3) v3).set_ (o + 4) v4).set_ (o + 5) v5).set_ (o + 6) v6).set_ (o + 7) v7).set_ (o + 8) v8).set_ (o + 9) v9
theorem mkC (n : Nat) (h : Lim n) (w : World) : (Instr.makeSlice 26 (.int .i64 (n : Int)) (.int .i64 (n : Int))).run Try.prog w = .ok (.slice (some ⟨w.heap.size, 0, none⟩) n n) (w.alloc (.cells (madeCells #[.int .i64 0, .int .i64 0, .int .i64 0, .bool false, .int .i64 0, .int .i64 0, .slice none 0 0, .slice none 0 0, .slice none 0 0, .slice none 0 0] (n * 10)) tC)) := by
  obtain ⟨i, hi, hz, hs, hb⟩ := info_parts infoC
  have := run_make_rowN (P := Try.prog) 26 tC i _ Try.underlying26 hi hz .i64 .i64 n n (Nat.le_refl _) (by rw [hb]; unfold Lim at h; omega) (by unfold Lim at h; omega) w
  rwa [hs] at this
end

--@ laws.toCmdS
set_option maxHeartbeats 3200000 in
theorem toCmdS_go : ∀ (N : Nat) (L : Cms), L.sz < N → ∀ (A : Option Addr) (c : Nat) (w : World) (lo hi : Nat), CmsV w lo hi A L → L.len ≤ 1049600 → L.small 1049600 →
    Calls Try.prog 17 #[.slice A L.len c] w fun e w' => ∃ v, e = .returned v ∧ CmsO w' w.heap.size w'.heap.size v L ∧ Below w.heap.size w w' := by
  intro N
  induction N with
  | zero => intro L h; omega
  | succ N IH =>
    intro L hsz A c w lo hi hV hlen hsm
    replace IH := Lib.hid IH
    replace hV := Lib.hid hV
    replace hsm := Lib.hid hsm
    replace hsz := Lib.hid hsz
    obtain ⟨n, hn⟩ : ∃ n, n = L.len := ⟨_, rfl⟩
    rw [← hn] at hlen ⊢
    replace hn := Lib.hid hn
    have hmk := mkC n (by unfold Lim; omega)
    go_enter Try.func17, Try.ntmps17
    go_wp2
    clear hmk
    go_loopw [4] (fun i wr => ∃ (j : Nat) (cs : Array Value), j ≤ n ∧ i = .int .i64 j ∧ Hid (cs.size = n * 10) ∧ Blk wr w.heap.size tC cs ∧ Hid (CmsOAt wr (L.take j) cs 0 (w.heap.size + 1) wr.heap.size) ∧ Below w.heap.size w wr) (fun i _ => n - (intOf i).toNat)
    case atStart => exact ⟨0, _, Nat.zero_le _, rfl, Lib.hid (size_madeCells _ _), Blk.new _ _ _, Lib.hid (by cases L <;> simp [Cms.take, CmsOAt]), bel⟩
    case round =>
      obtain ⟨j, cs, hj, rfl, HS, hK, HC, hB⟩ := hrel
      by_cases hlt : j < n
      · have hpos : 0 < (L.drop j).len := by rw [Cms.drop_len, ← hn.out]; omega
        obtain ⟨k, a, b, t, i, body, els, r, eL⟩ := Cms.cons_of_len hpos
        obtain ⟨bl, o, rfl, -, -, hAt⟩ := (hV.out.below hB) (by rw [← hn.out]; omega)
        have hD := hAt.drop j
        have hS := Cms.small_drop j hsm.out
        have hZ := Cms.sz_drop j L
        rw [eL] at hD hS hZ
        obtain ⟨⟨p0, p1, p2, p3, p4, p5⟩, ⟨A6, c6, p6, g6⟩, ⟨A7, c7, p7, g7⟩, ⟨A8, c8, p8, g8⟩, ⟨A9, c9, p9, g9⟩, -⟩ := hD
        obtain ⟨s1, s2, s3, s4, s5, s6, -⟩ := hS
        simp only [Cms.sz] at hZ
        have hbs : body.sz < N := by have := hsz.out; omega
        have hes : els.sz < N := by have := hsz.out; omega
        have ha : AsnV wr lo hi (.agg #[.slice A6 i.facts.length c6, .slice A7 i.atoms.length c7]) i := ⟨_, _, _, _, rfl, ⟨g6, s1⟩, ⟨g7, s2⟩⟩
        replace ha := Lib.hid ha
        replace hbs := Lib.hid hbs
        replace hes := Lib.hid hes
        replace s3 := Lib.hid s3
        replace s4 := Lib.hid s4
        replace s5 := Lib.hid s5
        replace s6 := Lib.hid s6
        replace g8 := Lib.hid (show CmsV wr lo hi A8 body from g8)
        replace g9 := Lib.hid (show CmsV wr lo hi A9 els from g9)
        replace eL := Lib.hid eL
        clear hZ hpos hAt g6 g7 s1 s2
        go_wp2_with fail
        refine (c_toCmd k a b t i A6 A7 A8 A9 c6 c7 c8 c9 body els wr ha.out g8.out g9.out (fun w h1 => IH.out body hbs.out _ _ _ _ _ h1 s3.out s5.out) (fun w h1 => IH.out els hes.out _ _ _ _ _ h1 s4.out s6.out)).mono ?_
        rintro e w2 ⟨vF, vA, vB, vE, m1, m2, m3, rfl, e1, x1, x2, x3, e3, hB2⟩
        have hK2 := hK.next hB2
        have hB3 := bgo hB hB2
        have hz2 := hB2.size
        have lt := hK.lt
        have HC2 := HC.out.below hB2
        obtain ⟨AF, cF, AA, cA, eF⟩ := x1.form
        have eF' : vF = .slice AF i.facts.length cF ∧ vA = .slice AA i.atoms.length cA := by
          injection eF with eF; injection eF with eF; injection eF with ea eb; injection eb with eb; exact ⟨ea, eb⟩
        obtain ⟨rfl, rfl⟩ := eF'
        clear eF
        obtain ⟨gB, csB, rfl, y2⟩ := x2
        obtain ⟨gE, csE, rfl, y3⟩ := x3
        have x2 := Lib.hid y2
        have x3 := Lib.hid y3
        clear y2 y3
        replace x1 := Lib.hid x1
        replace HC2 := Lib.hid HC2
        clear p0 p1 p2 p3 p4 p5 p6 p7 p8 p9 hK HC hB ha g8 g9
        have hs := HS.out
        obtain ⟨u0, hu0⟩ : ∃ u, cs[j * 10]? = some u := ⟨_, Array.getElem?_eq_getElem (by omega)⟩
        have q0 : w2.cell? ⟨w.heap.size, j * 10, none⟩ = some u0 := by rw [hK2.cell, hu0]
        obtain ⟨u1, hu1⟩ : ∃ u, cs[j * 10 + 1]? = some u := ⟨_, Array.getElem?_eq_getElem (by omega)⟩
        have q1 : w2.cell? ⟨w.heap.size, j * 10 + 1, none⟩ = some u1 := by rw [hK2.cell, hu1]
        obtain ⟨u2, hu2⟩ : ∃ u, cs[j * 10 + 2]? = some u := ⟨_, Array.getElem?_eq_getElem (by omega)⟩
        have q2 : w2.cell? ⟨w.heap.size, j * 10 + 2, none⟩ = some u2 := by rw [hK2.cell, hu2]
        obtain ⟨u3, hu3⟩ : ∃ u, cs[j * 10 + 3]? = some u := ⟨_, Array.getElem?_eq_getElem (by omega)⟩
        have q3 : w2.cell? ⟨w.heap.size, j * 10 + 3, none⟩ = some u3 := by rw [hK2.cell, hu3]
        obtain ⟨u4, hu4⟩ : ∃ u, cs[j * 10 + 4]? = some u := ⟨_, Array.getElem?_eq_getElem (by omega)⟩
        have q4 : w2.cell? ⟨w.heap.size, j * 10 + 4, none⟩ = some u4 := by rw [hK2.cell, hu4]
        obtain ⟨u5, hu5⟩ : ∃ u, cs[j * 10 + 5]? = some u := ⟨_, Array.getElem?_eq_getElem (by omega)⟩
        have q5 : w2.cell? ⟨w.heap.size, j * 10 + 5, none⟩ = some u5 := by rw [hK2.cell, hu5]
        obtain ⟨u6, hu6⟩ : ∃ u, cs[j * 10 + 6]? = some u := ⟨_, Array.getElem?_eq_getElem (by omega)⟩
        have q6 : w2.cell? ⟨w.heap.size, j * 10 + 6, none⟩ = some u6 := by rw [hK2.cell, hu6]
        obtain ⟨u7, hu7⟩ : ∃ u, cs[j * 10 + 7]? = some u := ⟨_, Array.getElem?_eq_getElem (by omega)⟩
        have q7 : w2.cell? ⟨w.heap.size, j * 10 + 7, none⟩ = some u7 := by rw [hK2.cell, hu7]
        obtain ⟨u8, hu8⟩ : ∃ u, cs[j * 10 + 8]? = some u := ⟨_, Array.getElem?_eq_getElem (by omega)⟩
        have q8 : w2.cell? ⟨w.heap.size, j * 10 + 8, none⟩ = some u8 := by rw [hK2.cell, hu8]
        obtain ⟨u9, hu9⟩ : ∃ u, cs[j * 10 + 9]? = some u := ⟨_, Array.getElem?_eq_getElem (by omega)⟩
        have q9 : w2.cell? ⟨w.heap.size, j * 10 + 9, none⟩ = some u9 := by rw [hK2.cell, hu9]
        have r2 := hK2.frozen
        clear hs hu0 hu1 hu2 hu3 hu4 hu5 hu6 hu7 hu8 hu9
        go_wp2_with fail
        have hs := HS.out
        go_round
        case rel =>
          refine ⟨j + 1, put10 cs (j * 10) (.int .i64 k) (.int .i64 a) (.int .i64 b) (.bool t.eq) (.int .i64 t.a) (.int .i64 t.b) _ _ _ _, by omega, by go_num, Lib.hid (by rw [put10_size, hs]), Blk.put10 hK2 _ _ _ _ _ _ _ _ _ _ _, Lib.hid ?_, bel⟩
          have M : ∀ {w5 : World}, w5.heap.size = w2.heap.size → Mk (fun g => w.heap.size ≤ g ∧ g < w.heap.size + 1) w2 w5 → CmsOAt w5 (L.take (j + 1)) (put10 cs (j * 10) (.int .i64 k) (.int .i64 a) (.int .i64 b) (.bool t.eq) (.int .i64 t.a) (.int .i64 t.b) (.slice AF i.facts.length cF) (.slice AA i.atoms.length cA) (.slice (some ⟨gB, 0, none⟩) body.len body.len) (.slice (some ⟨gE, 0, none⟩) els.len els.len)) 0 (w.heap.size + 1) w5.heap.size := fun {w5} hsz5 M => by
            have z2 : CmsO w2 m1 m2 (.slice (some ⟨gB, 0, none⟩) body.len body.len) body := ⟨gB, csB, rfl, x2.out⟩
            have z3 : CmsO w2 m2 m3 (.slice (some ⟨gE, 0, none⟩) els.len els.len) els := ⟨gE, csE, rfl, x3.out⟩
            obtain ⟨g1, cs1, e1', a1, a2, a3, a4, a5⟩ := z2.mk M (by omega)
            have b1 := a5.le
            obtain ⟨g2, cs2, e2', d1, d2, d3, d4, d5⟩ := z3.mk M (by omega)
            injection e1' with e1'; injection e1' with e1'; injection e1' with e1'; subst e1'
            injection e2' with e2'; injection e2' with e2'; injection e2' with e2'; subst e2'
            have hl5 : (L.take j).len = j := Cms.take_len j L (by rw [← hn.out]; omega)
            refine CmsOAt.snoc ((HC2.out.mk M (by omega)).cells fun x h1 h2 => put10_far (by rw [hl5] at h2; omega)) eL.out ?_
            rw [Nat.zero_add]
            exact ⟨_, _, gB, gE, cs1, cs2, m1, m2, m3, put10_ten (by rw [hs]; omega) k a b t _ _ _ _, ⟨e1, x1.out.mk M (by omega)⟩, ⟨a1, a2, a3, a4, a5⟩, ⟨d1, d2, d3, d4, d5⟩, by rw [hsz5]; exact e3⟩
          refine M (by simp) ?_
          exact Mk.set (Mk.set (Mk.set (Mk.set (Mk.set (Mk.set (Mk.set (Mk.set (Mk.set (Mk.set (Mk.refl _ _) ⟨by simp, by simp⟩ _) ⟨by simp, by simp⟩ _) ⟨by simp, by simp⟩ _) ⟨by simp, by simp⟩ _) ⟨by simp, by simp⟩ _) ⟨by simp, by simp⟩ _) ⟨by simp, by simp⟩ _) ⟨by simp, by simp⟩ _) ⟨by simp, by simp⟩ _) ⟨by simp, by simp⟩ _
        case measure => simp [intOf]; omega
      · go_wp2_with fail
        go_ret
        obtain rfl : j = n := by omega
        have h1 := HC.out
        rw [hn.out, Cms.take_all] at h1
        have h2 := HS.out
        have hn' := hn.out
        subst hn'
        exact ⟨_, rfl, ⟨_, cs, rfl, Nat.le_refl _, hK, h2, hlen, h1⟩, hB⟩
--@
end Go.Proofs.Ytcgifoghggajgaa

/- Programs: comparison. -/
namespace Go.Proofs.Ytcgifoghggajgaa
open Go Go.RowKit Go.Proofs

def eq1 (k a b : Int) (t : Fct) (i : Asn) (body els : Cms) (k' a' b' : Int) (t' : Fct) (i' : Asn) (body' els' : Cms) : Bool := decide (k = k' ∧ a = a' ∧ b = b' ∧ t = t' ∧ i = i' ∧ body = body' ∧ els = els')
--@ laws.eqCmd
set_option maxHeartbeats 1600000 in
theorem c_eqCmd {lo hi lo' hi' : Nat} (k a b : Int) (t : Fct) (i : Asn) (A1 A2 A3 A4 : Option Addr) (c1 c2 c3 c4 : Nat) (body els : Cms)
    (k' a' b' : Int) (t' : Fct) (i' : Asn) (B1 B2 B3 B4 : Option Addr) (d1 d2 d3 d4 : Nat) (body' els' : Cms) (w : World)
    (ha : AsnV w lo hi (.agg #[.slice A1 i.facts.length c1, .slice A2 i.atoms.length c2]) i) (hb : CmsV w lo hi A3 body) (he : CmsV w lo hi A4 els)
    (ha' : AsnV w lo' hi' (.agg #[.slice B1 i'.facts.length d1, .slice B2 i'.atoms.length d2]) i') (hb' : CmsV w lo' hi' B3 body') (he' : CmsV w lo' hi' B4 els')
    (IB : ∀ (w : World), CmsV w lo hi A3 body → CmsV w lo' hi' B3 body' → Calls Try.prog 20 #[.slice A3 body.len c3, .slice B3 body'.len d3] w fun e w' => e = .returned (.bool (decide (body = body'))) ∧ Below w.heap.size w w')
    (IE : ∀ (w : World), CmsV w lo hi A4 els → CmsV w lo' hi' B4 els' → Calls Try.prog 20 #[.slice A4 els.len c4, .slice B4 els'.len d4] w fun e w' => e = .returned (.bool (decide (els = els'))) ∧ Below w.heap.size w w') :
    Calls Try.prog 80 #[.agg #[.int .i64 k, .int .i64 a, .int .i64 b, .bool t.eq, .int .i64 t.a, .int .i64 t.b, .slice A1 i.facts.length c1, .slice A2 i.atoms.length c2, .slice A3 body.len c3, .slice A4 els.len c4],
        .agg #[.int .i64 k', .int .i64 a', .int .i64 b', .bool t'.eq, .int .i64 t'.a, .int .i64 t'.b, .slice B1 i'.facts.length d1, .slice B2 i'.atoms.length d2, .slice B3 body'.len d3, .slice B4 els'.len d4]] w fun e w' =>
      e = .returned (.bool (eq1 k a b t i body els k' a' b' t' i' body' els')) ∧ Below w.heap.size w w' := by
  obtain ⟨R, hR⟩ : ∃ R, R = eq1 k a b t i body els k' a' b' t' i' body' els' := ⟨_, rfl⟩
  rw [← hR]
  have hE := Lib.hid (hR.trans (show eq1 k a b t i body els k' a' b' t' i' body' els' = (decide (k = k') && (decide (a = a') && (decide (b = b') && (decide (t = t') && (decide (i = i') && (decide (body = body') && decide (els = els'))))))) from by simp only [eq1, Bool.decide_and]))
  clear hR
  replace IB := Lib.hid IB
  replace IE := Lib.hid IE
  replace ha := Lib.hid ha
  replace hb := Lib.hid hb
  replace he := Lib.hid he
  replace ha' := Lib.hid ha'
  replace hb' := Lib.hid hb'
  replace he' := Lib.hid he'
  by_cases q0 : k = k'
  case neg =>
    have hq := Lib.hid q0
    go_enter Try.func80, Try.ntmps80
    go_wp2_with fail
    go_ret
    exact ⟨ret_bool (by rw [hE.out, decide_eq_false hq.out]; rfl), bel⟩
  by_cases q1 : a = a'
  case neg =>
    have hq := Lib.hid q1
    have hp := Lib.hid (decide_eq_true q0)
    go_enter Try.func80, Try.ntmps80
    go_wp2_with fail
    go_ret
    exact ⟨ret_bool (by rw [hE.out, decide_eq_false hq.out, hp.out]; rfl), bel⟩
  by_cases q2 : b = b'
  case neg =>
    have hq := Lib.hid q2
    have hp := Lib.hid (decide_eq_true q0)
    have hp1 := Lib.hid (decide_eq_true q1)
    go_enter Try.func80, Try.ntmps80
    go_wp2_with fail
    go_ret
    exact ⟨ret_bool (by rw [hE.out, decide_eq_false hq.out, hp.out, hp1.out]; rfl), bel⟩
  have hE2 := Lib.hid (show R = (decide (t = t') && (decide (i = i') && (decide (body = body') && decide (els = els')))) from by rw [hE.out, decide_eq_true q0, decide_eq_true q1, decide_eq_true q2]; rfl)
  clear hE
  go_enter Try.func80, Try.ntmps80
  go_wp2_with fail
  refine (c_eqFact t t' _).mono ?_
  rintro e w1 ⟨rfl, hB1⟩
  have hB := bgo (w := w) bel hB1
  have K0 := (Blk.next (g := w.heap.size) (((Blk.new w _ _).alloc _)) hB1)
  have K1 := (Blk.next (g := w.heap.size + 1) (by rw [← World.size_alloc]; exact Blk.new (w.alloc _) _ _) hB1)
  have k0 := K0.cell
  have k1 := K1.cell
  have l0 := K0.lt
  have l1 := K1.lt
  cases hd : decide (t = t')
  · go_wp2_with fail
    go_ret
    exact ⟨ret_bool (by rw [hE2.out, hd]; rfl), hB⟩
  replace hd := Lib.hid hd
  go_wp2_with fail
  refine (c_eqAssertion _ _ i i' _ (ha.out.below hB) (ha'.out.below hB)).mono ?_
  rintro e w2 ⟨rfl, hB2⟩
  have hBB := bgo hB hB2
  have K0 := K0.next hB2
  have K1 := K1.next hB2
  clear k0 k1
  have k0 := K0.cell
  have k1 := K1.cell
  have l0 := K0.lt
  have l1 := K1.lt
  cases hd2 : decide (i = i')
  · go_wp2_with fail
    go_ret
    exact ⟨ret_bool (by rw [hE2.out, hd.out, hd2]; rfl), hBB⟩
  replace hd2 := Lib.hid hd2
  go_wp2_with fail
  refine (IB.out _ (hb.out.below hBB) (hb'.out.below hBB)).mono ?_
  rintro e w3 ⟨rfl, hB3⟩
  have hBBB := bgo hBB hB3
  have K0 := K0.next hB3
  have K1 := K1.next hB3
  clear k0 k1
  have k0 := K0.cell
  have k1 := K1.cell
  have l0 := K0.lt
  have l1 := K1.lt
  cases hd3 : decide (body = body')
  · go_wp2_with fail
    go_ret
    exact ⟨ret_bool (by rw [hE2.out, hd.out, hd2.out, hd3]; rfl), hBBB⟩
  replace hd3 := Lib.hid hd3
  go_wp2_with fail
  refine (IE.out _ (he.out.below hBBB) (he'.out.below hBBB)).mono ?_
  rintro e w4 ⟨rfl, hB4⟩
  have hB5 := bgo hBBB hB4
  cases hd4 : decide (els = els')
  all_goals
    go_wp2_with fail
    go_ret
    exact ⟨ret_bool (by rw [hE2.out, hd.out, hd2.out, hd3.out, hd4]; rfl), hB5⟩

theorem Cms.drop_all : ∀ (L : Cms), L.drop L.len = .nil
  | .nil => rfl
  | .cons k a b t i body els r => by simp only [Cms.len, Cms.drop]; exact Cms.drop_all r
theorem cms_step {L M : Cms} {j : Nat} {k a b : Int} {t : Fct} {i : Asn} {body els r : Cms} {k' a' b' : Int} {t' : Fct} {i' : Asn} {body' els' r' : Cms} (h : L.drop j = .cons k a b t i body els r) (h' : M.drop j = .cons k' a' b' t' i' body' els' r') :
    decide (L.drop j = M.drop j) = (eq1 k a b t i body els k' a' b' t' i' body' els' && decide (L.drop (j + 1) = M.drop (j + 1))) := by
  rw [Cms.drop_succ j L h, Cms.drop_succ j M h', h, h']
  unfold eq1
  rw [← Bool.decide_and]
  refine decide_eq_decide.2 ?_
  constructor
  · intro e; injection e with e1 e2 e3 e4 e5 e6 e7 e8; exact ⟨⟨e1, e2, e3, e4, e5, e6, e7⟩, e8⟩
  · rintro ⟨⟨e1, e2, e3, e4, e5, e6, e7⟩, e8⟩; rw [e1, e2, e3, e4, e5, e6, e7, e8]
--@ laws.eqCmdS
set_option maxRecDepth 100000 in
set_option maxHeartbeats 3200000 in
theorem eqCmdS_go : ∀ (N : Nat) (L M : Cms), L.sz < N → ∀ (A A' : Option Addr) (c c' : Nat) (w : World) (lo hi lo' hi' : Nat), CmsV w lo hi A L → CmsV w lo' hi' A' M → L.len ≤ 1049600 → M.len ≤ 1049600 → L.small 1049600 → M.small 1049600 →
    Calls Try.prog 20 #[.slice A L.len c, .slice A' M.len c'] w fun e w' => e = .returned (.bool (decide (L = M))) ∧ Below w.heap.size w w' := by
  intro N
  induction N with
  | zero => intro L M h; omega
  | succ N IH =>
    intro L M hsz A A' c c' w lo hi lo' hi' hV hV' hlen hlen' hsm hsm'
    replace IH := Lib.hid IH
    replace hV := Lib.hid hV
    replace hV' := Lib.hid hV'
    replace hsm := Lib.hid hsm
    replace hsm' := Lib.hid hsm'
    replace hsz := Lib.hid hsz
    obtain ⟨n, hn⟩ : ∃ n, n = L.len := ⟨_, rfl⟩
    obtain ⟨n', hn'⟩ : ∃ n', n' = M.len := ⟨_, rfl⟩
    rw [← hn] at hlen
    rw [← hn'] at hlen'
    rw [← hn, ← hn']
    replace hn := Lib.hid hn
    replace hn' := Lib.hid hn'
    obtain ⟨R, hR⟩ : ∃ R, R = decide (L = M) := ⟨_, rfl⟩
    rw [← hR]
    replace hR := Lib.hid hR
    by_cases hne : n = n'
    case neg =>
      have hq := Lib.hid hne
      go_enter Try.func20, Try.ntmps20
      go_wp2_with fail
      go_ret
      exact ⟨ret_bool (by rw [hR.out]; symm; rw [decide_eq_false_iff_not]; intro e; exact hq.out (by rw [hn.out, hn'.out, e])), bel⟩
    subst hne
    go_enter Try.func20, Try.ntmps20
    go_wp2
    go_loopw [5] (fun i wr => ∃ j : Nat, j ≤ n ∧ i = .int .i64 j ∧ Hid (R = decide (L.drop j = M.drop j)) ∧ Below w.heap.size w wr) (fun i _ => n - (intOf i).toNat)
    case atStart => exact ⟨0, Nat.zero_le _, rfl, Lib.hid hR.out, bel⟩
    case round =>
      obtain ⟨j, hj, rfl, HA, hB⟩ := hrel
      by_cases hlt : j < n
      · have hpos : 0 < (L.drop j).len := by rw [Cms.drop_len, ← hn.out]; omega
        have hpos' : 0 < (M.drop j).len := by rw [Cms.drop_len, ← hn'.out]; omega
        obtain ⟨k, a, b, t, i, body, els, r, eL⟩ := Cms.cons_of_len hpos
        obtain ⟨k', a', b', t', i', body', els', r', eM⟩ := Cms.cons_of_len hpos'
        obtain ⟨bl, o, rfl, -, -, hAt⟩ := (hV.out.below hB) (by rw [← hn.out]; omega)
        obtain ⟨bl', o', rfl, -, -, hAt'⟩ := (hV'.out.below hB) (by rw [← hn'.out]; omega)
        have hD := hAt.drop j
        have hD' := hAt'.drop j
        have hS := Cms.small_drop j hsm.out
        have hS' := Cms.small_drop j hsm'.out
        have hZ := Cms.sz_drop j L
        have hStep := Lib.hid (HA.out.trans (cms_step eL eM))
        rw [eL] at hD hS hZ
        rw [eM] at hD' hS'
        obtain ⟨⟨p0, p1, p2, p3, p4, p5⟩, ⟨A6, c6, p6, g6⟩, ⟨A7, c7, p7, g7⟩, ⟨A8, c8, p8, g8⟩, ⟨A9, c9, p9, g9⟩, -⟩ := hD
        obtain ⟨⟨r0, r1, r2, r3, r4, r5⟩, ⟨B6, d6, r6, f6⟩, ⟨B7, d7, r7, f7⟩, ⟨B8, d8, r8, f8⟩, ⟨B9, d9, r9, f9⟩, -⟩ := hD'
        obtain ⟨s1, s2, s3, s4, s5, s6, -⟩ := hS
        obtain ⟨y1, y2, y3, y4, y5, y6, -⟩ := hS'
        simp only [Cms.sz] at hZ
        have hbs : body.sz < N := by have := hsz.out; omega
        have hes : els.sz < N := by have := hsz.out; omega
        have ha : AsnV wr lo hi (.agg #[.slice A6 i.facts.length c6, .slice A7 i.atoms.length c7]) i := ⟨_, _, _, _, rfl, ⟨g6, s1⟩, ⟨g7, s2⟩⟩
        have ha' : AsnV wr lo' hi' (.agg #[.slice B6 i'.facts.length d6, .slice B7 i'.atoms.length d7]) i' := ⟨_, _, _, _, rfl, ⟨f6, y1⟩, ⟨f7, y2⟩⟩
        have call := fun (wd : World) (hBd : Below wr.heap.size wr wd) => c_eqCmd k a b t i A6 A7 A8 A9 c6 c7 c8 c9 body els k' a' b' t' i' B6 B7 B8 B9 d6 d7 d8 d9 body' els' wd (ha.below hBd) (CmsV.below g8 hBd) (CmsV.below g9 hBd) (ha'.below hBd) (CmsV.below f8 hBd) (CmsV.below f9 hBd) (fun w h1 h2 => IH.out body body' hbs _ _ _ _ _ _ _ _ _ h1 h2 s3 y3 s5 y5) (fun w h1 h2 => IH.out els els' hes _ _ _ _ _ _ _ _ _ h1 h2 s4 y4 s6 y6)
        replace call := Lib.hid call
        clear hZ hpos hpos' hAt hAt' g6 g7 g8 g9 f6 f7 f8 f9 s1 s2 s3 s4 s5 s6 y1 y2 y3 y4 y5 y6 hbs hes ha ha' eL eM HA
        generalize hQ : eq1 k a b t i body els k' a' b' t' i' body' els' = Q at call hStep
        clear hQ
        cases Q
        all_goals
          go_wp2_with fail
          go_still_tail 8, (by kernel_rfl)
          change wpList _ _ _ _ _ wr.drew
          have hBd := hB.drew
          have hBr := (Below.refl wr.heap.size wr).drew
          clear hB p0 p1 p2 p3 p4 p5 p6 p7 p8 p9 r0 r1 r2 r3 r4 r5 r6 r7 r8 r9
          generalize wr.drew = wd at *
          go_wp2_with (go_at_call 80; refine (call.out _ hBr).mono ?_; rintro e w' ⟨rfl, hB2⟩)
        · go_ret
          exact ⟨ret_bool (by rw [hStep.out]; rfl), bgo hBd hB2⟩
        · go_round
          case rel => exact ⟨j + 1, by omega, by go_num, by show _ = _; rw [hStep.out]; rfl, bgo hBd hB2⟩
          case measure => simp [intOf]; omega
      · go_wp2
        go_ret
        obtain rfl : j = n := by omega
        have e1 : L.drop j = .nil := by rw [hn.out]; exact Cms.drop_all L
        have e2 : M.drop j = .nil := by rw [hn'.out]; exact Cms.drop_all M
        exact ⟨ret_bool (by rw [HA.out, e1, e2]; simp), hB⟩
--@
end Go.Proofs.Ytcgifoghggajgaa

/- Programs: the small tests. -/
namespace Go.Proofs.Ytcgifoghggajgaa
open Go Go.RowKit Go.Proofs

def noAsn (i : Asn) : Bool := decide (i.facts.length = 0) && decide (i.atoms.length = 0)
def noFct (t : Fct) : Bool := decide (t = ⟨false, 0, 0⟩)
def basicB (k : Int) : Bool := decide (1 ≤ k ∧ k ≤ 5)
--@ spec.l8NoInv
set_option maxHeartbeats 1600000 in
theorem c_spec_l8NoInv (A1 A2 : Option Addr) (c1 c2 : Nat) (i : Asn) (w : World) (h1 : i.facts.length ≤ 1049600) (h2 : i.atoms.length ≤ 1049600) : Calls Try.prog 206 #[.agg #[.slice A1 i.facts.length c1, .slice A2 i.atoms.length c2]] w fun e w' => e = .returned (.bool (noAsn i)) ∧ Below w.heap.size w w' := by
  obtain ⟨R, hR⟩ : ∃ R, R = noAsn i := ⟨_, rfl⟩
  rw [← hR]
  unfold noAsn at hR
  replace hR := Lib.hid hR
  by_cases q1 : i.facts.length = 0
  all_goals by_cases q2 : i.atoms.length = 0
  all_goals
    go_enter Try.func206, Try.ntmps206
    go_wp2
    go_ret
    exact ⟨ret_bool (by rw [hR.out]; simp_all), bel⟩
--@ impl.noAssertion
set_option maxHeartbeats 1600000 in
theorem c_impl_noAssertion (A1 A2 : Option Addr) (c1 c2 : Nat) (i : Asn) (w : World) (h1 : i.facts.length ≤ 1049600) (h2 : i.atoms.length ≤ 1049600) : Calls Try.prog 211 #[.agg #[.slice A1 i.facts.length c1, .slice A2 i.atoms.length c2]] w fun e w' => e = .returned (.bool (noAsn i)) ∧ Below w.heap.size w w' := by
  obtain ⟨R, hR⟩ : ∃ R, R = noAsn i := ⟨_, rfl⟩
  rw [← hR]
  unfold noAsn at hR
  replace hR := Lib.hid hR
  by_cases q1 : i.facts.length = 0
  all_goals by_cases q2 : i.atoms.length = 0
  all_goals
    go_enter Try.func211, Try.ntmps211
    go_wp2
    go_ret
    exact ⟨ret_bool (by rw [hR.out]; simp_all), bel⟩
--@ spec.l8NoFact
set_option maxHeartbeats 1600000 in
theorem c_spec_l8NoFact (t : Fct) (w : World) : Calls Try.prog 244 #[t.val] w fun e w' => e = .returned (.bool (noFct t)) ∧ Below w.heap.size w w' := by
  obtain ⟨q, a, b⟩ := t
  go_enter Try.func244, Try.ntmps244
  go_wp2
  all_goals
    go_ret
    exact ⟨ret_bool (by simp_all [noFct]), bel⟩
--@ (impl.Cmd).isBasic
set_option maxHeartbeats 1600000 in
theorem c_impl_isBasic (k a b : Int) (t : Fct) (vF vA vB vE : Value) (w : World) : Calls Try.prog 210 #[.agg #[.int .i64 k, .int .i64 a, .int .i64 b, .bool t.eq, .int .i64 t.a, .int .i64 t.b, vF, vA, vB, vE]] w fun e w' => e = .returned (.bool (basicB k)) ∧ Below w.heap.size w w' := by
  by_cases h : 1 ≤ k
  · by_cases h2 : k ≤ 5
    all_goals
      go_enter Try.func210, Try.ntmps210
      go_wp2
      go_ret
      exact ⟨ret_bool (by simp [basicB, h, h2]), bel⟩
  · go_enter Try.func210, Try.ntmps210
    go_wp2
    go_ret
    exact ⟨ret_bool (by simp [basicB]; omega), bel⟩
--@
end Go.Proofs.Ytcgifoghggajgaa

/- The spec's joined assertions. -/
namespace Go.Proofs.Ytcgifoghggajgaa
open Go Go.RowKit Go.Proofs
attribute [local go_sem ↓] Go.wp_at_zero Go.wp_at_succ

--@ spec.l3Star
set_option maxRecDepth 100000 in
set_option maxHeartbeats 1600000 in
theorem c_spec_l3Star {lo hi lo' hi' : Nat} (v v' : Value) (a b : Asn) (w : World) (h : AsnV w lo hi v a) (h' : AsnV w lo' hi' v' b) (hn1 : a.facts.length + b.facts.length ≤ 1049600) (hn2 : a.atoms.length + b.atoms.length ≤ 1049600) :
    Calls Try.prog 201 #[v, v'] w fun e w' => ∃ r, e = .returned r ∧ AsnO w' w.heap.size r (starA a b) ∧ Below w.heap.size w w' := by
  obtain ⟨A1, c1, A2, c2, rfl, h1, h2⟩ := h
  obtain ⟨A3, c3, A4, c4, rfl, h3, h4⟩ := h'
  go_enter Try.func201, Try.ntmps201
  have kk := blk3 w 48 48 48 #[.slice A1 a.facts.length c1, .slice A2 a.atoms.length c2] #[.slice A3 b.facts.length c3, .slice A4 b.atoms.length c4] #[.slice none 0 0, .slice none 0 0]
  have hB : Below w.heap.size w (((w.alloc (.cells #[.slice A1 a.facts.length c1, .slice A2 a.atoms.length c2] 48)).alloc (.cells #[.slice A3 b.facts.length c3, .slice A4 b.atoms.length c4] 48)).alloc (.cells #[.slice none 0 0, .slice none 0 0] 48)) := bel
  obtain ⟨k0, k1, k2⟩ := kk
  go_wp2_with fail
  have hz := k2.lt
  generalize (((w.alloc (.cells #[.slice A1 a.facts.length c1, .slice A2 a.atoms.length c2] 48)).alloc (.cells #[.slice A3 b.facts.length c3, .slice A4 b.atoms.length c4] 48)).alloc (.cells #[.slice none 0 0, .slice none 0 0] 48)) = W at k0 k1 k2 hB hz ⊢
  have tok3 : True := trivial
  have tok6 : True := trivial
  have tok10 : True := trivial
  have tok13 : True := trivial
  go_region_held3 (fun w' => (∀ i, w'.cell? ⟨w.heap.size, i, none⟩ = #[.slice A1 a.facts.length c1, .slice A2 a.atoms.length c2][i]?) ∧ (∀ i, w'.cell? ⟨w.heap.size + 1, i, none⟩ = #[.slice A3 b.facts.length c3, .slice A4 b.atoms.length c4][i]?))
    (exact ⟨Blk.cell blks, Blk.cell blks⟩)
    (first
      | (have _t := tok3; clear _t tok3; refine stepFL (xs := []) rfl _ _ rfl rfl (FactsO.ofBlk (base := w.heap.size) blks (by first | omega | (simp; omega))) rfl (h1.below bel) (by first | omega | (simp; omega)) (by first | omega | (simp; omega)) ?_; intro F1 e1 w1 hO1 hg1 hB1; have hBw1 : Below w.heap.size w w1 := Below.trans bel hB1; simp only [List.nil_append] at hO1; have m10 := Blk.grownO (g := w.heap.size) (hg := hg1) blks (FactsO.ofBlk (base := w.heap.size) blks (by first | omega | (simp; omega))).1 (by decide); have m11 := Blk.grownO (g := w.heap.size + 1) (hg := hg1) blks (FactsO.ofBlk (base := w.heap.size) blks (by first | omega | (simp; omega))).1 (by decide); have m12 := Blk.grownO (g := w.heap.size + 1 + 1) (hg := hg1) blks (FactsO.ofBlk (base := w.heap.size) blks (by first | omega | (simp; omega))).1 (by decide); have lt1 := m12.lt; (try (have za : Blk w1 (W.heap.size + 1) tA #[] := ?zz; case zz => (refine Blk.grownO (hg := hg1) ?_ (FactsO.ofBlk (base := w.heap.size) blks (by first | omega | (simp; omega))).1 (by decide); (repeat (first | (with_reducible assumption) | (with_reducible exact Blk.new _ _ _) | ((with_reducible apply Blk.far); (case hp => (first | exact Nat.le_refl _ | (simp; done) | (simp; omega) | (simp only; omega) | omega))) | (with_reducible apply Blk.set_) | ((with_reducible refine Blk.newE ?_); (simp; done)) | (with_reducible apply Blk.alloc) | (with_reducible apply Blk.drew) | (with_reducible apply Blk.drewN))); done))); (try (have za : Blk w1 W.heap.size tA #[] := ?zz; case zz => (refine Blk.grownO (hg := hg1) ?_ (FactsO.ofBlk (base := w.heap.size) blks (by first | omega | (simp; omega))).1 (by decide); (repeat (first | (with_reducible assumption) | (with_reducible exact Blk.new _ _ _) | ((with_reducible apply Blk.far); (case hp => (first | exact Nat.le_refl _ | (simp; done) | (simp; omega) | (simp only; omega) | omega))) | (with_reducible apply Blk.set_) | ((with_reducible refine Blk.newE ?_); (simp; done)) | (with_reducible apply Blk.alloc) | (with_reducible apply Blk.drew) | (with_reducible apply Blk.drewN))); done))))
      | (have _t := tok6; clear _t tok6; refine stepFL (xs := a.facts) rfl _ _ rfl rfl (FactsO.below (w := w1) hO1 bel) rfl (h3.below bel) (by first | omega | (simp; omega)) (by first | omega | (simp; omega)) ?_; intro F2 e2 w2 hO2 hg2 hB2; have hBw2 : Below w.heap.size w w2 := Below.trans bel hB2; have m20 := Blk.grownO (g := w.heap.size) (hg := hg2) blks (FactsO.below (w := w1) hO1 bel).1 (by decide); have m21 := Blk.grownO (g := w.heap.size + 1) (hg := hg2) blks (FactsO.below (w := w1) hO1 bel).1 (by decide); have m22 := Blk.grownO (g := w.heap.size + 1 + 1) (hg := hg2) blks (FactsO.below (w := w1) hO1 bel).1 (by decide); have lt2 := m22.lt; (try (have zb : Blk w2 w1.heap.size tA #[] := ?zz; case zz => (refine Blk.grownO (hg := hg2) ?_ (FactsO.below (w := w1) hO1 bel).1 (by decide); (repeat (first | (with_reducible assumption) | (with_reducible exact Blk.new _ _ _) | ((with_reducible apply Blk.far); (case hp => (first | exact Nat.le_refl _ | (simp; done) | (simp; omega) | (simp only; omega) | omega))) | (with_reducible apply Blk.set_) | ((with_reducible refine Blk.newE ?_); (simp; done)) | (with_reducible apply Blk.alloc) | (with_reducible apply Blk.drew) | (with_reducible apply Blk.drewN))); done))); (try (have zb := Blk.grownO (hg := hg2) (Blk.next za bel) (FactsO.below (w := w1) hO1 bel).1 (by decide))))
      | (have _t := tok10; clear _t tok10; refine stepAL (xs := []) rfl _ _ rfl rfl (AtomsO.ofBlk (base := w.heap.size) blks (by first | omega | (simp; omega))) rfl (h2.below bel) (by first | omega | (simp; omega)) (by first | omega | (simp; omega)) ?_; intro F3 e3 w3 hO3 hg3 hB3; have hBw3 : Below w.heap.size w w3 := Below.trans bel hB3; simp only [List.nil_append] at hO3; have m30 := Blk.grownO (g := w.heap.size) (hg := hg3) blks (AtomsO.ofBlk (base := w.heap.size) blks (by first | omega | (simp; omega))).1 (by decide); have m31 := Blk.grownO (g := w.heap.size + 1) (hg := hg3) blks (AtomsO.ofBlk (base := w.heap.size) blks (by first | omega | (simp; omega))).1 (by decide); have m32 := Blk.grownO (g := w.heap.size + 1 + 1) (hg := hg3) blks (AtomsO.ofBlk (base := w.heap.size) blks (by first | omega | (simp; omega))).1 (by decide); have lt3 := m32.lt; have hP3 := FactsO.grownA (FactsO.below (w := w2) hO2 bel) (AtomsO.ofBlk (base := w.heap.size) blks (by first | omega | (simp; omega))) hg3)
      | (have _t := tok13; clear _t tok13; refine stepAL (xs := a.atoms) rfl _ _ rfl rfl (AtomsO.below (w := w3) hO3 bel) rfl (h4.below bel) (by first | omega | (simp; omega)) (by first | omega | (simp; omega)) ?_; intro F4 e4 w4 hO4 hg4 hB4; have hBw4 : Below w.heap.size w w4 := Below.trans bel hB4; have m40 := Blk.grownO (g := w.heap.size) (hg := hg4) blks (AtomsO.below (w := w3) hO3 bel).1 (by decide); have m41 := Blk.grownO (g := w.heap.size + 1) (hg := hg4) blks (AtomsO.below (w := w3) hO3 bel).1 (by decide); have m42 := Blk.grownO (g := w.heap.size + 1 + 1) (hg := hg4) blks (AtomsO.below (w := w3) hO3 bel).1 (by decide); have lt4 := m42.lt; have hP4 := FactsO.grownA (FactsO.below (w := w3) hP3 bel) (AtomsO.below (w := w3) hO3 bel) hg4; have c42 := m42.cell; have f42 := m42.frozen))
  all_goals
    go_wp2_with fail
    refine bodyPost_ret (v := .agg #[.slice F2 (a.facts ++ b.facts).length e2, .slice F4 (a.atoms ++ b.atoms).length e4]) (by simp [results, Try.results201, go_sem, c42]) rfl ⟨_, rfl, ⟨_, _, rfl, ?_, ?_⟩, bel⟩
    · exact (hP4.setT m42 (by decide) _ _).setT (m42.set_ _ _) (by decide) _ _
    · exact (hO4.setT m42 (by decide) _ _).setT (m42.set_ _ _) (by decide) _ _
end Go.Proofs.Ytcgifoghggajgaa

/- Programs: marks. -/
namespace Go.Proofs.Ytcgifoghggajgaa
open Go Go.RowKit Go.Proofs

/-- how many marks a program takes -/
def Cms.marks : Cms → Nat
  | .nil => 0
  | .cons _ _ _ _ i body els r => 6 + 3 * i.facts.length + 3 * i.atoms.length + body.marks + els.marks + r.marks
theorem Cms.marks_le : ∀ (L : Cms), L.marks ≤ 6 * (L.len + L.cost)
  | .nil => by simp [Cms.marks]
  | .cons k a b t i body els r => by
    have h1 := Cms.marks_le body
    have h2 := Cms.marks_le els
    have h3 := Cms.marks_le r
    simp only [Cms.marks, Cms.len, Cms.cost]
    omega
--@ laws.markCmdS
def set6 (w : World) (g o : Nat) (u0 u1 u2 u3 u4 u5 : Value) : World := (((((w.setCell ⟨g, o, none⟩ u0).setCell ⟨g, o + 1, none⟩ u1).setCell ⟨g, o + 2, none⟩ u2).setCell ⟨g, o + 3, none⟩ u3).setCell ⟨g, o + 3 + 1, none⟩ u4).setCell ⟨g, o + 3 + 2, none⟩ u5
theorem six {w : World} {g : Nat} {cs : Array Value} (h : Blk w g tC cs) (o : Nat) (u0 u1 u2 u3 u4 u5 : Value) : Mk (fun x => g ≤ x ∧ x < g + 1) w (set6 w g o u0 u1 u2 u3 u4 u5) ∧ ∃ cs', Blk (set6 w g o u0 u1 u2 u3 u4 u5) g tC cs' ∧ cs'.size = cs.size ∧ ∀ x, o + 6 ≤ x → cs'[x]? = cs[x]? := by
  refine ⟨Mk.set (Mk.set (Mk.set (Mk.set (Mk.set (Mk.set (Mk.refl _ _) ⟨by simp, by simp⟩ _) ⟨by simp, by simp⟩ _) ⟨by simp, by simp⟩ _) ⟨by simp, by simp⟩ _) ⟨by simp, by simp⟩ _) ⟨by simp, by simp⟩ _, _, (((((h.set_ o u0).set_ (o + 1) u1).set_ (o + 2) u2).set_ (o + 3) u3).set_ (o + 3 + 1) u4).set_ (o + 3 + 2) u5, by simp, fun x hx => ?_⟩
  iterate 6 rw [Array.getElem?_setIfInBounds_ne (by omega)]
set_option maxRecDepth 100000 in
set_option maxHeartbeats 6400000 in
theorem markCmdS_go : ∀ (N : Nat) (L : Cms), L.sz < N → ∀ (lo hi : Nat) (v : Value) (k0 : Int) (w : World), CmsO w lo hi v L → 0 ≤ k0 → k0 + L.marks ≤ 549755813888 →
    Calls Try.prog 21 #[v, .int .i64 k0] w fun e w' => e = .returned (.int .i64 (k0 + L.marks)) ∧ Mk (fun g => lo ≤ g ∧ g < hi) w w' := by
  intro N
  induction N with
  | zero => intro L h; omega
  | succ N IH =>
    intro L hsz lo hi v k0 w hO h0 h1
    replace IH := Lib.hid IH
    replace hsz := Lib.hid hsz
    obtain ⟨g, cs0, rfl, hlo, hK0, hs0, hlen, hC0⟩ := hO
    have hghi : g < hi := hC0.le
    obtain ⟨n, hn⟩ : ∃ n, n = L.len := ⟨_, rfl⟩
    obtain ⟨tot, htot⟩ : ∃ tot, tot = L.marks := ⟨_, rfl⟩
    rw [← hn] at hlen hs0 ⊢
    rw [← htot] at h1 ⊢
    replace hn := Lib.hid hn
    replace htot := Lib.hid htot
    replace hC0 := Lib.hid hC0
    replace hs0 := Lib.hid hs0
    go_enter Try.func21, Try.ntmps21
    go_wp2_with fail
    go_loopw [1, 5] (fun x i wr => ∃ (j m lo1 : Nat) (cs : Array Value), j ≤ n ∧ i = .int .i64 j ∧ x = .int .i64 (k0 + m) ∧ Hid (m + (L.drop j).marks = tot) ∧ m ≤ tot ∧ Hid (cs.size = n * 10) ∧ Blk wr g tC cs ∧ g + 1 ≤ lo1 ∧ Hid (CmsOAt wr (L.drop j) cs (j * 10) lo1 hi) ∧ Mk (fun g => lo ≤ g ∧ g < hi) w wr) (fun _ i _ => n - (intOf i).toNat)
    case atStart => exact ⟨0, 0, g + 1, cs0, Nat.zero_le _, rfl, by simp, Lib.hid (by rw [htot.out]; simp [Cms.drop]), Nat.zero_le _, hs0, hK0, Nat.le_refl _, Lib.hid (by simpa [Cms.drop] using hC0.out), Mk.refl _ _⟩
    case round =>
      obtain ⟨j, m, lo1, cs, hj, rfl, rfl, hM, hmt, HS, hK, hlo1, HC, hMk⟩ := hrel
      clear hK0
      by_cases hlt : j < n
      · have hpos : 0 < (L.drop j).len := by rw [Cms.drop_len, ← hn.out]; omega
        obtain ⟨k, a, b, t, i, body, els, r, eL⟩ := Cms.cons_of_len hpos
        have hD := HC.out
        have hZ := Cms.sz_drop j L
        have hDs := Cms.drop_succ j L eL
        have hM' := hM.out
        rw [eL] at hD hZ hM'
        obtain ⟨vF, vA, gB, gE, csB, csE, m1, m2, m3, ⟨t0, t1, t2, t3, t4, t5, t6, t7, t8, t9⟩, ⟨e1, fv, av, ef, xF, xA⟩, xB, xE, xr⟩ := hD
        injection ef with ef; injection ef with ef; injection ef with ef ea; injection ea with ea
        subst ef ea
        have hd := xF.1.ne_atoms xA.1
        obtain ⟨AF, cF, rfl⟩ := xF.form
        obtain ⟨AA, cA, rfl⟩ := xA.form
        have lF : i.facts.length ≤ 1049600 := xF.1.2
        have lA : i.atoms.length ≤ 1049600 := xA.1.2
        have xB : CmsO wr m1 m2 (.slice (some ⟨gB, 0, none⟩) body.len body.len) body := ⟨gB, csB, rfl, xB⟩
        have xE : CmsO wr m2 m3 (.slice (some ⟨gE, 0, none⟩) els.len els.len) els := ⟨gE, csE, rfl, xE⟩
        have i1 : m1 ≤ m2 := by obtain ⟨_, _, _, z1, _, _, _, z2⟩ := xB; have := z2.le; omega
        have i2 : m2 ≤ m3 := by obtain ⟨_, _, _, z1, _, _, _, z2⟩ := xE; have := z2.le; omega
        have i3 : m3 ≤ hi := xr.le
        simp only [Cms.sz] at hZ
        have hbs : body.sz < N := by have := hsz.out; omega
        have hes : els.sz < N := by have := hsz.out; omega
        simp only [Cms.marks] at hM'
        have c0 : wr.cell? ⟨g, j * 10, none⟩ = some (.int .i64 k) := by rw [hK.cell, t0]
        have c1 : wr.cell? ⟨g, j * 10 + 1, none⟩ = some (.int .i64 a) := by rw [hK.cell, t1]
        have c2 : wr.cell? ⟨g, j * 10 + 2, none⟩ = some (.int .i64 b) := by rw [hK.cell, t2]
        have c3 : wr.cell? ⟨g, j * 10 + 3, none⟩ = some (.bool t.eq) := by rw [hK.cell, t3]
        have c4 : wr.cell? ⟨g, j * 10 + 4, none⟩ = some (.int .i64 t.a) := by rw [hK.cell, t4]
        have c5 : wr.cell? ⟨g, j * 10 + 5, none⟩ = some (.int .i64 t.b) := by rw [hK.cell, t5]
        have c6 : wr.cell? ⟨g, j * 10 + 6, none⟩ = some (.slice AF i.facts.length cF) := by rw [hK.cell, t6]
        have c7 : wr.cell? ⟨g, j * 10 + 7, none⟩ = some (.slice AA i.atoms.length cA) := by rw [hK.cell, t7]
        have c8 : wr.cell? ⟨g, j * 10 + 8, none⟩ = some (.slice (some ⟨gB, 0, none⟩) body.len body.len) := by rw [hK.cell, t8]
        have c9 : wr.cell? ⟨g, j * 10 + 9, none⟩ = some (.slice (some ⟨gE, 0, none⟩) els.len els.len) := by rw [hK.cell, t9]
        have r2 := hK.frozen
        replace hbs := Lib.hid hbs
        replace hes := Lib.hid hes
        replace hd := Lib.hid hd
        replace xF := Lib.hid xF
        replace xA := Lib.hid xA
        replace xB := Lib.hid xB
        replace xE := Lib.hid xE
        replace xr := Lib.hid xr
        replace hDs := Lib.hid hDs
        replace hM' := Lib.hid hM'
        replace t7 := Lib.hid t7
        replace t8 := Lib.hid t8
        replace t9 := Lib.hid t9
        clear hZ hpos eL t0 t1 t2 t3 t4 t5 t6 hM HC
        have q1 : k0 + m + 6 ≤ 549755813888 := by have := hM'.out; omega
        go_wp2_with fail
        have hsix := six hK (j * 10) (.int .i64 (k0 + m)) (.int .i64 (k0 + m + 1)) (.int .i64 (k0 + m + 1 + 1)) (.bool ((k0 + m + 1 + 1 + 1) % 3 == 0)) (.int .i64 (k0 + m + 1 + 1 + 1 + 1)) (.int .i64 (k0 + m + 1 + 1 + 1 + 1 + 1))
        change Calls _ _ _ (set6 wr g (j * 10) (.int .i64 (k0 + m)) (.int .i64 (k0 + m + 1)) (.int .i64 (k0 + m + 1 + 1)) (.bool ((k0 + m + 1 + 1 + 1) % 3 == 0)) (.int .i64 (k0 + m + 1 + 1 + 1 + 1)) (.int .i64 (k0 + m + 1 + 1 + 1 + 1 + 1))) _
        generalize set6 wr g (j * 10) (.int .i64 (k0 + m)) (.int .i64 (k0 + m + 1)) (.int .i64 (k0 + m + 1 + 1)) (.bool ((k0 + m + 1 + 1 + 1) % 3 == 0)) (.int .i64 (k0 + m + 1 + 1 + 1 + 1)) (.int .i64 (k0 + m + 1 + 1 + 1 + 1 + 1)) = V at hsix ⊢
        obtain ⟨M6, cs', hKV, hsz', hfar⟩ := hsix
        replace hfar := Lib.hid hfar
        replace hsz' := Lib.hid hsz'
        clear c0 c1 c2 c3 c4 c5 c6 c7 c8 c9 r2 hK
        have b1 := hM'.out
        refine (c_markFactS _ i.facts _ lo1 V (xF.out.mk M6 (by omega)).1 (by omega) (by omega)).mono ?_
        rintro e w1 ⟨rfl, -, hM1⟩
        have hM1' : Mk (fun x => lo1 ≤ x ∧ x < m1) V w1 := hM1.mono fun x e => ⟨(xF.out.1.1.lt x e).1, xF.out.2 x e⟩
        have hK1 := hM1'.blk hKV (by omega)
        have oA := ((xA.out.mk M6 (by omega)).1.mk hM1 (fun x e1 e2 => hd.out x e2 e1))
        have MA : Mk (fun x => g ≤ x ∧ x < m1) wr w1 := (M6.mono fun x hx => by omega).trans (hM1'.mono fun x hx => by omega)
        clear hM1 hM1' hKV M6
        replace oA := Lib.hid oA
        replace MA := Lib.hid MA
        have c7 : w1.cell? ⟨g, j * 10 + 7, none⟩ = some (.slice AA i.atoms.length cA) := by rw [hK1.cell, hfar.out _ (by omega), t7.out]
        go_wp2_with fail
        have b1 := hM'.out
        refine (c_markAtomS _ i.atoms _ lo1 w1 oA.out (by omega) (by omega)).mono ?_
        rintro e w2 ⟨rfl, -, hM2⟩
        have hM2' : Mk (fun x => lo1 ≤ x ∧ x < m1) w1 w2 := hM2.mono fun x e => ⟨(xA.out.1.1.lt x e).1, xA.out.2 x e⟩
        have hK2 := hM2'.blk hK1 (by omega)
        have MB : Mk (fun x => g ≤ x ∧ x < m1) wr w2 := MA.out.trans (hM2'.mono fun x hx => by omega)
        clear hM2 hM2' c7 oA
        replace MB := Lib.hid MB
        have c8 : w2.cell? ⟨g, j * 10 + 8, none⟩ = some (.slice (some ⟨gB, 0, none⟩) body.len body.len) := by rw [hK2.cell, hfar.out _ (by omega), t8.out]
        go_wp2_with fail
        have b1 := hM'.out
        refine (IH.out body hbs.out m1 m2 _ _ w2 (xB.out.mk MB.out (by omega)) (by omega) (by omega)).mono ?_
        rintro e w3 ⟨rfl, hM3⟩
        have hK3 := hM3.blk hK2 (by omega)
        have MC : Mk (fun x => g ≤ x ∧ x < m2) wr w3 := (MB.out.mono fun x hx => by omega).trans (hM3.mono fun x hx => by omega)
        clear hM3 c8
        replace MC := Lib.hid MC
        have c9 : w3.cell? ⟨g, j * 10 + 9, none⟩ = some (.slice (some ⟨gE, 0, none⟩) els.len els.len) := by rw [hK3.cell, hfar.out _ (by omega), t9.out]
        go_wp2_with fail
        have b1 := hM'.out
        refine (IH.out els hes.out m2 m3 _ _ w3 (xE.out.mk MC.out (by omega)) (by omega) (by omega)).mono ?_
        rintro e w4 ⟨rfl, hM4⟩
        have hK4 := hM4.blk hK3 (by omega)
        have MD : Mk (fun x => g ≤ x ∧ x < m3) wr w4 := (MC.out.mono fun x hx => by omega).trans (hM4.mono fun x hx => by omega)
        clear hM4 c9
        replace MD := Lib.hid MD
        go_wp2_with fail
        have b1 := hM'.out
        go_round
        case rel =>
          refine ⟨j + 1, m + 6 + 3 * i.facts.length + 3 * i.atoms.length + body.marks + els.marks, m3, cs', by omega, by go_num, by push_cast; congr 1; omega, Lib.hid (by rw [hDs.out]; omega), by omega, Lib.hid (by rw [hsz'.out, HS.out]), hK4, by omega, Lib.hid ?_, hMk.trans (MD.out.mono fun x hx => by omega)⟩
          rw [hDs.out, show (j + 1) * 10 = j * 10 + 10 from by omega]
          exact (xr.out.mk MD.out (by omega)).cells fun x z1 z2 => hfar.out x (by omega)
        case measure => simp [intOf]; omega
      · go_wp2_with fail
        go_ret
        obtain rfl : j = n := by omega
        have e1 : L.drop j = .nil := by rw [hn.out]; exact Cms.drop_all L
        have h2 := hM.out
        rw [e1] at h2
        simp only [Cms.marks, Nat.add_zero] at h2
        subst h2
        exact ⟨rfl, hMk⟩
--@
end Go.Proofs.Ytcgifoghggajgaa
