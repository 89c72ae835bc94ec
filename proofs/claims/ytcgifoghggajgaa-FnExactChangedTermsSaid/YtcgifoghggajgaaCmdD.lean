/- Programs: the laws' copies of whole lists. -/
import Derived.Test.YtcgifoghggajgaaCmdC
set_option linter.unusedSimpArgs false
set_option linter.unusedVariables false
namespace Go.Proofs.Ytcgifoghggajgaa
open Go Go.RowKit Go.Proofs

def Cms.take : Nat → Cms → Cms
  | 0, _ => .nil
  | _ + 1, .nil => .nil
  | n + 1, .cons k a b t i body els r => .cons k a b t i body els (r.take n)
theorem Cms.take_all : ∀ (L : Cms), L.take L.len = L
  | .nil => rfl
  | .cons k a b t i body els r => by simp only [Cms.len, Cms.take]; rw [Cms.take_all r]
theorem Cms.take_len : ∀ (n : Nat) (L : Cms), n ≤ L.len → (L.take n).len = n
  | 0, L, _ => by cases L <;> rfl
  | n + 1, .nil, h => by simp [Cms.len] at h
  | n + 1, .cons k a b t i body els r, h => by simp only [Cms.len, Cms.take] at h ⊢; rw [Cms.take_len n r (by omega)]
--@ []impl.Cmd
section
variable {w w' : World}
theorem CmsOAt.lo_ {lo lo' hi o : Nat} {cs : Array Value} : ∀ {L : Cms}, lo' ≤ lo → CmsOAt w L cs o lo hi → CmsOAt w L cs o lo' hi
  | .nil, e, h => Nat.le_trans e h
  | .cons k a b t i body els r, e, h => by
    obtain ⟨vF, vA, gB, gE, csB, csE, m1, m2, m3, hT, ⟨h1, h1'⟩, h⟩ := h
    exact ⟨vF, vA, gB, gE, csB, csE, m1, m2, m3, hT, ⟨by omega, h1'.lo_ e⟩, h⟩
/-- one more command behind the others -/
theorem CmsOAt.snoc {cs : Array Value} {m hi : Nat} {k a b : Int} {t : Fct} {i : Asn} {body els r : Cms} : ∀ {L : Cms} {j o lo : Nat}, CmsOAt w (L.take j) cs o lo m → L.drop j = .cons k a b t i body els r →
    CmsOAt w (.cons k a b t i body els .nil) cs (o + j * 10) m hi → CmsOAt w (L.take (j + 1)) cs o lo hi
  | .nil, 0, o, lo, _, h2, _ => by cases h2
  | .nil, _ + 1, o, lo, _, h2, _ => by cases h2
  | .cons k' a' b' t' i' body' els' r', 0, o, lo, h1, h2, h3 => by
    simp only [Cms.drop] at h2
    injection h2 with e1 e2 e3 e4 e5 e6 e7 e8
    subst e1 e2 e3 e4 e5 e6 e7 e8
    have h4 : lo ≤ m := by simpa [Cms.take, CmsOAt] using h1
    simp only [Nat.zero_mul, Nat.add_zero] at h3
    have := h3.lo_ h4
    simpa only [Cms.take] using this
  | .cons k' a' b' t' i' body' els' r', j + 1, o, lo, h1, h2, h3 => by
    simp only [Cms.drop] at h2
    simp only [Cms.take] at h1 ⊢
    obtain ⟨vF, vA, gB, gE, csB, csE, m1, m2, m3, hT, p1, p2, p3, p4⟩ := h1
    exact ⟨vF, vA, gB, gE, csB, csE, m1, m2, m3, hT, p1, p2, p3, CmsOAt.snoc p4 h2 (by rwa [show o + 10 + j * 10 = o + (j + 1) * 10 from by omega])⟩
def put10 (cs : Array Value) (o : Nat) (v0 v1 v2 v3 v4 v5 v6 v7 v8 v9 : Value) : Array Value := ((((((((((cs).setIfInBounds (o) v0).setIfInBounds (o + 1) v1).setIfInBounds (o + 2) v2).setIfInBounds (o + 3) v3).setIfInBounds (o + 4) v4).setIfInBounds (o + 5) v5).setIfInBounds (o + 6) v6).setIfInBounds (o + 7) v7).setIfInBounds (o + 8) v8).setIfInBounds (o + 9) v9
theorem put10_size {cs : Array Value} {o : Nat} {v0 v1 v2 v3 v4 v5 v6 v7 v8 v9 : Value} : (put10 cs o v0 v1 v2 v3 v4 v5 v6 v7 v8 v9).size = cs.size := by simp [put10]
theorem put10_far {cs : Array Value} {o : Nat} {v0 v1 v2 v3 v4 v5 v6 v7 v8 v9 : Value} {j : Nat} (h : j < o) : (put10 cs o v0 v1 v2 v3 v4 v5 v6 v7 v8 v9)[j]? = cs[j]? := by
  unfold put10
  iterate 10 rw [Array.getElem?_setIfInBounds_ne (by omega)]
theorem put10_ten {cs : Array Value} {o : Nat} (h : o + 10 ≤ cs.size) (k a b : Int) (t : Fct) (vF vA vB vE : Value) : Ten (put10 cs o (.int .i64 k) (.int .i64 a) (.int .i64 b) (.bool t.eq) (.int .i64 t.a) (.int .i64 t.b) vF vA vB vE) o k a b t vF vA vB vE := by
  have h1 : o < cs.size ∧ o + 1 < cs.size ∧ o + 2 < cs.size ∧ o + 3 < cs.size ∧ o + 4 < cs.size ∧ o + 5 < cs.size ∧ o + 6 < cs.size ∧ o + 7 < cs.size ∧ o + 8 < cs.size ∧ o + 9 < cs.size := by omega
  obtain ⟨p0, p1, p2, p3, p4, p5, p6, p7, p8, p9⟩ := h1
  unfold Ten put10
  refine ⟨?_, ?_, ?_, ?_, ?_, ?_, ?_, ?_, ?_, ?_⟩ <;> simp [Array.getElem?_setIfInBounds, p0, p1, p2, p3, p4, p5, p6, p7, p8, p9]
theorem Blk.put10 {g : Nat} {t : TypeId} {cs : Array Value} (h : Blk w g t cs) (o : Nat) (v0 v1 v2 v3 v4 v5 v6 v7 v8 v9 : Value) : Blk (((((((((((w).setCell ⟨g, o, none⟩ v0).setCell ⟨g, o + 1, none⟩ v1).setCell ⟨g, o + 2, none⟩ v2).setCell ⟨g, o + 3, none⟩ v3).setCell ⟨g, o + 4, none⟩ v4).setCell ⟨g, o + 5, none⟩ v5).setCell ⟨g, o + 6, none⟩ v6).setCell ⟨g, o + 7, none⟩ v7).setCell ⟨g, o + 8, none⟩ v8).setCell ⟨g, o + 9, none⟩ v9) g t (Go.Proofs.Ytcgifoghggajgaa.put10 cs o v0 v1 v2 v3 v4 v5 v6 v7 v8 v9) :=
  ((((((((((h).set_ (o) v0).set_ (o + 1) v1).set_ (o + 2) v2).set_ (o + 3) v3).set_ (o + 4) v4).set_ (o + 5) v5).set_ (o + 6) v6).set_ (o + 7) v7).set_ (o + 8) v8).set_ (o + 9) v9
theorem mkC (n : Nat) (h : Lim n) (w : World) : (Instr.makeSlice 26 (.int .i64 (n : Int)) (.int .i64 (n : Int))).run Try.prog w = .ok (.slice (some ⟨w.heap.size, 0, none⟩) n n) (w.alloc (.cells (madeCells #[.int .i64 0, .int .i64 0, .int .i64 0, .bool false, .int .i64 0, .int .i64 0, .slice none 0 0, .slice none 0 0, .slice none 0 0, .slice none 0 0] (n * 10)) tC)) := by
  obtain ⟨i, hi, hz, hs, hb⟩ := info_parts infoC
  have := run_make_rowN (P := Try.prog) 26 tC i _ Try.underlying26 hi hz .i64 .i64 n n (Nat.le_refl _) (by rw [hb]; unfold Lim at h; omega) (by unfold Lim at h; omega) w
  rwa [hs] at this
end

--@ laws.toCmdS
set_option maxHeartbeats 3200000 in
theorem toCmdS_go : ∀ (N : Nat) (L : Cms), L.sz < N → ∀ (A : Option Addr) (c : Nat) (w : World) (lo hi : Nat), CmsV w lo hi A L → L.len ≤ 1049600 → L.small 1049600 →
    Calls Try.prog 17 #[.slice A L.len c] w fun e w' => ∃ v, e = .returned v ∧ CmsO w' w.heap.size w'.heap.size v L ∧ Below w.heap.size w w' := by
  intro N
  induction N with
  | zero => intro L h; omega
  | succ N IH =>
    intro L hsz A c w lo hi hV hlen hsm
    replace IH := Lib.hid IH
    replace hV := Lib.hid hV
    replace hsm := Lib.hid hsm
    replace hsz := Lib.hid hsz
    obtain ⟨n, hn⟩ : ∃ n, n = L.len := ⟨_, rfl⟩
    rw [← hn] at hlen ⊢
    replace hn := Lib.hid hn
    have hmk := mkC n (by unfold Lim; omega)
    go_enter Try.func17, Try.ntmps17
    go_wp2
    clear hmk
    go_loopw [4] (fun i wr => ∃ (j : Nat) (cs : Array Value), j ≤ n ∧ i = .int .i64 j ∧ Hid (cs.size = n * 10) ∧ Blk wr w.heap.size tC cs ∧ Hid (CmsOAt wr (L.take j) cs 0 (w.heap.size + 1) wr.heap.size) ∧ Below w.heap.size w wr) (fun i _ => n - (intOf i).toNat)
    case atStart => exact ⟨0, _, Nat.zero_le _, rfl, Lib.hid (size_madeCells _ _), Blk.new _ _ _, Lib.hid (by cases L <;> simp [Cms.take, CmsOAt]), bel⟩
    case round =>
      obtain ⟨j, cs, hj, rfl, HS, hK, HC, hB⟩ := hrel
      by_cases hlt : j < n
      · have hpos : 0 < (L.drop j).len := by rw [Cms.drop_len, ← hn.out]; omega
        obtain ⟨k, a, b, t, i, body, els, r, eL⟩ := Cms.cons_of_len hpos
        obtain ⟨bl, o, rfl, -, -, hAt⟩ := (hV.out.below hB) (by rw [← hn.out]; omega)
        have hD := hAt.drop j
        have hS := Cms.small_drop j hsm.out
        have hZ := Cms.sz_drop j L
        rw [eL] at hD hS hZ
        obtain ⟨⟨p0, p1, p2, p3, p4, p5⟩, ⟨A6, c6, p6, g6⟩, ⟨A7, c7, p7, g7⟩, ⟨A8, c8, p8, g8⟩, ⟨A9, c9, p9, g9⟩, -⟩ := hD
        obtain ⟨s1, s2, s3, s4, s5, s6, -⟩ := hS
        simp only [Cms.sz] at hZ
        have hbs : body.sz < N := by have := hsz.out; omega
        have hes : els.sz < N := by have := hsz.out; omega
        have ha : AsnV wr lo hi (.agg #[.slice A6 i.facts.length c6, .slice A7 i.atoms.length c7]) i := ⟨_, _, _, _, rfl, ⟨g6, s1⟩, ⟨g7, s2⟩⟩
        replace ha := Lib.hid ha
        replace hbs := Lib.hid hbs
        replace hes := Lib.hid hes
        replace s3 := Lib.hid s3
        replace s4 := Lib.hid s4
        replace s5 := Lib.hid s5
        replace s6 := Lib.hid s6
        replace g8 := Lib.hid (show CmsV wr lo hi A8 body from g8)
        replace g9 := Lib.hid (show CmsV wr lo hi A9 els from g9)
        replace eL := Lib.hid eL
        clear hZ hpos hAt g6 g7 s1 s2
        go_wp2_with fail
        refine (c_toCmd k a b t i A6 A7 A8 A9 c6 c7 c8 c9 body els wr ha.out g8.out g9.out (fun w h1 => IH.out body hbs.out _ _ _ _ _ h1 s3.out s5.out) (fun w h1 => IH.out els hes.out _ _ _ _ _ h1 s4.out s6.out)).mono ?_
        rintro e w2 ⟨vF, vA, vB, vE, m1, m2, m3, rfl, e1, x1, x2, x3, e3, hB2⟩
        have hK2 := hK.next hB2
        have hB3 := bgo hB hB2
        have hz2 := hB2.size
        have lt := hK.lt
        have HC2 := HC.out.below hB2
        obtain ⟨AF, cF, AA, cA, eF⟩ := x1.form
        have eF' : vF = .slice AF i.facts.length cF ∧ vA = .slice AA i.atoms.length cA := by
          injection eF with eF; injection eF with eF; injection eF with ea eb; injection eb with eb; exact ⟨ea, eb⟩
        obtain ⟨rfl, rfl⟩ := eF'
        clear eF
        obtain ⟨gB, csB, rfl, y2⟩ := x2
        obtain ⟨gE, csE, rfl, y3⟩ := x3
        have x2 := Lib.hid y2
        have x3 := Lib.hid y3
        clear y2 y3
        replace x1 := Lib.hid x1
        replace HC2 := Lib.hid HC2
        clear p0 p1 p2 p3 p4 p5 p6 p7 p8 p9 hK HC hB ha g8 g9
        have hs := HS.out
        obtain ⟨u0, hu0⟩ : ∃ u, cs[j * 10]? = some u := ⟨_, Array.getElem?_eq_getElem (by omega)⟩
        have q0 : w2.cell? ⟨w.heap.size, j * 10, none⟩ = some u0 := by rw [hK2.cell, hu0]
        obtain ⟨u1, hu1⟩ : ∃ u, cs[j * 10 + 1]? = some u := ⟨_, Array.getElem?_eq_getElem (by omega)⟩
        have q1 : w2.cell? ⟨w.heap.size, j * 10 + 1, none⟩ = some u1 := by rw [hK2.cell, hu1]
        obtain ⟨u2, hu2⟩ : ∃ u, cs[j * 10 + 2]? = some u := ⟨_, Array.getElem?_eq_getElem (by omega)⟩
        have q2 : w2.cell? ⟨w.heap.size, j * 10 + 2, none⟩ = some u2 := by rw [hK2.cell, hu2]
        obtain ⟨u3, hu3⟩ : ∃ u, cs[j * 10 + 3]? = some u := ⟨_, Array.getElem?_eq_getElem (by omega)⟩
        have q3 : w2.cell? ⟨w.heap.size, j * 10 + 3, none⟩ = some u3 := by rw [hK2.cell, hu3]
        obtain ⟨u4, hu4⟩ : ∃ u, cs[j * 10 + 4]? = some u := ⟨_, Array.getElem?_eq_getElem (by omega)⟩
        have q4 : w2.cell? ⟨w.heap.size, j * 10 + 4, none⟩ = some u4 := by rw [hK2.cell, hu4]
        obtain ⟨u5, hu5⟩ : ∃ u, cs[j * 10 + 5]? = some u := ⟨_, Array.getElem?_eq_getElem (by omega)⟩
        have q5 : w2.cell? ⟨w.heap.size, j * 10 + 5, none⟩ = some u5 := by rw [hK2.cell, hu5]
        obtain ⟨u6, hu6⟩ : ∃ u, cs[j * 10 + 6]? = some u := ⟨_, Array.getElem?_eq_getElem (by omega)⟩
        have q6 : w2.cell? ⟨w.heap.size, j * 10 + 6, none⟩ = some u6 := by rw [hK2.cell, hu6]
        obtain ⟨u7, hu7⟩ : ∃ u, cs[j * 10 + 7]? = some u := ⟨_, Array.getElem?_eq_getElem (by omega)⟩
        have q7 : w2.cell? ⟨w.heap.size, j * 10 + 7, none⟩ = some u7 := by rw [hK2.cell, hu7]
        obtain ⟨u8, hu8⟩ : ∃ u, cs[j * 10 + 8]? = some u := ⟨_, Array.getElem?_eq_getElem (by omega)⟩
        have q8 : w2.cell? ⟨w.heap.size, j * 10 + 8, none⟩ = some u8 := by rw [hK2.cell, hu8]
        obtain ⟨u9, hu9⟩ : ∃ u, cs[j * 10 + 9]? = some u := ⟨_, Array.getElem?_eq_getElem (by omega)⟩
        have q9 : w2.cell? ⟨w.heap.size, j * 10 + 9, none⟩ = some u9 := by rw [hK2.cell, hu9]
        have r2 := hK2.frozen
        clear hs hu0 hu1 hu2 hu3 hu4 hu5 hu6 hu7 hu8 hu9
        go_wp2_with fail
        have hs := HS.out
        go_round
        case rel =>
          refine ⟨j + 1, put10 cs (j * 10) (.int .i64 k) (.int .i64 a) (.int .i64 b) (.bool t.eq) (.int .i64 t.a) (.int .i64 t.b) _ _ _ _, by omega, by go_num, Lib.hid (by rw [put10_size, hs]), Blk.put10 hK2 _ _ _ _ _ _ _ _ _ _ _, Lib.hid ?_, bel⟩
          have M : ∀ {w5 : World}, w5.heap.size = w2.heap.size → Mk (fun g => w.heap.size ≤ g ∧ g < w.heap.size + 1) w2 w5 → CmsOAt w5 (L.take (j + 1)) (put10 cs (j * 10) (.int .i64 k) (.int .i64 a) (.int .i64 b) (.bool t.eq) (.int .i64 t.a) (.int .i64 t.b) (.slice AF i.facts.length cF) (.slice AA i.atoms.length cA) (.slice (some ⟨gB, 0, none⟩) body.len body.len) (.slice (some ⟨gE, 0, none⟩) els.len els.len)) 0 (w.heap.size + 1) w5.heap.size := fun {w5} hsz5 M => by
            have z2 : CmsO w2 m1 m2 (.slice (some ⟨gB, 0, none⟩) body.len body.len) body := ⟨gB, csB, rfl, x2.out⟩
            have z3 : CmsO w2 m2 m3 (.slice (some ⟨gE, 0, none⟩) els.len els.len) els := ⟨gE, csE, rfl, x3.out⟩
            obtain ⟨g1, cs1, e1', a1, a2, a3, a4, a5⟩ := z2.mk M (by omega)
            have b1 := a5.le
            obtain ⟨g2, cs2, e2', d1, d2, d3, d4, d5⟩ := z3.mk M (by omega)
            injection e1' with e1'; injection e1' with e1'; injection e1' with e1'; subst e1'
            injection e2' with e2'; injection e2' with e2'; injection e2' with e2'; subst e2'
            have hl5 : (L.take j).len = j := Cms.take_len j L (by rw [← hn.out]; omega)
            refine CmsOAt.snoc ((HC2.out.mk M (by omega)).cells fun x h1 h2 => put10_far (by rw [hl5] at h2; omega)) eL.out ?_
            rw [Nat.zero_add]
            exact ⟨_, _, gB, gE, cs1, cs2, m1, m2, m3, put10_ten (by rw [hs]; omega) k a b t _ _ _ _, ⟨e1, x1.out.mk M (by omega)⟩, ⟨a1, a2, a3, a4, a5⟩, ⟨d1, d2, d3, d4, d5⟩, by rw [hsz5]; exact e3⟩
          refine M (by simp) ?_
          exact Mk.set (Mk.set (Mk.set (Mk.set (Mk.set (Mk.set (Mk.set (Mk.set (Mk.set (Mk.set (Mk.refl _ _) ⟨by simp, by simp⟩ _) ⟨by simp, by simp⟩ _) ⟨by simp, by simp⟩ _) ⟨by simp, by simp⟩ _) ⟨by simp, by simp⟩ _) ⟨by simp, by simp⟩ _) ⟨by simp, by simp⟩ _) ⟨by simp, by simp⟩ _) ⟨by simp, by simp⟩ _) ⟨by simp, by simp⟩ _
        case measure => simp [intOf]; omega
      · go_wp2_with fail
        go_ret
        obtain rfl : j = n := by omega
        have h1 := HC.out
        rw [hn.out, Cms.take_all] at h1
        have h2 := HS.out
        have hn' := hn.out
        subst hn'
        exact ⟨_, rfl, ⟨_, cs, rfl, Nat.le_refl _, hK, h2, hlen, h1⟩, hB⟩
--@
end Go.Proofs.Ytcgifoghggajgaa
