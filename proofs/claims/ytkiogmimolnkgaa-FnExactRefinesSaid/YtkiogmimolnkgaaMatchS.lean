/- Contracts: the spec's matching of filled atoms. -/
import Derived.Test.YtkiogmimolnkgaaMatchW
import Derived.Deep.LoopGhost
namespace Go.Proofs.Ytkiogmimolnkgaa
open Go Go.RowKit Go.Proofs
attribute [local go_sem ↓] Go.wp_at_zero Go.wp_at_succ

--@ spec.l5Begins
set_option maxHeartbeats 1600000 in
theorem c_spec_l5Begins {lo hi : Nat} (A : Option Addr) (d : Nat) (xs : List Atm) (b : Int) (w : World) (h : AtomsV w lo hi A xs) :
    Calls Try.prog 234 #[.slice A xs.length d, .int .i64 b] w fun e w' => e = .returned (.bool (begB xs b)) ∧ w = w' := by
  have hl := h.le
  have H := Lib.hid h
  clear h
  go_enter Try.func234, Try.ntmps234
  go_wp2_with fail
  go_loop [5] (fun i => ∃ k : Nat, k ≤ xs.length ∧ i = .int .i64 k ∧ Hid (begB xs b = begB (xs.drop k) b)) (fun i => xs.length - (intOf i).toNat)
  case atStart => exact ⟨0, Nat.zero_le _, rfl, rfl⟩
  case round =>
    obtain ⟨k, hkk, rfl, HA⟩ := hrel
    by_cases hlt : k < xs.length
    · obtain ⟨bb, off, rfl, hbl⟩ := H.out.blt hlt
      obtain ⟨g0, g1, g2⟩ := H.out.cl hlt
      have HD := Lib.hid (any_drop (fun x => decide (x.a = b)) xs k hlt)
      obtain ⟨x, hxe⟩ : ∃ x, x = xs[k] := ⟨_, rfl⟩
      rw [← hxe] at g0 g1 g2 HD
      clear hxe
      by_cases he : x.a = b
      · have HZ : Hid (begB xs b = true) := by show _ = _; rw [HA.out]; unfold begB; rw [HD.out, decide_eq_true he]; rfl
        have he' : (x.a == b) = true := by simpa using he
        clear he
        go_wp2_with fail
        go_ret
        exact ⟨ret_bool (by rw [HZ.out]), rfl⟩
      · have HZ : Hid (begB xs b = begB (xs.drop (k + 1)) b) := by show _ = _; rw [HA.out]; unfold begB; rw [HD.out, decide_eq_false he]; rfl
        have he' : (x.a == b) = false := by simpa using he
        clear he
        go_wp2_with fail
        go_round
        case rel => exact ⟨k + 1, by omega, by go_num, HZ⟩
        case measure => simp [intOf]; omega
    · obtain rfl : k = xs.length := by omega
      have HZ : Hid (begB xs b = false) := by show _ = _; rw [HA.out, List.drop_length]; rfl
      go_wp2_with fail
      go_ret
      exact ⟨ret_bool (by rw [HZ.out]), rfl⟩

--@ spec.l6Find
def findI (o : Option Nat) : Int := match o with | some k => k | none => -1
set_option maxHeartbeats 1600000 in
theorem c_spec_l6Find {lo hi lo2 hi2 : Nat} (A B : Option Addr) (d e : Nat) (xs : List Atm) (used : List Bool) (b : Int) (w : World) (h : AtomsV w lo hi A xs) (h' : BoolsV w lo2 hi2 B used) (hu : used.length = xs.length) :
    Calls Try.prog 233 #[.slice A xs.length d, .slice B xs.length e, .int .i64 b] w fun e w' => e = .returned (.int .i64 (findI (findU xs used b))) ∧ w = w' := by
  have hl := h.le
  have H := Lib.hid h
  have H' := Lib.hid h'
  have HU := Lib.hid hu
  clear h h' hu
  go_enter Try.func233, Try.ntmps233
  go_wp2_with fail
  go_loop [7] (fun i => ∃ k : Nat, k ≤ xs.length ∧ i = .int .i64 k ∧ Hid (∀ j, j < k → freeAt xs used b j = false)) (fun i => xs.length - (intOf i).toNat)
  case atStart => exact ⟨0, Nat.zero_le _, rfl, fun j hj => absurd hj (Nat.not_lt_zero _)⟩
  case round =>
    obtain ⟨k, hkk, rfl, HA⟩ := hrel
    by_cases hlt : k < xs.length
    · obtain ⟨bb, off, rfl, hbl⟩ := H.out.blt hlt
      obtain ⟨g0, g1, g2⟩ := H.out.cl hlt
      obtain ⟨b2, off2, rfl, hbl2⟩ := H'.out.blt (k := k) (by rw [HU.out]; exact hlt)
      have qu : w.cell? ⟨b2, off2 + k, none⟩ = some (.bool (ub used k)) := by rw [H'.out.cl (k := k) (by rw [HU.out]; exact hlt)]; unfold ub; rw [List.getElem?_eq_getElem]; rfl
      have HD := Lib.hid (freeAt_of (c := b) hlt HU.out)
      obtain ⟨x, hxe⟩ : ∃ x, x = xs[k] := ⟨_, rfl⟩
      rw [← hxe] at g0 g1 g2 HD
      clear hxe
      cases hff : freeAt xs used b k
      · have HZ : Hid (∀ j, j < k + 1 → freeAt xs used b j = false) := fun j hj => by
          by_cases e : j = k
          · rw [e]; exact hff
          · exact HA.out j (by omega)
        rw [HD.out] at hff
        cases hub : ub used k
        · rw [hub] at qu hff
          have he' : (x.a == b) = false := by simpa using hff
          clear hff hub
          go_wp2_with fail
          go_round
          case rel => exact ⟨k + 1, by omega, by go_num, HZ⟩
          case measure => simp [intOf]; omega
        · rw [hub] at qu
          clear hff hub
          go_wp2_with fail
          go_round
          case rel => exact ⟨k + 1, by omega, by go_num, HZ⟩
          case measure => simp [intOf]; omega
      · have HZ : Hid (findU xs used b = some k) := range_find_some hlt hff HA.out
        rw [HD.out, Bool.and_eq_true, decide_eq_true_eq] at hff
        have he' : (x.a == b) = true := by simpa using hff.1
        have hub : ub used k = false := by simpa using hff.2
        rw [hub] at qu
        clear hff hub
        go_wp2_with fail
        go_ret
        exact ⟨by rw [HZ.out]; rfl, rfl⟩
    · obtain rfl : k = xs.length := by omega
      have HZ : Hid (findU xs used b = none) := range_find_none HA.out
      go_wp2_with fail
      go_ret
      exact ⟨by rw [HZ.out]; rfl, rfl⟩

--@ spec.l6Chain
theorem BoolsO.open_ {w : World} {base : Nat} {A : Option Addr} {n c k : Nat} {fs : List Bool} (h : BoolsO w base (.slice A n c) fs) (hk : k < fs.length) : ∃ g cur, n = fs.length ∧ A = some ⟨g, 0, none⟩ ∧ base ≤ g ∧ Blk w g tB cur ∧ cur[k]? = some (.bool fs[k]) ∧
    (∀ v : Bool, BoolsO (w.setCell ⟨g, k, none⟩ (.bool v)) base (.slice A n c) (fs.set k v)) := by
  obtain ⟨⟨hl, h2⟩, hL⟩ := h
  rcases h2 with ⟨e, hn⟩ | ⟨g, cap, cur, e, hb, hh, hn, hm, hs, ht⟩
  · omega
  · injection e with e1 e2 e3
    subst e1 e2 e3
    have hK : Blk w g tB cur := hh
    have hP : Pre cur (encB fs) (fs.length * 1) := by
      intro j hj
      rw [← ht, List.getElem?_take, if_pos hj]; simp
    refine ⟨g, cur, rfl, rfl, hb, hK, (hP _ (by omega)).trans (by simp [List.getElem?_eq_getElem hk]), ?_⟩
    intro v
    refine ⟨?_, by rw [List.length_set]; exact hL⟩
    rw [show encB (fs.set k v) = (encB fs).set k (.bool v) from by simp [encB, List.map_set], List.length_set]
    exact own_of_blk (hK.set_ k (.bool v)) hb (by rw [List.length_set, hl]) (hP.setL k (.bool v) (by rw [hs]; exact Nat.mul_le_mul hn (Nat.le_refl _)) (by rw [hl]; exact Nat.le_refl _)) hn hm (by simpa using hs)
def chainG (xs : List Atm) (b : Int) (n : Nat) (used : List Bool) (c : Int) : Option (List Bool) := if c = b then some used else chainF xs b n used c
def cutB (xs : List Atm) (y : Atm) (b : Int) : Bool := decide (y.kind = 2) && !decide (y.b = b) && !decide (b = 0) && !begB xs b
theorem cut_cases (xs : List Atm) (y : Atm) (b : Int) : (cutB xs y b = true ∧ (y.kind == 2) = true ∧ (y.b != b) = true ∧ (b != 0) = true ∧ begB xs b = false) ∨
    ((cutB xs y b = false ∧ (y.kind == 2) = false) ∨ (cutB xs y b = false ∧ (y.kind == 2) = true ∧ (y.b != b) = false) ∨ (cutB xs y b = false ∧ (y.kind == 2) = true ∧ (y.b != b) = true ∧ (b != 0) = false) ∨ (cutB xs y b = false ∧ (y.kind == 2) = true ∧ (y.b != b) = true ∧ (b != 0) = true ∧ begB xs b = true)) := by
  unfold cutB
  by_cases h1 : y.kind = 2 <;> by_cases h2 : y.b = b <;> by_cases h3 : b = 0 <;> cases h4 : begB xs b <;> simp_all
theorem closed_beg (xs : List Atm) (b : Int) : closedB xs b = (decide (b = 0) || begB xs b) := rfl
theorem chainG_none {xs : List Atm} {b : Int} {n : Nat} {used : List Bool} {c : Int} (h : c ≠ b) (hf : findU xs used c = none) : chainG xs b n used c = none := by
  unfold chainG; rw [if_neg h]
  cases n with
  | zero => rfl
  | succ n => unfold chainF; rw [hf]; rfl
theorem chainG_some {xs : List Atm} {b : Int} {n : Nat} {used : List Bool} {c : Int} {k : Nat} (h : c ≠ b) (hf : findU xs used c = some k) (hk : k < xs.length) : chainG xs b (n + 1) used c = if cutB xs xs[k] b then none else chainG xs b n (used.set k true) xs[k].b := by
  unfold chainG; rw [if_neg h]
  rw [show chainF xs b (n + 1) used c = (findU xs used c).bind (fun k => if ((xs[k]?).getD default).b = b then some (used.set k true) else if ((xs[k]?).getD default).kind = 2 ∧ closedB xs b = false then none else chainF xs b n (used.set k true) ((xs[k]?).getD default).b) from rfl, hf]
  simp only [Option.bind_some, List.getElem?_eq_getElem hk, Option.getD_some]
  unfold cutB
  rw [closed_beg]
  generalize chainF xs b n (used.set k true) xs[k].b = R
  generalize xs[k] = y
  generalize decide (b = 0) = t
  generalize begB xs b = s
  by_cases h1 : y.b = b <;> by_cases h2 : y.kind = 2 <;> cases t <;> cases s <;> simp [h1, h2]
theorem AtomsV.hi_ {w : World} {lo hi b o k : Nat} {xs : List Atm} (h : AtomsV w lo hi (some ⟨b, o, none⟩) xs) (hk : k < xs.length) : b < hi := by
  obtain ⟨g, o', e, h1, h2, -⟩ := h.raw.2 (by omega)
  injection e with e
  injection e with e1
  omega
set_option maxRecDepth 100000 in
set_option maxHeartbeats 6400000 in
theorem c_spec_l6Chain {lo hi base : Nat} (A B : Option Addr) (d e : Nat) (xs : List Atm) (used : List Bool) (c b : Int) (w : World) (h : AtomsV w lo hi A xs) (h' : BoolsO w base (.slice B xs.length e) used) (hu : used.length = xs.length) (hhi : hi ≤ base) (hbw : base ≤ w.heap.size) :
    Calls Try.prog 232 #[.slice A xs.length d, .slice B xs.length e, .int .i64 c, .int .i64 b] w fun e' w' => e' = .returned (.bool (chainG xs b (xs.length + 1) used c).isSome) ∧ (∀ u, chainG xs b (xs.length + 1) used c = some u → BoolsO w' base (.slice B xs.length e) u ∧ u.length = xs.length) ∧ Mk (fun g => (Value.slice B xs.length e).ownBlock = some g) w w' := by
  have hl := h.le
  have hown : ∀ g, (Value.slice B xs.length e).ownBlock = some g → base ≤ g := fun g hg => (h'.1.lt g hg).1
  have H := Lib.hid h
  have HO := Lib.hid h'
  have HU := Lib.hid hu
  have HW := Lib.hid hown
  clear h h' hu hown
  go_enter Try.func232, Try.ntmps232
  go_wp2_with fail
  go_loopg [2] (xs.length - used.count true) (fun gh s2 wr => ∃ (u : List Bool) (n : Nat) (at_ : Int), s2 = .int .i64 at_ ∧ Hid (xs.length - u.count true ≤ gh) ∧ Hid (chainG xs b (xs.length + 1) used c = chainG xs b n u at_) ∧ Hid (xs.length < n + u.count true) ∧ Hid (u.length = xs.length) ∧ Hid (BoolsO wr base (.slice B xs.length e) u) ∧ Hid (Mk (fun g => (Value.slice B xs.length e).ownBlock = some g) w wr))
  case atStart => exact ⟨used, xs.length + 1, c, rfl, Nat.le_refl _, rfl, by show _ < _; omega, HU.out, HO.out, Mk.refl _ _⟩
  case round =>
    obtain ⟨u, n, at_, rfl, HG, HC, HN, HL, HB, HM⟩ := hrel
    have hA : Hid (AtomsV wr lo hi A xs) := H.out.keepB (HM.out.below (lo := base) (fun k e => HW.out k e) hbw) hhi
    by_cases hat : at_ = b
    · have E : Hid (chainG xs b (xs.length + 1) used c = some u) := by show _ = _; rw [HC.out]; unfold chainG; rw [if_pos hat]
      have hne : (at_ != b) = false := by simpa using hat
      clear hat
      go_wp2_with fail
      go_ret
      exact ⟨ret_bool (by rw [E.out]; rfl), fun u' hu' => (by rw [E.out] at hu'; cases hu'; exact ⟨HB.out, HL.out⟩), HM.out⟩
    · have hne : (at_ != b) = true := by simpa using hat
      obtain ⟨BB, eB, eqB, hBV⟩ := HB.out.reads
      injection eqB with eB1 eB2 eB3
      subst eB1
      clear eB2 eB3
      go_wp2_with fail
      refine (c_spec_l6Find A B d e xs u at_ _ hA.out (by simpa using hBV) HL.out).mono ?_
      rintro e w1 ⟨rfl, rfl⟩
      cases hf : findU xs u at_
      · have E : Hid (chainG xs b (xs.length + 1) used c = none) := by show _ = _; rw [HC.out]; exact chainG_none hat hf
        clear hf hat
        simp only [findI]
        go_wp2_with fail
        go_ret
        exact ⟨ret_bool (by rw [E.out]; rfl), fun u' hu' => (by rw [E.out] at hu'; cases hu'), HM.out⟩
      · rename_i k
        obtain ⟨hkl, hfr⟩ := findU_some hf
        have hfu := freeAt_used hfr
        have hct := count_take hfu.2
        have hcl := List.count_le_length (a := true) (l := u.set k true)
        rw [List.length_set, HL.out] at hcl
        obtain ⟨m, rfl⟩ : ∃ m, n = m + 1 := ⟨n - 1, by have := HN.out; omega⟩
        have HS := Lib.hid (chainG_some (n := m) hat hf hkl)
        obtain ⟨g, cur, -, rfl, hgb, kg, hcm, hset⟩ := HB.out.open_ (k := k) hfu.1
        have qg : wr.cell? ⟨g, k, none⟩ = some (.bool false) := (kg.cell k).trans (hcm.trans (by rw [(List.getElem?_eq_some_iff.1 hfu.2).2]))
        have rg := kg.frozen
        have HSET := Lib.hid (hset true)
        obtain ⟨bb, off, rfl, hbl⟩ := hA.out.blt hkl
        obtain ⟨g0, g1, g2⟩ := hA.out.cl hkl
        have hbg : bb < g := by have := hA.out.hi_ hkl; omega
        have hbn : ¬ (bb = g) := by omega
        have hbn' : ¬ (g = bb) := by omega
        obtain ⟨y, hy⟩ : ∃ y, y = xs[k] := ⟨_, rfl⟩
        rw [← hy] at g0 g1 g2 HS
        have HCT := Lib.hid hct
        have HCL := Lib.hid hcl
        have hkx : (k : Int) < (xs.length : Int) := by omega
        have hk0 : ¬ (k : Int) < 0 := by omega
        have HAK := Lib.hid hA.out
        clear hf hat hy hfr hfu hct hcl hset kg hcm
        simp only [findI]
        rcases cut_cases xs y b with ⟨hc, f1, f2, f3, f4⟩ | hcc
        · have E : Hid (chainG xs b (xs.length + 1) used c = none) := by show _ = _; rw [HC.out, HS.out, hc]; rfl
          clear hc
          go_wp2_with (refine (c_spec_l5Begins _ _ xs b _ HAK.out).mono ?_; rintro e2 w2 ⟨rfl, rfl⟩)
          go_ret
          exact ⟨ret_bool (by rw [E.out]; rfl), fun u' hu' => (by rw [E.out] at hu'; cases hu'), HM.out⟩
        · have E : Hid (cutB xs y b = false → chainG xs b (xs.length + 1) used c = chainG xs b m (u.set k true) y.b) := fun hc => by rw [HC.out, HS.out, hc]; rfl
          rcases hcc with ⟨hc, f1⟩ | ⟨hc, f1, f2⟩ | ⟨hc, f1, f2, f3⟩ | ⟨hc, f1, f2, f3, f4⟩
          all_goals
            have E2 := Lib.hid (E.out hc)
            clear hc
            go_wp2_with (refine (c_spec_l5Begins _ _ xs b _ HAK.out).mono ?_; rintro e2 w2 ⟨rfl, rfl⟩)
            go_roundg (xs.length - (u.set k true).count true)
            case rel => exact ⟨u.set k true, m, y.b, rfl, Nat.le_refl _, E2.out, by show _ < _; have := HN.out; have := HCT.out; omega, by show _ = _; rw [List.length_set]; exact HL.out, HSET.out, HM.out.set (x := ⟨g, k, none⟩) rfl _⟩
            case measure => have := HG.out; have := HCT.out; have := HCL.out; omega
end Go.Proofs.Ytkiogmimolnkgaa
