/- Contracts: impl's matching of filled atoms. -/
import Derived.Test.YtlmjjflalmegfaaGreatMSlHas
import Derived.Test.YtlmjjflalmegfaaGreatMExpA
import Derived.Deep.LoopGhost
import Derived.Test.YtlmjjflalmegfaaGreatModW
import Derived.Test.YtlmjjflalmegfaaGreatMStSame
set_option linter.unusedSimpArgs false
set_option linter.unusedVariables false
namespace Go.Proofs.YtlmjjflalmegfaaGreat
open Go Go.RowKit Go.Proofs
attribute [local go_sem ↓] Go.wp_at_zero Go.wp_at_succ

--@ (*impl.termCase).factsHold
theorem fits_drop (c : List Int) (fs : List Fct) (k : Nat) (hk : k < fs.length) : (fs.drop k).all (Fct.fits c) = (fs[k].fits c && (fs.drop (k + 1)).all (Fct.fits c)) := by
  rw [List.drop_eq_getElem_cons hk]; rfl
set_option maxHeartbeats 1600000 in
theorem c_impl_factsHold {lo hi : Nat} (A : Option Addr) (d : Nat) (fs : List Fct) (c : List Int) (g : Nat) (w : World) (h : FactsV w lo hi A fs) (hk : Blk w g tTc (encI c).toArray) (hc : c.length = 9) (hf : FactsOk fs) :
    Calls Tryz.prog 180 #[.pointer (some ⟨g, 0, none⟩), .slice A fs.length d] w fun e w' => e = .returned (.bool (fs.all (Fct.fits c))) ∧ Below w.heap.size w w' := by
  have hl := h.le
  have hgl := hk.lt
  have HF := Lib.hid hf
  have H := Lib.hid h
  clear hf h
  go_enter Tryz.func180, Tryz.ntmps180
  go_wp2_with fail
  go_loopw [9] (fun i wr => ∃ k : Nat, k ≤ fs.length ∧ i = .int .i64 k ∧ Hid (fs.all (Fct.fits c) = (fs.drop k).all (Fct.fits c)) ∧ Below w.heap.size w wr) (fun i _ => fs.length - (intOf i).toNat)
  case atStart => exact ⟨0, Nat.zero_le _, rfl, rfl, bel⟩
  case round =>
    obtain ⟨k, hkk, rfl, HA, hB⟩ := hrel
    by_cases hlt : k < fs.length
    · obtain ⟨b, off, rfl, hbl⟩ := H.out.blt hlt
      obtain ⟨g0, g1, g2⟩ := (H.out.below hB).cl hlt
      have HD := Lib.hid (fits_drop c fs k hlt)
      have hfk := HF.out _ (List.getElem_mem hlt)
      obtain ⟨f, hfe⟩ : ∃ f, f = fs[k] := ⟨_, rfl⟩
      rw [← hfe] at g0 g1 g2 HD hfk
      clear hfe
      have kg : Blk wr g tTc (encI c).toArray := hk.below hB hgl
      have hgr := kg.lt
      go_wp2_with fail
      refine (c_impl_factHolds f c g _ (kg.alloc _) hc hfk.1 hfk.2).mono ?_
      rintro e w1 ⟨rfl, hB1⟩
      have hBx : Below w.heap.size w w1 := bgo (w := w) bel hB1
      cases hff : f.fits c
      · have HZ := Lib.hid (show fs.all (Fct.fits c) = false by rw [HA.out, HD.out, hff]; rfl)
        clear hff hB1
        go_wp2_with fail
        go_ret
        exact ⟨ret_bool (by rw [HZ.out]), hBx⟩
      · have HZ := Lib.hid (show (fs.drop k).all (Fct.fits c) = (fs.drop (k + 1)).all (Fct.fits c) by rw [HD.out, hff]; rfl)
        clear hff hB1
        go_wp2_with fail
        go_round
        case rel => exact ⟨k + 1, by omega, by go_num, by show _ = _; rw [HA.out, HZ.out], hBx⟩
        case measure => simp [intOf]; omega
    · obtain rfl : k = fs.length := by omega
      have HZ : Hid (fs.all (Fct.fits c) = true) := by show _ = _; rw [HA.out, List.drop_length]; rfl
      go_wp2_with fail
      go_ret
      exact ⟨ret_bool (by rw [HZ.out]), hB⟩

--@ impl.beginsAt
theorem any_drop (p : Atm → Bool) (xs : List Atm) (k : Nat) (hk : k < xs.length) : (xs.drop k).any p = (p xs[k] || (xs.drop (k + 1)).any p) := by
  rw [List.drop_eq_getElem_cons hk]; rfl
def begB (xs : List Atm) (b : Int) : Bool := xs.any fun x => decide (x.a = b)
set_option maxHeartbeats 1600000 in
theorem c_impl_beginsAt {lo hi : Nat} (A : Option Addr) (d : Nat) (xs : List Atm) (b : Int) (w : World) (h : AtomsV w lo hi A xs) :
    Calls Tryz.prog 112 #[.slice A xs.length d, .int .i64 b] w fun e w' => e = .returned (.bool (begB xs b)) ∧ Below w.heap.size w w' := by
  have hl := h.le
  have H := Lib.hid h
  clear h
  go_enter Tryz.func112, Tryz.ntmps112
  go_wp2_with fail
  go_loopw [9] (fun i wr => ∃ k : Nat, k ≤ xs.length ∧ i = .int .i64 k ∧ Hid (begB xs b = begB (xs.drop k) b) ∧ Below w.heap.size w wr) (fun i _ => xs.length - (intOf i).toNat)
  case atStart => exact ⟨0, Nat.zero_le _, rfl, rfl, bel⟩
  case round =>
    obtain ⟨k, hkk, rfl, HA, hB⟩ := hrel
    by_cases hlt : k < xs.length
    · obtain ⟨bb, off, rfl, hbl⟩ := H.out.blt hlt
      obtain ⟨g0, g1, g2⟩ := (H.out.below hB).cl hlt
      have HD := Lib.hid (any_drop (fun x => decide (x.a = b)) xs k hlt)
      obtain ⟨x, hxe⟩ : ∃ x, x = xs[k] := ⟨_, rfl⟩
      rw [← hxe] at g0 g1 g2 HD
      clear hxe
      by_cases he : x.a = b
      · have HZ : Hid (begB xs b = true) := by show _ = _; rw [HA.out]; unfold begB; rw [HD.out, decide_eq_true he]; rfl
        have he' : (x.a == b) = true := by simpa using he
        clear he
        go_wp2_with fail
        go_ret
        exact ⟨ret_bool (by rw [HZ.out]), bel⟩
      · have HZ : Hid (begB xs b = begB (xs.drop (k + 1)) b) := by show _ = _; rw [HA.out]; unfold begB; rw [HD.out, decide_eq_false he]; rfl
        have he' : (x.a == b) = false := by simpa using he
        clear he
        go_wp2_with fail
        go_round
        case rel => exact ⟨k + 1, by omega, by go_num, HZ, bel⟩
        case measure => simp [intOf]; omega
    · obtain rfl : k = xs.length := by omega
      have HZ : Hid (begB xs b = false) := by show _ = _; rw [HA.out, List.drop_length]; rfl
      go_wp2_with fail
      go_ret
      exact ⟨ret_bool (by rw [HZ.out]), hB⟩

--@ (*impl.caseMatch).unusedAt
abbrev tMt : Nat := 212
def ub (used : List Bool) (k : Nat) : Bool := (used[k]?).getD false
abbrev cmC (V : Value) (used : List Bool) (cnt : Nat) : Array Value := #[V, .bool (ub used 0), .bool (ub used 1), .bool (ub used 2), .bool (ub used 3), .bool (ub used 4), .bool (ub used 5), .int .i64 (cnt : Int)]
theorem cm_used {w : World} {g cnt : Nat} {t : TypeId} {V : Value} {used : List Bool} (h : Blk w g t (cmC V used cnt)) {k : Nat} (hk : k < 6) : w.cell? ⟨g, 1 + k, none⟩ = some (.bool (ub used k)) := by
  rw [h.cell]
  obtain rfl | rfl | rfl | rfl | rfl | rfl : k = 0 ∨ k = 1 ∨ k = 2 ∨ k = 3 ∨ k = 4 ∨ k = 5 := by omega
  all_goals rfl
theorem freeAt_of {xs : List Atm} {used : List Bool} {c : Int} {k : Nat} (hk : k < xs.length) (hu : used.length = xs.length) : freeAt xs used c k = (decide (xs[k].a = c) && !ub used k) := by
  unfold freeAt ub
  rw [List.getElem?_eq_getElem hk, List.getElem?_eq_getElem (by omega)]
  rfl
set_option maxRecDepth 100000 in
set_option maxHeartbeats 1600000 in
theorem c_impl_unusedAt {lo hi : Nat} (A : Option Addr) (d cnt : Nat) (xs : List Atm) (used : List Bool) (b : Int) (g : Nat) (w : World) (h : AtomsV w lo hi A xs) (hk : Blk w g tMt (cmC (.slice A xs.length d) used cnt)) (hl6 : xs.length ≤ 6) (hu : used.length = xs.length) :
    Calls Tryz.prog 207 #[.pointer (some ⟨g, 0, none⟩), .int .i64 b] w fun e w' => e = .returned (.tuple #[.int .i64 ((findU xs used b).getD 0 : Nat), .bool (findU xs used b).isSome]) ∧ Below w.heap.size w w' := by
  have hgl := hk.lt
  have H := Lib.hid h
  have HU := Lib.hid hu
  have q0 := hk.cell 0
  have HK := Lib.hid hk
  clear h hu hk
  go_enter Tryz.func207, Tryz.ntmps207
  go_wp2_with fail
  go_loopw [13] (fun i wr => ∃ k : Nat, k ≤ xs.length ∧ i = .int .i64 k ∧ Hid (∀ j, j < k → freeAt xs used b j = false) ∧ Below w.heap.size w wr) (fun i _ => xs.length - (intOf i).toNat)
  case atStart => exact ⟨0, Nat.zero_le _, rfl, fun j hj => absurd hj (Nat.not_lt_zero _), bel⟩
  case round =>
    clear q0
    obtain ⟨k, hkk, rfl, HA, hB⟩ := hrel
    have kg : Blk wr g tMt (cmC (.slice A xs.length d) used cnt) := HK.out.below hB hgl
    by_cases hlt : k < xs.length
    · obtain ⟨bb, off, rfl, hbl⟩ := H.out.blt hlt
      obtain ⟨g0, g1, g2⟩ := (H.out.below hB).cl hlt
      have HD := Lib.hid (freeAt_of (c := b) hlt HU.out)
      have qu := cm_used kg (k := k) (by omega)
      have hgr := kg.lt
      have hk6 : (k : Int) < 6 := by omega
      obtain ⟨x, hxe⟩ : ∃ x, x = xs[k] := ⟨_, rfl⟩
      rw [← hxe] at g0 g1 g2 HD
      clear hxe
      clear kg
      cases hff : freeAt xs used b k
      · have HZ : Hid (∀ j, j < k + 1 → freeAt xs used b j = false) := fun j hj => by
          by_cases e : j = k
          · rw [e]; exact hff
          · exact HA.out j (by omega)
        rw [HD.out] at hff
        by_cases he : x.a = b
        · have he' : (x.a == b) = true := by simpa using he
          have hub : ub used k = true := by rw [decide_eq_true he] at hff; simpa using hff
          rw [hub] at qu
          clear he hff hub
          go_wp2_with fail
          go_round
          case rel => exact ⟨k + 1, by omega, by go_num, HZ, bel⟩
          case measure => simp [intOf]; omega
        · have he' : (x.a == b) = false := by simpa using he
          clear he hff
          go_wp2_with fail
          go_round
          case rel => exact ⟨k + 1, by omega, by go_num, HZ, bel⟩
          case measure => simp [intOf]; omega
      · have HZ : Hid (findU xs used b = some k) := range_find_some hlt hff HA.out
        rw [HD.out, Bool.and_eq_true, decide_eq_true_eq] at hff
        have he' : (x.a == b) = true := by simpa using hff.1
        have hub : ub used k = false := by simpa using hff.2
        rw [hub] at qu
        clear hff hub
        go_wp2_with fail
        go_ret2
        exact ⟨by rw [HZ.out]; rfl, bel⟩
    · obtain rfl : k = xs.length := by omega
      have HZ : Hid (findU xs used b = none) := range_find_none HA.out
      go_wp2_with fail
      go_ret2
      exact ⟨by rw [HZ.out]; rfl, hB⟩

--@ (*impl.caseMatch).take
theorem ub_set {used : List Bool} {k : Nat} (hk : k < used.length) (j : Nat) : ub (used.set k true) j = if k = j then true else ub used j := by
  unfold ub
  rw [List.getElem?_set]
  by_cases e : k = j
  · subst e; simp [hk]
  · simp [e]
theorem cm_take {V : Value} {used : List Bool} {cnt k : Nat} (hk : k < used.length) (h6 : k < 6) : ((cmC V used cnt).setIfInBounds (1 + k) (.bool true)).setIfInBounds 7 (.int .i64 ((cnt : Int) + 1)) = cmC V (used.set k true) (cnt + 1) := by
  unfold cmC
  simp only [ub_set hk]
  obtain rfl | rfl | rfl | rfl | rfl | rfl : k = 0 ∨ k = 1 ∨ k = 2 ∨ k = 3 ∨ k = 4 ∨ k = 5 := by omega
  all_goals simp
/-- the block of a match: the used ones are counted -/
abbrev cmU (V : Value) (used : List Bool) : Array Value := cmC V used (used.count true)
set_option maxRecDepth 100000 in
set_option maxHeartbeats 1600000 in
theorem c_impl_take {V : Value} {used : List Bool} (k g : Nat) (w : World) (hk : Blk w g tMt (cmU V used)) (hku : used[k]? = some false) (h6 : used.length ≤ 6) :
    Calls Tryz.prog 208 #[.pointer (some ⟨g, 0, none⟩), .int .i64 k] w fun e w' => (∃ v, e = .returned v) ∧ Blk w' g tMt (cmU V (used.set k true)) ∧ Mk (fun h => h = g) w w' := by
  have hgl := hk.lt
  have hkl : k < used.length := (List.getElem?_eq_some_iff.1 hku).1
  have hcnt := List.count_le_length (a := true) (l := used)
  obtain ⟨cnt, hcn⟩ : ∃ n, n = used.count true := ⟨_, rfl⟩
  have HE : Hid ((used.set k true).count true = cnt + 1) := by show _ = _; rw [count_take hku, hcn]
  unfold cmU at hk
  rw [← hcn] at hk hcnt
  have qu := cm_used hk (k := k) (by omega)
  have q7 : w.cell? ⟨g, 7, none⟩ = some (.int .i64 (cnt : Int)) := hk.cell 7
  have r := hk.frozen
  have hk6 : (k : Int) < 6 := by omega
  have HT := Lib.hid (cm_take (V := V) (cnt := cnt) hkl (by omega))
  have HK := Lib.hid hk
  have hne : ¬ (1 + k = 7) := by omega
  have hne' : ¬ (7 = 1 + k) := by omega
  clear hk hku hcn
  go_enter Tryz.func208, Tryz.ntmps208
  go_wp2_with fail
  go_end0
  refine ⟨⟨_, rfl⟩, ?_, ((Mk.refl (fun h => h = g) _).set (x := ⟨g, 1 + k, none⟩) rfl _).set (x := ⟨g, 7, none⟩) rfl _⟩
  show Blk _ _ _ (cmC V (used.set k true) ((used.set k true).count true))
  rw [HE.out, ← HT.out]
  exact (HK.out.set_ _ _).set_ _ _

--@ (*impl.caseMatch).useCell
def cellF (xs : List Atm) (used : List Bool) (x : Atm) : Option (List Bool) := (findU xs used x.a).bind fun k => if (xs[k]?).getD default = x then some (used.set k true) else none
theorem AtomsV.keepM {w w' : World} {lo hi g : Nat} {A : Option Addr} {xs : List Atm} (h : AtomsV w lo hi A xs) (hm : Mk (fun h => h = g) w w') (hg : hi ≤ g) (hw : g ≤ w.heap.size) : AtomsV w' lo hi A xs := h.keepB (hm.below (lo := g) (fun k e => by omega) hw) hg
set_option maxRecDepth 100000 in
set_option maxHeartbeats 3200000 in
theorem c_impl_useCell {lo hi : Nat} (A : Option Addr) (d : Nat) (xs : List Atm) (used : List Bool) (x : Atm) (g : Nat) (w : World) (h : AtomsV w lo hi A xs) (hhi : hi ≤ g) (hk : Blk w g tMt (cmU (.slice A xs.length d) used)) (hl6 : xs.length ≤ 6) (hu : used.length = xs.length) :
    Calls Tryz.prog 181 #[.pointer (some ⟨g, 0, none⟩), x.val] w fun e w' => ∃ r ys, e = .returned (.tuple #[r, .bool (cellF xs used x).isSome]) ∧ IntsO w' w.heap.size r ys ∧ Mk (fun h => h = g) w w' ∧ (∀ u, cellF xs used x = some u → Blk w' g tMt (cmU (.slice A xs.length d) u)) := by
  have hgl := hk.lt
  have H := Lib.hid h
  have HU := Lib.hid hu
  have HK := Lib.hid hk
  clear h hu hk
  go_enter Tryz.func181, Tryz.ntmps181
  go_wp2_with fail
  refine (c_impl_unusedAt A d _ xs used x.a g _ (H.out.below bel) (HK.out.alloc _) hl6 HU.out).mono ?_
  rintro e w1 ⟨rfl, hB1⟩
  have hB : Below w.heap.size w w1 := bgo (w := w) bel hB1
  have kg := HK.out.below hB hgl
  have k0 : Blk w1 w.heap.size tA #[.int .i64 x.kind, .int .i64 x.a, .int .i64 x.b] := Blk.next blks hB1
  have q0 := k0.cell
  have l0 := k0.lt
  have gl1 := kg.lt
  clear hB1
  cases hf : findU xs used x.a
  · have E : Hid (cellF xs used x = none) := by show _ = _; unfold cellF; rw [hf]; rfl
    clear hf
    go_wp2_with fail
    go_quiet (fail)
    go_wp2_with fail
    go_ret2
    exact ⟨_, [], by rw [E.out]; rfl, IntsO.nil _ _, Mk.below_ bel, fun u hu => by rw [E.out] at hu; cases hu⟩
  · rename_i k
    obtain ⟨hkl, hfr⟩ := findU_some hf
    have hfu := freeAt_used hfr
    obtain ⟨b, off, rfl, hbl⟩ := H.out.blt hkl
    obtain ⟨g0, g1, g2⟩ := (H.out.below hB).cl hkl
    rw [freeAt_of hkl HU.out, Bool.and_eq_true, decide_eq_true_eq] at hfr
    have q1 : w1.cell? ⟨g, 0, none⟩ = some (.slice (some ⟨b, off, none⟩) xs.length d) := kg.cell 0
    have E : Hid (cellF xs used x = if xs[k] = x then some (used.set k true) else none) := by show _ = _; unfold cellF; rw [hf]; simp only [Option.bind_some, List.getElem?_eq_getElem hkl, Option.getD_some]
    obtain ⟨y, hy⟩ : ∃ y, y = xs[k] := ⟨_, rfl⟩
    rw [← hy] at g0 g1 g2 E hfr
    have hya := hfr.1
    have hkx : (k : Int) < (xs.length : Int) := by omega
    have HKG := Lib.hid kg
    have HFU := Lib.hid hfu
    clear hf hy hfr kg hfu
    have hq2 : ∀ i, w1.cell? ⟨w.heap.size, i, none⟩ = #[.int .i64 x.kind, .int .i64 x.a, .int .i64 x.b][i]? := q0
    rw [hya] at g1
    have e2 : (x.a == x.a) = true := by simp
    by_cases f1 : y.kind = x.kind
    · by_cases f3 : y.b = x.b
      · have E2 : Hid (cellF xs used x = some (used.set k true)) := by
          show _ = _
          rw [E.out, if_pos]
          cases y; cases x; simp_all
        rw [f1] at g0
        rw [f3] at g2
        go_wp2_with fail
        go_quiet (fail)
        go_wp2_with fail
        have kg := HKG.out
        refine (c_impl_take k g _ (used := used) (V := .slice (some ⟨b, off, none⟩) xs.length d) blks HFU.out.2 (by rw [HU.out]; exact hl6)).mono ?_
        rintro e w3 ⟨⟨v, rfl⟩, k3, hM⟩
        have hMM : Mk (fun h => h = g) w w3 := Mk.trans (Mk.below_ (w := w) bel) hM
        have hz3 := hMM.size
        clear kg
        go_wp2_with fail
        go_ret2
        exact ⟨_, [(k : Int)], by rw [E2.out]; rfl, IntsO.one w3 k hz3, hMM.trans (Mk.below_ bel), fun u hu => by rw [E2.out] at hu; cases hu; exact k3.alloc _⟩
      · have e3 : (y.b == x.b) = false := by simpa using f3
        have E2 : Hid (cellF xs used x = none) := by show _ = _; rw [E.out, if_neg (fun e => f3 (by rw [e]))]
        rw [f1] at g0
        go_wp2_with fail
        go_quiet (fail)
        go_wp2_with fail
        go_ret2
        exact ⟨_, [], by rw [E2.out]; rfl, IntsO.nil _ _, Mk.below_ bel, fun u hu => by rw [E2.out] at hu; cases hu⟩
    · have e1 : (y.kind == x.kind) = false := by simpa using f1
      have E2 : Hid (cellF xs used x = none) := by show _ = _; rw [E.out, if_neg (fun e => f1 (by rw [e]))]
      go_wp2_with fail
      go_quiet (fail)
      go_wp2_with fail
      go_ret2
      exact ⟨_, [], by rw [E2.out]; rfl, IntsO.nil _ _, Mk.below_ bel, fun u hu => by rw [E2.out] at hu; cases hu⟩
end Go.Proofs.YtlmjjflalmegfaaGreat

/- Contracts: the spec's matching of filled atoms. -/
namespace Go.Proofs.YtlmjjflalmegfaaGreat
open Go Go.RowKit Go.Proofs
attribute [local go_sem ↓] Go.wp_at_zero Go.wp_at_succ

--@ spec.l5Begins
def fndI (o : Option Nat) : Int := match o with | some k => k | none => -1
theorem BoolsO.open_ {w : World} {base : Nat} {A : Option Addr} {n c k : Nat} {fs : List Bool} (h : BoolsO w base (.slice A n c) fs) (hk : k < fs.length) : ∃ g cur, n = fs.length ∧ A = some ⟨g, 0, none⟩ ∧ base ≤ g ∧ Blk w g tB cur ∧ cur[k]? = some (.bool fs[k]) ∧
    (∀ v : Bool, BoolsO (w.setCell ⟨g, k, none⟩ (.bool v)) base (.slice A n c) (fs.set k v)) := by
  obtain ⟨⟨hl, h2⟩, hL⟩ := h
  rcases h2 with ⟨e, hn⟩ | ⟨g, cap, cur, e, hb, hh, hn, hm, hs, ht⟩
  · omega
  · injection e with e1 e2 e3
    subst e1 e2 e3
    have hK : Blk w g tB cur := hh
    have hP : Pre cur (encB fs) (fs.length * 1) := by
      intro j hj
      rw [← ht, List.getElem?_take, if_pos hj]; simp
    refine ⟨g, cur, rfl, rfl, hb, hK, (hP _ (by omega)).trans (by simp [List.getElem?_eq_getElem hk]), ?_⟩
    intro v
    refine ⟨?_, by rw [List.length_set]; exact hL⟩
    rw [show encB (fs.set k v) = (encB fs).set k (.bool v) from by simp [encB, List.map_set], List.length_set]
    exact own_of_blk (hK.set_ k (.bool v)) hb (by rw [List.length_set, hl]) (hP.setL k (.bool v) (by rw [hs]; exact Nat.mul_le_mul hn (Nat.le_refl _)) (by rw [hl]; exact Nat.le_refl _)) hn hm (by simpa using hs)
def chainG (xs : List Atm) (b : Int) (n : Nat) (used : List Bool) (c : Int) : Option (List Bool) := if c = b then some used else chainF xs b n used c
def cutB (xs : List Atm) (y : Atm) (b : Int) : Bool := decide (y.kind = 2) && !decide (y.b = b) && !decide (b = 0) && !begB xs b
end Go.Proofs.YtlmjjflalmegfaaGreat

/- Contracts: the spec's model of a case. -/
namespace Go.Proofs.YtlmjjflalmegfaaGreat
open Go Go.RowKit Go.Proofs
attribute [local go_sem ↓] Go.wp_at_zero Go.wp_at_succ

end Go.Proofs.YtlmjjflalmegfaaGreat

/- Contracts: the model of an assertion (both); equal states. -/
namespace Go.Proofs.YtlmjjflalmegfaaGreat
open Go Go.RowKit Go.Proofs
attribute [local go_sem ↓] Go.wp_at_zero Go.wp_at_succ

/-- ModelOf's state: empty where there is none -/
def modelR (a : Asn) : Ste := if consB a then modelL a else ⟨[], []⟩
theorem modelR_no {a : Asn} (h : consB a = false) : modelR a = ⟨[], []⟩ := by unfold modelR; rw [h]; rfl
theorem modelR_yes {a : Asn} (h : consB a = true) : modelR a = modS a ((cases a (caseS a 0)).head?.getD zeros) := by unfold modelR; rw [h, if_pos rfl]; rfl
theorem stateO_none (w : World) (b : Nat) : StateO w b (.agg #[.slice none 0 0, .slice none 0 0]) ⟨[], []⟩ := ⟨_, _, rfl, IntsO.nil _ _, IntsO.nil _ _, fun g h => by simp [Value.ownBlock] at h⟩
theorem head_mem {a : Asn} {S : Nat} (h : (cases a S).isEmpty = false) : (cases a S).head?.getD zeros ∈ cases a S := by
  cases hc : cases a S with
  | nil => rw [hc] at h; cases h
  | cons c cs => exact List.mem_cons_self
theorem StateO.setR {w : World} {b : Nat} {v : Value} {s : Ste} {t : TypeId} (h : StateO w b v s) {g : Nat} {cs : Array Value} (k : Blk w g t cs) (ht : t ≠ tI) (v0 v1 : Value) : StateO ((w.setCell ⟨g, 0, none⟩ v0).setCell ⟨g, 1, none⟩ v1) b v s := by
  obtain ⟨fv, av, e, h1, h2, h3⟩ := h
  exact ⟨fv, av, e, (h1.setT k ht 0 _).setT (k.set_ 0 _) ht 1 _, (h2.setT k ht 0 _).setT (k.set_ 0 _) ht 1 _, h3⟩

--@ impl.ModelOf
set_option maxRecDepth 100000 in
set_option maxHeartbeats 3200000 in
theorem c_impl_ModelOf {lo hi : Nat} (v : Value) (a : Asn) (w : World) (h : AsnV w lo hi v a) (hhi : hi ≤ w.heap.size) :
    Calls Tryz.prog 14 #[v] w fun e w' => ∃ r, e = .returned (.tuple #[r, .bool (consB a)]) ∧ StateO w' w.heap.size r (modelR a) ∧ Below w.heap.size w w' := by
  have hV := Lib.hid h
  obtain ⟨A1, c1, A2, c2, rfl, -, -⟩ := h
  go_enter Tryz.func14, Tryz.ntmps14
  have k0 : Blk ((w.alloc (.cells #[.slice A1 a.facts.length c1, .slice A2 a.atoms.length c2] tAs)).alloc (.cells #[.slice none 0 0, .slice none 0 0] tSt)) w.heap.size tAs #[.slice A1 a.facts.length c1, .slice A2 a.atoms.length c2] := blks
  have k2 : Blk ((w.alloc (.cells #[.slice A1 a.facts.length c1, .slice A2 a.atoms.length c2] tAs)).alloc (.cells #[.slice none 0 0, .slice none 0 0] tSt)) (w.heap.size + 1) tSt #[.slice none 0 0, .slice none 0 0] := blks
  go_wp2_with fail
  refine (c_impl_AssertionValid _ a _ (hV.out.below bel)).mono ?_
  rintro e w1 ⟨rfl, hB1⟩
  have hB : Below w.heap.size w w1 := bgo (w := w) bel hB1
  replace k0 := k0.next hB1
  replace k2 := k2.next hB1
  have hz := hB1.size
  simp only [World.size_alloc] at hz
  clear hB1
  (replace qk0 := k0.cell; replace rk0 := k0.frozen; replace lk0 := k0.lt; replace qk2 := k2.cell; replace rk2 := k2.frozen; replace lk2 := k2.lt)
  cases hv : a.valid
  · have HC : Hid (consB a = false) := by show _ = _; unfold consB; rw [hv]; rfl
    clear hv
    go_wp2_with fail
    refine bodyPost_ret (v := .tuple #[.agg #[.slice none 0 0, .slice none 0 0], .bool false]) (by simp [results, Tryz.results14, go_sem, qk2, lk2]) rfl ⟨_, by rw [HC.out], by rw [modelR_no HC.out]; exact stateO_none _ _, ?_⟩
    exact (hB.setCell (p := ⟨w.heap.size + 1, 0, none⟩) (by simp only; omega) _).setCell (p := ⟨w.heap.size + 1, 1, none⟩) (by simp only; omega) _
  have HV := Lib.hid hv
  have HCE : Hid (consB a = !(cases a (caseS a 0)).isEmpty) := by show _ = _; unfold consB; rw [hv]; rfl
  clear hv
  go_wp2_with fail
  refine (c_impl_firstCase _ a _ (hV.out.below hB) (by omega) HV.out).mono ?_
  rintro e w2 ⟨rfl, hB2⟩
  obtain ⟨c, hc⟩ : ∃ c, c = (cases a (caseS a 0)).head?.getD zeros := ⟨_, rfl⟩
  have HCC := Lib.hid hc
  rw [← hc]
  replace hB := bgo hB hB2
  replace k0 := k0.next hB2
  replace k2 := k2.next hB2
  have HB2 := Lib.hid (bbox hB (.cells (case9 c) tTc))
  have hz2 := hB2.size
  have hne2 : w.heap.size ≠ w2.heap.size := by omega
  have hne3 : w.heap.size + 1 ≠ w2.heap.size := by omega
  have hB0 := hB
  clear hc hB2 hB
  (replace qk0 := k0.cell; replace rk0 := k0.frozen; replace lk0 := k0.lt; replace qk2 := k2.cell; replace rk2 := k2.frozen; replace lk2 := k2.lt)
  cases he : (cases a (caseS a 0)).isEmpty
  · have HC : Hid (consB a = true) := by show _ = _; rw [HCE.out, he]; rfl
    have HMEM : Hid (c ∈ cases a (caseS a 0)) := by show _ ∈ _; rw [HCC.out]; exact head_mem he
    have HR : Hid (modelR a = modS a c) := by show _ = _; rw [modelR_yes HC.out, HCC.out]
    clear he HCE HCC
    go_wp2_with fail
    refine (c_impl_caseState _ a (caseS a 0) c (w2.alloc (.cells (case9 c) tTc)) (hV.out.below HB2.out) HV.out (caseS_zero a 0) (caseS_terms HV.out 0) HMEM.out).mono ?_
    rintro e w6 ⟨r6, rfl, o6, hB6⟩
    rw [World.size_alloc] at o6
    obtain ⟨fv, av, rfl, oV, oH, dj⟩ := id o6
    obtain ⟨X1, d1, rfl, -⟩ := oV.reads
    obtain ⟨X2, d2, rfl, -⟩ := oH.reads
    have O6 := Lib.hid o6
    have HB6 := Lib.hid (bgo HB2.out hB6)
    replace k2 := (k2.alloc (.cells (case9 c) tTc)).next hB6
    clear o6 oV oH dj hB6 k0 qk0 rk0 lk0
    (replace qk2 := k2.cell; replace rk2 := k2.frozen; replace lk2 := k2.lt)
    go_wp2_with fail
    refine bodyPost_ret (v := .tuple #[.agg #[.slice X1 (modS a c).values.length d1, .slice X2 (modS a c).heap.length d2], .bool true]) (by simp [results, Tryz.results14, go_sem, qk2, lk2]) rfl ⟨_, by rw [HC.out], by rw [HR.out]; exact (O6.out.setR k2 (by decide) _ _).lower (by omega), ?_⟩
    exact (HB6.out.setCell (p := ⟨w.heap.size + 1, 0, none⟩) (by simp only; omega) _).setCell (p := ⟨w.heap.size + 1, 1, none⟩) (by simp only; omega) _
  · have HC : Hid (consB a = false) := by show _ = _; rw [HCE.out, he]; rfl
    clear he HCE HCC
    go_wp2_with fail
    refine bodyPost_ret (v := .tuple #[.agg #[.slice none 0 0, .slice none 0 0], .bool false]) (by simp [results, Tryz.results14, go_sem, qk2, lk2]) rfl ⟨_, by rw [HC.out], by rw [modelR_no HC.out]; exact stateO_none _ _, ?_⟩
    exact (((hB0.setCell (p := ⟨w.heap.size + 1, 0, none⟩) (by simp only; omega) _).setCell (p := ⟨w.heap.size + 1, 1, none⟩) (by simp only; omega) _)).alloc (by simp; omega) _

--@ spec.ModelOf
--@
end Go.Proofs.YtlmjjflalmegfaaGreat
