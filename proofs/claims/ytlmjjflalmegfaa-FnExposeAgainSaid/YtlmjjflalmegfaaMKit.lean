/- Contracts: the laws' own helpers on plain data: sizes, copies into impl's types, equality. -/
import Derived.Test.YtlmjjflalmegfaaMDefS
import Derived.Test.YtlmjjflalmegfaaMSte
import Derived.Deep.RegionHeld3
import Derived.Deep.DrawnRows
set_option linter.unusedSimpArgs false
set_option linter.unusedVariables false
namespace Go.Proofs.Ytlmjjflalmegfaa
open Go Go.RowKit Go.Proofs

/-- what is left when n more have been counted -/
def szL (n : Nat) (left : Int) : Int := if left - n < 0 then -1 else left - n
def szA (a : Asn) (left : Int) : Int := if szL a.facts.length left < 0 then -1 else szL a.atoms.length (szL a.facts.length left)
theorem szL_neg {n : Nat} {left : Int} (h : szL n left < 0) : szL n left = -1 := by
  by_cases h3 : left - n < 0
  · rw [szL, if_pos h3]
  · rw [szL, if_neg h3] at h; exact absurd h h3

theorem szL_le {n : Nat} {left : Int} (h : ¬ szL n left < 0) : szL n left = left - n ∧ 0 ≤ left - n := by unfold szL at h ⊢; split <;> simp_all <;> omega
theorem szA_le {a : Asn} {left : Int} (h : ¬ szA a left < 0) : 0 ≤ szA a left ∧ szA a left = left - a.facts.length - a.atoms.length ∧ 0 ≤ left := by
  unfold szA at h ⊢
  split at h
  · omega
  · rename_i h1
    have e1 := szL_le h1
    have e2 := szL_le h
    rw [if_neg h1]
    omega

--@ laws.szFactS
set_option maxHeartbeats 400000 in
theorem c_szFactS (A : Option Addr) (n c : Nat) (left : Int) (w : World) (hn : n ≤ 9223372036854775807) (h0 : 0 ≤ left) (h1 : left ≤ 1048576) : Calls Try.prog 30 #[.slice A n c, .int .i64 left] w fun e w' => e = .returned (.int .i64 (szL n left)) ∧ w = w' := by
  by_cases h : left - n < 0
  all_goals
    go_enter Try.func30, Try.ntmps30
    go_wp2
    go_ret
    exact ⟨ret_int (by simp [szL]; omega), rfl⟩

--@ laws.szAtomS
set_option maxHeartbeats 400000 in
theorem c_szAtomS (A : Option Addr) (n c : Nat) (left : Int) (w : World) (hn : n ≤ 9223372036854775807) (h0 : 0 ≤ left) (h1 : left ≤ 1048576) : Calls Try.prog 31 #[.slice A n c, .int .i64 left] w fun e w' => e = .returned (.int .i64 (szL n left)) ∧ w = w' := by
  by_cases h : left - n < 0
  all_goals
    go_enter Try.func31, Try.ntmps31
    go_wp2
    go_ret
    exact ⟨ret_int (by simp [szL]; omega), rfl⟩

--@ laws.szIntS
--@ laws.szAssertion
set_option maxHeartbeats 400000 in
theorem c_szAssertion (A1 A2 : Option Addr) (c1 c2 : Nat) (a : Asn) (left : Int) (w : World) (hn : a.facts.length ≤ 9223372036854775807) (hm : a.atoms.length ≤ 9223372036854775807) (h0 : 0 ≤ left) (h1 : left ≤ 1048576) : Calls Try.prog 6 #[.agg #[.slice A1 a.facts.length c1, .slice A2 a.atoms.length c2], .int .i64 left] w fun e w' => e = .returned (.int .i64 (szA a left)) ∧ Below w.heap.size w w' := by
  have hle : szL a.facts.length left ≤ left := by unfold szL; split <;> omega
  have hH := Lib.hid (show szA a left = if szL a.facts.length left < 0 then -1 else szL a.atoms.length (szL a.facts.length left) from rfl)
  by_cases h : szL a.facts.length left < 0
  · go_enter Try.func6, Try.ntmps6
    go_wp2_with (go_at_call 30; refine (c_szFactS _ _ _ _ _ hn h0 h1).mono ?_; rintro e w' ⟨rfl, rfl⟩)
    go_ret
    exact ⟨ret_int (by rw [hH.out, if_pos h]), bel⟩
  · by_cases h2 : szL a.atoms.length (szL a.facts.length left) < 0
    all_goals
      go_enter Try.func6, Try.ntmps6
      go_wp2_with (first | (go_at_call 30; refine (c_szFactS _ _ _ _ _ hn h0 h1).mono ?_; rintro e w' ⟨rfl, rfl⟩) | (go_at_call 31; refine (c_szAtomS _ _ _ _ _ hm (by omega) (by omega)).mono ?_; rintro e w' ⟨rfl, rfl⟩))
      go_ret
    · refine ⟨ret_int ?_, bel⟩
      rw [hH.out, if_neg (by omega)]
      exact (szL_neg h2).symm
    · exact ⟨ret_int (by rw [hH.out, if_neg (by omega)]), bel⟩

--@ laws.toFact
set_option maxHeartbeats 400000 in
theorem c_toFact (f : Fct) (w : World) : Calls Try.prog 77 #[f.val] w fun e w' => e = .returned f.val ∧ Below w.heap.size w w' := by
  go_enter Try.func77, Try.ntmps77
  go_wp2
  exact bodyPost_ret (v := f.val) (by simp [results, Try.results77, go_sem]) rfl ⟨rfl, bel⟩

--@ laws.toAtom
set_option maxHeartbeats 400000 in
theorem c_toAtom (f : Atm) (w : World) : Calls Try.prog 78 #[f.val] w fun e w' => e = .returned f.val ∧ Below w.heap.size w w' := by
  go_enter Try.func78, Try.ntmps78
  go_wp2
  exact bodyPost_ret (v := f.val) (by simp [results, Try.results78, go_sem]) rfl ⟨rfl, bel⟩

--@ laws.toFactS
set_option maxHeartbeats 800000 in
theorem c_toFactS {lo hi : Nat} (A : Option Addr) (c : Nat) (fs : List Fct) (w : World) (h : FactsV w lo hi A fs) : Calls Try.prog 36 #[.slice A fs.length c] w fun e w' => ∃ v, e = .returned v ∧ FactsO w' w.heap.size v fs ∧ Below w.heap.size w w' := by
  have hl := h.le
  have hmk := mkF fs.length h.lim
  have hL := len3 (fun f : Fct => Value.bool f.eq) (fun f => .int .i64 f.a) (fun f => .int .i64 f.b) fs
  go_enter Try.func36, Try.ntmps36
  go_wp2
  clear hmk
  go_loopw [4] (fun i wr => ∃ (k : Nat) (cs : Array Value), k ≤ fs.length ∧ i = .int .i64 k ∧ cs.size = fs.length * 3 ∧ Pre cs (encF fs) (k * 3) ∧ Blk wr w.heap.size tF cs ∧ Below w.heap.size w wr) (fun i _ => fs.length - (intOf i).toNat)
  case atStart => exact ⟨0, _, Nat.zero_le _, rfl, size_madeCells _ _, by simpa using Pre.zero _ _, Blk.new _ _ _, bel⟩
  case round =>
    obtain ⟨k, cs, hk, rfl, HS, HP, hK, hB⟩ := hrel
    have HS := Lib.hid HS
    have HP := Lib.hid HP
    have HL := Lib.hid hL; clear hL
    by_cases hlt : k < fs.length
    · obtain ⟨b, off, rfl, c0, c1, c2⟩ := (h.below hB).at hlt
      go_wp2_with fail
      refine (c_toFact fs[k] wr).mono ?_
      rintro e w' ⟨rfl, hB2⟩
      have hK2 := hK.next hB2
      have hs := HS.out
      have q0 : w'.cell? ⟨w.heap.size, k * 3, none⟩ = some (cs[k*3]'(by omega)) := by rw [hK2.cell]; exact Array.getElem?_eq_getElem _
      have q1 : w'.cell? ⟨w.heap.size, k * 3 + 1, none⟩ = some (cs[k*3+1]'(by omega)) := by rw [hK2.cell]; exact Array.getElem?_eq_getElem _
      have q2 : w'.cell? ⟨w.heap.size, k * 3 + 2, none⟩ = some (cs[k*3+2]'(by omega)) := by rw [hK2.cell]; exact Array.getElem?_eq_getElem _
      have r := hK2.frozen
      clear hs
      go_wp2_with fail
      obtain ⟨e0, e1, e2⟩ := flat3 (fun f : Fct => Value.bool f.eq) (fun f => .int .i64 f.a) (fun f => .int .i64 f.b) fs k hlt
      have hs := HS.out
      have hB3 := bgo hB hB2
      go_round
      case rel => exact ⟨k + 1, _, by omega, by go_num, by simp [hs], HP.out.set3 (by omega) e0 e1 e2, ((hK2.set_ _ _).set_ _ _).set_ _ _, bel⟩
      case measure => simp [intOf]; omega
    · go_wp2
      go_ret
      obtain rfl : k = fs.length := by omega
      refine ⟨_, rfl, ⟨own_of_blk hK (Nat.le_refl _) HL.out HP.out (Nat.le_refl _) (by unfold maxLen; omega) HS.out, by unfold Lim; omega⟩, hB⟩
--@ laws.toAtomS
set_option maxHeartbeats 800000 in
theorem c_toAtomS {lo hi : Nat} (A : Option Addr) (c : Nat) (fs : List Atm) (w : World) (h : AtomsV w lo hi A fs) : Calls Try.prog 37 #[.slice A fs.length c] w fun e w' => ∃ v, e = .returned v ∧ AtomsO w' w.heap.size v fs ∧ Below w.heap.size w w' := by
  have hl := h.le
  have hmk := mkA fs.length h.lim
  have hL := len3 (fun f : Atm => Value.int .i64 f.kind) (fun f => .int .i64 f.a) (fun f => .int .i64 f.b) fs
  go_enter Try.func37, Try.ntmps37
  go_wp2
  clear hmk
  go_loopw [4] (fun i wr => ∃ (k : Nat) (cs : Array Value), k ≤ fs.length ∧ i = .int .i64 k ∧ cs.size = fs.length * 3 ∧ Pre cs (encA fs) (k * 3) ∧ Blk wr w.heap.size tA cs ∧ Below w.heap.size w wr) (fun i _ => fs.length - (intOf i).toNat)
  case atStart => exact ⟨0, _, Nat.zero_le _, rfl, size_madeCells _ _, by simpa using Pre.zero _ _, Blk.new _ _ _, bel⟩
  case round =>
    obtain ⟨k, cs, hk, rfl, HS, HP, hK, hB⟩ := hrel
    have HS := Lib.hid HS
    have HP := Lib.hid HP
    have HL := Lib.hid hL; clear hL
    by_cases hlt : k < fs.length
    · obtain ⟨b, off, rfl, c0, c1, c2⟩ := (h.below hB).at hlt
      go_wp2_with fail
      refine (c_toAtom fs[k] wr).mono ?_
      rintro e w' ⟨rfl, hB2⟩
      have hK2 := hK.next hB2
      have hs := HS.out
      have q0 : w'.cell? ⟨w.heap.size, k * 3, none⟩ = some (cs[k*3]'(by omega)) := by rw [hK2.cell]; exact Array.getElem?_eq_getElem _
      have q1 : w'.cell? ⟨w.heap.size, k * 3 + 1, none⟩ = some (cs[k*3+1]'(by omega)) := by rw [hK2.cell]; exact Array.getElem?_eq_getElem _
      have q2 : w'.cell? ⟨w.heap.size, k * 3 + 2, none⟩ = some (cs[k*3+2]'(by omega)) := by rw [hK2.cell]; exact Array.getElem?_eq_getElem _
      have r := hK2.frozen
      clear hs
      go_wp2_with fail
      obtain ⟨e0, e1, e2⟩ := flat3 (fun f : Atm => Value.int .i64 f.kind) (fun f => .int .i64 f.a) (fun f => .int .i64 f.b) fs k hlt
      have hs := HS.out
      have hB3 := bgo hB hB2
      go_round
      case rel => exact ⟨k + 1, _, by omega, by go_num, by simp [hs], HP.out.set3 (by omega) e0 e1 e2, ((hK2.set_ _ _).set_ _ _).set_ _ _, bel⟩
      case measure => simp [intOf]; omega
    · go_wp2
      go_ret
      obtain rfl : k = fs.length := by omega
      refine ⟨_, rfl, ⟨own_of_blk hK (Nat.le_refl _) HL.out HP.out (Nat.le_refl _) (by unfold maxLen; omega) HS.out, by unfold Lim; omega⟩, hB⟩
--@ laws.toIntS
set_option maxHeartbeats 800000 in
theorem c_toIntS {lo hi : Nat} (A : Option Addr) (c : Nat) (fs : List Int) (w : World) (h : IntsV w lo hi A fs) : Calls Try.prog 9 #[.slice A fs.length c] w fun e w' => ∃ v, e = .returned v ∧ IntsO w' w.heap.size v fs ∧ Below w.heap.size w w' := by
  have hl := h.le
  have hmk := mkI fs.length h.lim
  go_enter Try.func9, Try.ntmps9
  go_wp2
  clear hmk
  go_loopw [4] (fun i wr => ∃ (k : Nat) (cs : Array Value), k ≤ fs.length ∧ i = .int .i64 k ∧ cs.size = fs.length * 1 ∧ Pre cs (encI fs) k ∧ Blk wr w.heap.size tI cs ∧ Below w.heap.size w wr) (fun i _ => fs.length - (intOf i).toNat)
  case atStart => exact ⟨0, madeCells #[.int .i64 0] fs.length, Nat.zero_le _, rfl, by rw [size_madeCells]; omega, Pre.zero _ _, Blk.new _ _ _, bel⟩
  case round =>
    obtain ⟨k, cs, hk, rfl, HS, HP, hK, hB⟩ := hrel
    have HS := Lib.hid HS
    have HP := Lib.hid HP
    by_cases hlt : k < fs.length
    · obtain ⟨b, off, rfl, c0⟩ := (h.below hB).at hlt
      have hs := HS.out
      have q0 : wr.cell? ⟨w.heap.size, k, none⟩ = some (cs[k]'(by omega)) := by rw [hK.cell]; exact Array.getElem?_eq_getElem _
      have r := hK.frozen
      clear hs
      go_wp2_with fail
      have hs := HS.out
      go_round
      case rel => exact ⟨k + 1, _, by omega, by go_num, by simp [hs], HP.out.set1 (by omega) (by simp [List.getElem?_eq_getElem hlt]), hK.set_ _ _, bel⟩
      case measure => simp [intOf]; omega
    · go_wp2
      go_ret
      obtain rfl : k = fs.length := by omega
      refine ⟨_, rfl, ⟨own_of_blk hK (Nat.le_refl _) (by simp) (by simpa using HP.out) (Nat.le_refl _) (by unfold maxLen; omega) HS.out, by unfold Lim; omega⟩, hB⟩

--@ laws.toAssertion
set_option maxHeartbeats 800000 in
theorem c_toAssertion {lo hi : Nat} (v : Value) (a : Asn) (w : World) (h : AsnV w lo hi v a) : Calls Try.prog 8 #[v] w fun e w' => ∃ v, e = .returned v ∧ AsnO w' w.heap.size v a ∧ Below w.heap.size w w' := by
  obtain ⟨A1, c1, A2, c2, rfl, h1, h2⟩ := h
  go_enter Try.func8, Try.ntmps8
  go_wp2_with fail
  refine (c_toFactS A1 c1 a.facts _ (h1.below bel)).mono ?_
  rintro e w1 ⟨v1, rfl, ho1, hB1⟩
  obtain ⟨F1, d1, rfl, -⟩ := ho1.reads
  have hB := bgo (w := w) bel hB1
  have k0 := (((Blk.new w _ _).alloc _).alloc _).next hB1
  have k1 := ((Blk.new (w.alloc _) _ _).alloc _).next hB1
  have k2 := (Blk.new ((w.alloc _).alloc _) _ _).next hB1
  simp only [World.size_alloc] at k1 k2 ho1
  have q0 := k0.cell
  have q2 := k2.cell
  have r2 := k2.frozen
  go_wp2_with fail
  refine (c_toAtomS A2 c2 a.atoms _ (h2.below bel)).mono ?_
  rintro e w2 ⟨v2, rfl, ho2, hB2⟩
  obtain ⟨F2, d2, rfl, -⟩ := ho2.reads
  have g1 := (k1.far (p := ⟨w.heap.size + 1 + 1, 0, none⟩) (by simp) _).next hB2
  have g2 := (k2.set_ 0 (.slice F1 a.facts.length d1)).next hB2
  have ho1' := ho1
  clear q0 q2 r2 k0 k1 k2
  have q1 := g1.cell
  have r1 := g1.frozen
  have q2 := g2.cell
  have r2 := g2.frozen
  go_wp2_with fail
  have hz : w.heap.size + 1 + 1 + 1 ≤ w1.heap.size := by have := hB1.size; simpa using this
  have hB3 := bgo (w := w) bel hB2
  have o1 := ((((ho1.setb (a := ⟨w.heap.size + 1 + 1, 0, none⟩) (by simp) (.slice F1 a.facts.length d1)).below hB2).setb (a := ⟨w.heap.size + 1 + 1, 1, none⟩) (by simp) (.slice F2 a.atoms.length d2)).setb (a := ⟨w.heap.size + 1, 0, none⟩) (by simp only; omega) (.slice F1 a.facts.length d1)).setb (a := ⟨w.heap.size + 1, 1, none⟩) (by simp only; omega) (.slice F2 a.atoms.length d2)
  have o2 := ((ho2.setb (a := ⟨w.heap.size + 1 + 1, 1, none⟩) (by simp; omega) (.slice F2 a.atoms.length d2)).setb (a := ⟨w.heap.size + 1, 0, none⟩) (by simp; omega) (.slice F1 a.facts.length d1)).setb (a := ⟨w.heap.size + 1, 1, none⟩) (by simp; omega) (.slice F2 a.atoms.length d2)
  refine bodyPost_ret (v := .agg #[.slice F1 a.facts.length d1, .slice F2 a.atoms.length d2]) (by simp [results, Try.results8, go_sem, q1]) rfl ⟨_, rfl, ⟨_, _, rfl, o1.lower (by omega), o2.lower (by simp; omega)⟩, bel⟩

--@ laws.toContract
--@ laws.eqFact
set_option maxHeartbeats 400000 in
theorem c_eqFact (f g : Fct) (w : World) : Calls Try.prog 86 #[f.val, g.val] w fun e w' => e = .returned (.bool (decide (f = g))) ∧ Below w.heap.size w w' := by
  have hE : Hid (decide (f = g) = decide (f.eq = g.eq ∧ f.a = g.a ∧ f.b = g.b)) := decide_eq_decide.2 (Fct.eq_iff f g)
  go_enter Try.func86, Try.ntmps86
  go_wp2
  all_goals
    go_ret
    exact ⟨ret_bool (by rw [hE.out]; simp_all), bel⟩

--@ laws.eqAtom
set_option maxHeartbeats 400000 in
theorem c_eqAtom (f g : Atm) (w : World) : Calls Try.prog 87 #[f.val, g.val] w fun e w' => e = .returned (.bool (decide (f = g))) ∧ Below w.heap.size w w' := by
  have hE : Hid (decide (f = g) = decide (f.kind = g.kind ∧ f.a = g.a ∧ f.b = g.b)) := decide_eq_decide.2 (Atm.eq_iff f g)
  go_enter Try.func87, Try.ntmps87
  go_wp2
  all_goals
    go_ret
    exact ⟨ret_bool (by rw [hE.out]; simp_all), bel⟩

--@ laws.eqFactS
set_option maxRecDepth 100000 in
set_option maxHeartbeats 800000 in
theorem c_eqFactS {lo hi lo' hi' : Nat} (A A' : Option Addr) (c c' : Nat) (fs gs : List Fct) (w : World) (h : FactsV w lo hi A fs) (h' : FactsV w lo' hi' A' gs) : Calls Try.prog 42 #[.slice A fs.length c, .slice A' gs.length c'] w fun e w' => e = .returned (.bool (decide (fs = gs))) ∧ Below w.heap.size w w' := by
  have hl := h.le
  have hl' := h'.le
  by_cases hn : fs.length = gs.length
  · have hne : (fs.length != gs.length) = false := by simpa using hn
    have hne' : ((fs.length : Int) != (gs.length : Int)) = false := by simp [hn]
    have HN := Lib.hid hn
    clear hn
    go_enter Try.func42, Try.ntmps42
    go_wp2
    go_loopw [5] (fun i wr => ∃ k : Nat, k ≤ fs.length ∧ i = .int .i64 k ∧ Hid (decide (fs = gs) = decide (fs.drop k = gs.drop k)) ∧ Below w.heap.size w wr) (fun i _ => fs.length - (intOf i).toNat)
    case atStart => exact ⟨0, Nat.zero_le _, rfl, by simp [Hid], bel⟩
    case round =>
      obtain ⟨k, hk, rfl, HA, hB⟩ := hrel
      clear hne hne'
      by_cases hlt : k < fs.length
      · have hlt' : k < gs.length := by have := HN.out; omega
        have HD := Lib.hid (drop_eq fs gs k hlt hlt')
        obtain ⟨b, off, rfl, c0, c1, c2⟩ := (h.below hB).at hlt
        obtain ⟨b', off', rfl, d0, d1, d2⟩ := (h'.below hB).at hlt'
        cases he : decide (fs[k] = gs[k])
        · go_wp2_with fail
          go_still_tail 8, (by kernel_rfl)
          change wpList _ _ _ _ _ wr.drew
          have hBd := hB.drew
          clear hB
          generalize wr.drew = wd at *
          go_wp2_with (go_at_call 86; refine (c_eqFact fs[k] gs[k] _).mono ?_; rintro e w' ⟨rfl, hB2⟩)
          go_ret
          exact ⟨ret_bool (by rw [HA.out, HD.out, he]; rfl), bgo hBd hB2⟩
        · go_wp2_with fail
          go_still_tail 8, (by kernel_rfl)
          change wpList _ _ _ _ _ wr.drew
          have hBd := hB.drew
          clear hB
          generalize wr.drew = wd at *
          go_wp2_with (go_at_call 86; refine (c_eqFact fs[k] gs[k] _).mono ?_; rintro e w' ⟨rfl, hB2⟩)
          go_round
          case rel => exact ⟨k + 1, by omega, by go_num, by show _ = _; rw [HA.out, HD.out, he]; rfl, bgo hBd hB2⟩
          case measure => simp [intOf]; omega
      · go_wp2
        go_ret
        obtain rfl : k = fs.length := by omega
        exact ⟨ret_bool (by rw [HA.out, List.drop_length, HN.out, List.drop_length]; simp), hB⟩
  · have hne : (fs.length != gs.length) = true := by simpa using hn
    have HN := Lib.hid hn
    clear hn
    go_enter Try.func42, Try.ntmps42
    go_wp2
    go_ret
    exact ⟨ret_bool (by symm; rw [decide_eq_false_iff_not]; intro e; exact HN.out (by rw [e])), bel⟩

--@ laws.eqAtomS
set_option maxRecDepth 100000 in
set_option maxHeartbeats 800000 in
theorem c_eqAtomS {lo hi lo' hi' : Nat} (A A' : Option Addr) (c c' : Nat) (fs gs : List Atm) (w : World) (h : AtomsV w lo hi A fs) (h' : AtomsV w lo' hi' A' gs) : Calls Try.prog 43 #[.slice A fs.length c, .slice A' gs.length c'] w fun e w' => e = .returned (.bool (decide (fs = gs))) ∧ Below w.heap.size w w' := by
  have hl := h.le
  have hl' := h'.le
  by_cases hn : fs.length = gs.length
  · have hne : (fs.length != gs.length) = false := by simpa using hn
    have hne' : ((fs.length : Int) != (gs.length : Int)) = false := by simp [hn]
    have HN := Lib.hid hn
    clear hn
    go_enter Try.func43, Try.ntmps43
    go_wp2
    go_loopw [5] (fun i wr => ∃ k : Nat, k ≤ fs.length ∧ i = .int .i64 k ∧ Hid (decide (fs = gs) = decide (fs.drop k = gs.drop k)) ∧ Below w.heap.size w wr) (fun i _ => fs.length - (intOf i).toNat)
    case atStart => exact ⟨0, Nat.zero_le _, rfl, by simp [Hid], bel⟩
    case round =>
      obtain ⟨k, hk, rfl, HA, hB⟩ := hrel
      clear hne hne'
      by_cases hlt : k < fs.length
      · have hlt' : k < gs.length := by have := HN.out; omega
        have HD := Lib.hid (drop_eq fs gs k hlt hlt')
        obtain ⟨b, off, rfl, c0, c1, c2⟩ := (h.below hB).at hlt
        obtain ⟨b', off', rfl, d0, d1, d2⟩ := (h'.below hB).at hlt'
        cases he : decide (fs[k] = gs[k])
        · go_wp2_with fail
          go_still_tail 8, (by kernel_rfl)
          change wpList _ _ _ _ _ wr.drew
          have hBd := hB.drew
          clear hB
          generalize wr.drew = wd at *
          go_wp2_with (go_at_call 87; refine (c_eqAtom fs[k] gs[k] _).mono ?_; rintro e w' ⟨rfl, hB2⟩)
          go_ret
          exact ⟨ret_bool (by rw [HA.out, HD.out, he]; rfl), bgo hBd hB2⟩
        · go_wp2_with fail
          go_still_tail 8, (by kernel_rfl)
          change wpList _ _ _ _ _ wr.drew
          have hBd := hB.drew
          clear hB
          generalize wr.drew = wd at *
          go_wp2_with (go_at_call 87; refine (c_eqAtom fs[k] gs[k] _).mono ?_; rintro e w' ⟨rfl, hB2⟩)
          go_round
          case rel => exact ⟨k + 1, by omega, by go_num, by show _ = _; rw [HA.out, HD.out, he]; rfl, bgo hBd hB2⟩
          case measure => simp [intOf]; omega
      · go_wp2
        go_ret
        obtain rfl : k = fs.length := by omega
        exact ⟨ret_bool (by rw [HA.out, List.drop_length, HN.out, List.drop_length]; simp), hB⟩
  · have hne : (fs.length != gs.length) = true := by simpa using hn
    have HN := Lib.hid hn
    clear hn
    go_enter Try.func43, Try.ntmps43
    go_wp2
    go_ret
    exact ⟨ret_bool (by symm; rw [decide_eq_false_iff_not]; intro e; exact HN.out (by rw [e])), bel⟩

--@ laws.eqIntS
set_option maxHeartbeats 800000 in
theorem c_eqIntS {lo hi lo' hi' : Nat} (A A' : Option Addr) (c c' : Nat) (fs gs : List Int) (w : World) (h : IntsV w lo hi A fs) (h' : IntsV w lo' hi' A' gs) : Calls Try.prog 13 #[.slice A fs.length c, .slice A' gs.length c'] w fun e w' => e = .returned (.bool (decide (fs = gs))) ∧ Below w.heap.size w w' := by
  have hl := h.le
  have hl' := h'.le
  by_cases hn : fs.length = gs.length
  · have hne : (fs.length != gs.length) = false := by simpa using hn
    have hne' : ((fs.length : Int) != (gs.length : Int)) = false := by simp [hn]
    have HN := Lib.hid hn
    clear hn
    go_enter Try.func13, Try.ntmps13
    go_wp2
    go_loopw [5] (fun i wr => ∃ k : Nat, k ≤ fs.length ∧ i = .int .i64 k ∧ Hid (decide (fs = gs) = decide (fs.drop k = gs.drop k)) ∧ Below w.heap.size w wr) (fun i _ => fs.length - (intOf i).toNat)
    case atStart => exact ⟨0, Nat.zero_le _, rfl, by simp [Hid], bel⟩
    case round =>
      obtain ⟨k, hk, rfl, HA, hB⟩ := hrel
      clear hne hne'
      by_cases hlt : k < fs.length
      · have hlt' : k < gs.length := by have := HN.out; omega
        have HD := Lib.hid (drop_eq fs gs k hlt hlt')
        obtain ⟨b, off, rfl, c0⟩ := (h.below hB).at hlt
        obtain ⟨b', off', rfl, d0⟩ := (h'.below hB).at hlt'
        cases hne : (fs[k] != gs[k])
        · have he := Lib.hid (show decide (fs[k] = gs[k]) = true by simpa using hne)
          go_wp2_with fail
          go_quiet (fail)
          go_wp2_with fail
          go_round
          case rel => exact ⟨k + 1, by omega, by go_num, by show _ = _; rw [HA.out, HD.out, he.out]; rfl, below_drewN hB _⟩
          case measure => simp [intOf]; omega
        · have he := Lib.hid (show decide (fs[k] = gs[k]) = false by simpa using hne)
          go_wp2_with fail
          go_quiet (fail)
          go_wp2_with fail
          go_ret
          exact ⟨ret_bool (by rw [HA.out, HD.out, he.out]; rfl), below_drewN hB _⟩
      · go_wp2
        go_ret
        obtain rfl : k = fs.length := by omega
        exact ⟨ret_bool (by rw [HA.out, List.drop_length, HN.out, List.drop_length]; simp), hB⟩
  · have hne : (fs.length != gs.length) = true := by simpa using hn
    have HN := Lib.hid hn
    clear hn
    go_enter Try.func13, Try.ntmps13
    go_wp2
    go_ret
    exact ⟨ret_bool (by symm; rw [decide_eq_false_iff_not]; intro e; exact HN.out (by rw [e])), bel⟩

--@ laws.eqAssertion
set_option maxHeartbeats 800000 in
theorem c_eqAssertion {lo hi lo' hi' : Nat} (v v' : Value) (a a' : Asn) (w : World) (h : AsnV w lo hi v a) (h' : AsnV w lo' hi' v' a') : Calls Try.prog 12 #[v, v'] w fun e w' => e = .returned (.bool (decide (a = a'))) ∧ Below w.heap.size w w' := by
  obtain ⟨A1, c1, A2, c2, rfl, h1, h2⟩ := h
  obtain ⟨A3, c3, A4, c4, rfl, h3, h4⟩ := h'
  have hE : Hid (decide (a = a') = decide (a.facts = a'.facts ∧ a.atoms = a'.atoms)) := decide_eq_decide.2 (Asn.eq_iff a a')
  go_enter Try.func12, Try.ntmps12
  go_wp2_with fail
  refine (c_eqFactS A1 A3 c1 c3 a.facts a'.facts _ (h1.below bel) (h3.below bel)).mono ?_
  rintro e w1 ⟨rfl, hB1⟩
  have hB := bgo (w := w) bel hB1
  have k0 := (Blk.next (g := w.heap.size) (((Blk.new w _ _).alloc _)) hB1).cell
  have k1 := (Blk.next (g := w.heap.size + 1) (by rw [← World.size_alloc]; exact Blk.new (w.alloc _) _ _) hB1).cell
  cases hd : decide (a.facts = a'.facts)
  · go_wp2_with fail
    go_ret
    exact ⟨ret_bool (by rw [hE.out, Bool.decide_and, hd]; rfl), hB⟩
  · go_wp2_with fail
    refine (c_eqAtomS A2 A4 c2 c4 a.atoms a'.atoms _ (h2.below hB) (h4.below hB)).mono ?_
    rintro e w2 ⟨rfl, hB2⟩
    cases hd2 : decide (a.atoms = a'.atoms)
    all_goals
      go_wp2_with fail
      go_ret
      exact ⟨ret_bool (by rw [hE.out, Bool.decide_and, hd, hd2]; rfl), bgo hB hB2⟩

--@ laws.eqContract
end Go.Proofs.Ytlmjjflalmegfaa

/- Arguments that are states; marks. -/
namespace Go.Proofs.Ytlmjjflalmegfaa
open Go Go.RowKit Go.Proofs

/-- an owned list whose block lies under hi -/
def Und (v : Value) (hi : Nat) : Prop := ∀ g, v.ownBlock = some g → g < hi
theorem IntsO.und {w : World} {base : Nat} {v : Value} {xs : List Int} (h : IntsO w base v xs) : Und v w.heap.size := fun g hg => (h.1.lt g hg).2
theorem FactsO.und {w : World} {base : Nat} {v : Value} {xs : List Fct} (h : FactsO w base v xs) : Und v w.heap.size := fun g hg => (h.1.lt g hg).2
theorem AtomsO.und {w : World} {base : Nat} {v : Value} {xs : List Atm} (h : AtomsO w base v xs) : Und v w.heap.size := fun g hg => (h.1.lt g hg).2
theorem Und.mono {v : Value} {a b : Nat} (h : Und v a) (hab : a ≤ b) : Und v b := fun g hg => Nat.lt_of_lt_of_le (h g hg) hab
/-- only blocks of p have changed; more may have come -/
structure Mk (p : Nat → Prop) (w w' : World) : Prop where
  os : w'.os = w.os
  tape : w'.tape = w.tape
  output : w'.output = w.output
  size : w.heap.size ≤ w'.heap.size
  block : ∀ k, k < w.heap.size → ¬ p k → w'.heap[k]? = w.heap[k]?
section
variable {p q : Nat → Prop} {w a b : World}
theorem Mk.refl (p : Nat → Prop) (w : World) : Mk p w w := ⟨rfl, rfl, rfl, Nat.le_refl _, fun _ _ _ => rfl⟩
theorem Mk.trans (h : Mk p w a) (h2 : Mk p a b) : Mk p w b := ⟨h2.os.trans h.os, h2.tape.trans h.tape, h2.output.trans h.output, Nat.le_trans h.size h2.size, fun k hk hp => (h2.block k (Nat.lt_of_lt_of_le hk h.size) hp).trans (h.block k hk hp)⟩
theorem Mk.mono (h : Mk p w a) (hpq : ∀ k, p k → q k) : Mk q w a := ⟨h.os, h.tape, h.output, h.size, fun k hk hq => h.block k hk fun hp => hq (hpq k hp)⟩
theorem Mk.set (h : Mk p w a) {x : Addr} (hx : p x.block) (u : Value) : Mk p w (a.setCell x u) := h.trans ⟨rfl, rfl, rfl, by simp, fun k _ hk => Below.heap_setCell a x u k (fun e => hk (e ▸ hx))⟩
theorem Mk.below_ (h : Below w.heap.size w a) : Mk p w a := ⟨h.os, h.tape, h.output, h.size, fun k hk _ => h.block k hk⟩
theorem Mk.below {lo : Nat} (h : Mk p w a) (hp : ∀ k, p k → lo ≤ k) (hl : lo ≤ w.heap.size) : Below lo w a := ⟨h.os, h.tape, h.output, h.size, fun k hk => h.block k (by omega) fun hp' => by have := hp k hp'; omega⟩
theorem Mk.abv {hi : Nat} (h : Mk p w a) (hp : ∀ k, p k → k < hi) : Abv hi w a := ⟨h.size, fun k h1 h2 => h.block k h2 fun hp' => by have := hp k hp'; omega⟩
theorem Mk.blk {g : Nat} {t : TypeId} {cs : Array Value} (h : Mk p w a) (hk : Blk w g t cs) (hg : ¬ p g) : Blk a g t cs := (h.block g hk.lt hg).trans hk
end
theorem own_mk {p : Nat → Prop} {w w' : World} {base : Nat} {e : TypeId} {size : Nat} {v : Value} {n : Nat} {xs : List Value} (h : w.ownsRow base e size v n xs) (hb : Mk p w w') (hp : ∀ g, v.ownBlock = some g → ¬ p g) : w'.ownsRow base e size v n xs := by
  obtain ⟨h1, h2⟩ := h
  refine ⟨h1, ?_⟩
  rcases h2 with h2 | ⟨g, cap, cur, hv, hg, hh, r⟩
  · exact Or.inl h2
  · exact Or.inr ⟨g, cap, cur, hv, hg, (hb.block g (Blk.lt hh) (hp g (by rw [hv]; rfl))).trans hh, r⟩
def iota (k : Int) (n : Nat) : List Int := (List.range n).map fun i : Nat => k + i
theorem iota_length (k : Int) (n : Nat) : (iota k n).length = n := by simp [iota]
theorem iota_get (k : Int) (n i : Nat) (h : i < n) : (iota k n)[i]? = some (k + i) := by simp [iota, h]

--@ laws.markIntS
set_option maxHeartbeats 800000 in
theorem c_markIntS (v : Value) (xs : List Int) (k : Int) (base : Nat) (w : World) (h : IntsO w base v xs) (h0 : 0 ≤ k) (h1 : k ≤ 1099511627776) : Calls Try.prog 15 #[v, .int .i64 k] w fun e w' => e = .returned (.int .i64 (k + xs.length)) ∧ IntsO w' base v (iota k xs.length) ∧ Mk (fun g => v.ownBlock = some g) w w' := by
  obtain ⟨⟨hl, h2⟩, hL⟩ := h
  have hL' : xs.length ≤ 1049600 := hL
  rcases h2 with ⟨rfl, hn⟩ | ⟨g, cap, cur, rfl, hb, hh, hn, hm, hs, ht⟩
  · go_enter Try.func15, Try.ntmps15
    go_wp2
    go_loop [1, 5] (fun m i => m = .int .i64 k ∧ i = .int .i64 0) (fun _ i => 0)
    case atStart => exact ⟨rfl, rfl⟩
    case round =>
      obtain ⟨rfl, rfl⟩ := hrel
      go_wp2
      go_ret
      have e : xs = [] := List.length_eq_zero_iff.1 hn
      subst e
      exact ⟨by simp, IntsO.nil _ _, Mk.refl _ _⟩
  · have hK : Blk w g tI cur := hh
    have HS := Lib.hid hs
    clear hs ht hh hl
    go_enter Try.func15, Try.ntmps15
    go_wp2
    go_loopw [1, 5] (fun m i wr => ∃ (j : Nat) (cs : Array Value), j ≤ xs.length ∧ i = .int .i64 j ∧ m = .int .i64 (k + j) ∧ Hid (cs.size = cap * 1) ∧ Hid (Pre cs (encI (iota k xs.length)) j) ∧ Blk wr g tI cs ∧ Mk (fun g' => Value.ownBlock (.slice (some ⟨g, 0, none⟩) xs.length cap) = some g') w wr) (fun _ i _ => xs.length - (intOf i).toNat)
    case atStart => exact ⟨0, cur, Nat.zero_le _, rfl, by simp, HS.out, Pre.zero _ _, hK, Mk.refl _ _⟩
    case round =>
      obtain ⟨j, cs, hj, rfl, rfl, HS2, HP, hK2, hM⟩ := hrel
      by_cases hlt : j < xs.length
      · have hs := HS2.out
        obtain ⟨u, hu⟩ : ∃ u, cs[j]? = some u := ⟨_, Array.getElem?_eq_getElem (by omega)⟩
        have q0 : wr.cell? ⟨g, j, none⟩ = some u := by rw [hK2.cell, hu]
        have r := hK2.frozen
        clear hs hu
        go_wp2_with fail
        have hs := HS2.out
        go_round
        case rel => exact ⟨j + 1, _, by omega, by go_num, by push_cast; congr 1; omega, by show _ = _; simp [hs], HP.out.set1 (by omega) (by rw [List.getElem?_map, iota_get _ _ _ hlt]; rfl), hK2.set_ _ _, hM.set (x := ⟨g, j, none⟩) rfl _⟩
        case measure => simp [intOf]; omega
      · go_wp2
        go_ret
        obtain rfl : j = xs.length := by omega
        have hs := HS2.out
        exact ⟨rfl, ⟨by rw [iota_length]; exact own_of_blk hK2 hb (by simp [iota]) (by simpa using HP.out) hn hm (by simpa using hs), by rw [iota_length]; exact hL⟩, hM⟩

--@ laws.heldIntS
--@ laws.markFactS
def markF (k : Int) (n : Nat) : List Fct := (List.range n).map fun i : Nat => ⟨k % 3 == 0, k + 3 * i + 1, k + 3 * i + 1 + 1⟩
theorem markF_length (k : Int) (n : Nat) : (markF k n).length = n := by simp [markF]
theorem markF_get (k : Int) (n i : Nat) (h : i < n) : (markF k n)[i]'(by rw [markF_length]; exact h) = ⟨k % 3 == 0, k + 3 * i + 1, k + 3 * i + 1 + 1⟩ := by simp [markF]
set_option maxHeartbeats 1600000 in
theorem c_markFactS (v : Value) (xs : List Fct) (k : Int) (base : Nat) (w : World) (h : FactsO w base v xs) (h0 : 0 ≤ k) (h1 : k ≤ 1099511627776) : Calls Try.prog 44 #[v, .int .i64 k] w fun e w' => e = .returned (.int .i64 (k + 3 * xs.length)) ∧ FactsO w' base v (markF k xs.length) ∧ Mk (fun g => v.ownBlock = some g) w w' := by
  obtain ⟨⟨hl, h2⟩, hL⟩ := h
  have hL' : xs.length ≤ 1049600 := hL
  rcases h2 with ⟨rfl, hn⟩ | ⟨g, cap, cur, rfl, hb, hh, hn, hm, hs, ht⟩
  · go_enter Try.func44, Try.ntmps44
    go_wp2
    go_loop [1, 5] (fun m i => m = .int .i64 k ∧ i = .int .i64 0) (fun _ i => 0)
    case atStart => exact ⟨rfl, rfl⟩
    case round =>
      obtain ⟨rfl, rfl⟩ := hrel
      go_wp2
      go_ret
      have e : xs = [] := List.length_eq_zero_iff.1 hn
      subst e
      exact ⟨by simp, ⟨World.ownsRow_nil _ _ _ _, by simp [Lim, markF]⟩, Mk.refl _ _⟩
  · have hK : Blk w g tF cur := hh
    have HS := Lib.hid hs
    clear hs ht hh hl
    go_enter Try.func44, Try.ntmps44
    go_wp2
    go_loopw [1, 5] (fun m i wr => ∃ (j : Nat) (cs : Array Value), j ≤ xs.length ∧ i = .int .i64 j ∧ m = .int .i64 (k + 3 * j) ∧ Hid (cs.size = cap * 3) ∧ Hid (Pre cs (encF (markF k xs.length)) (j * 3)) ∧ Blk wr g tF cs ∧ Mk (fun g' => Value.ownBlock (.slice (some ⟨g, 0, none⟩) xs.length cap) = some g') w wr) (fun _ i _ => xs.length - (intOf i).toNat)
    case atStart => exact ⟨0, cur, Nat.zero_le _, rfl, by simp, HS.out, Pre.zero _ _, hK, Mk.refl _ _⟩
    case round =>
      obtain ⟨j, cs, hj, rfl, rfl, HS2, HP, hK2, hM⟩ := hrel
      by_cases hlt : j < xs.length
      · have hs := HS2.out
        obtain ⟨u0, hu0⟩ : ∃ u, cs[j * 3]? = some u := ⟨_, Array.getElem?_eq_getElem (by omega)⟩
        obtain ⟨u1, hu1⟩ : ∃ u, cs[j * 3 + 1]? = some u := ⟨_, Array.getElem?_eq_getElem (by omega)⟩
        obtain ⟨u2, hu2⟩ : ∃ u, cs[j * 3 + 2]? = some u := ⟨_, Array.getElem?_eq_getElem (by omega)⟩
        have q0 : wr.cell? ⟨g, j * 3, none⟩ = some u0 := by rw [hK2.cell, hu0]
        have q1 : wr.cell? ⟨g, j * 3 + 1, none⟩ = some u1 := by rw [hK2.cell, hu1]
        have q2 : wr.cell? ⟨g, j * 3 + 2, none⟩ = some u2 := by rw [hK2.cell, hu2]
        have r := hK2.frozen
        clear hs hu0 hu1 hu2
        go_wp2_with fail
        have hs := HS2.out
        go_round
        case rel =>
          obtain ⟨t0, t1, t2⟩ := flat3 (fun f : Fct => .bool f.eq) (fun f => .int .i64 f.a) (fun f => .int .i64 f.b) (markF k xs.length) j (by rw [markF_length]; exact hlt)
          rw [markF_get _ _ _ hlt] at t0 t1 t2
          refine ⟨j + 1, _, by omega, by go_num, by push_cast; congr 1; omega, ?_, HP.out.set3 (by omega) t0 t1 t2, ((hK2.set_ _ _).set_ _ _).set_ _ _, ((hM.set (x := ⟨g, j * 3, none⟩) rfl _).set (x := ⟨g, j * 3 + 1, none⟩) rfl _).set (x := ⟨g, j * 3 + 2, none⟩) rfl _⟩
          show _ = _; simp [hs]
        case measure => simp [intOf]; omega
      · go_wp2
        go_ret
        obtain rfl : j = xs.length := by omega
        have hs := HS2.out
        exact ⟨rfl, ⟨by rw [markF_length]; exact own_of_blk hK2 hb (by rw [len3, markF_length]) (by simpa using HP.out) hn hm (by simpa using hs), by rw [markF_length]; exact hL⟩, hM⟩

--@ laws.markAtomS
def markA (k : Int) (n : Nat) : List Atm := (List.range n).map fun i : Nat => ⟨k + 3 * i, k + 3 * i + 1, k + 3 * i + 1 + 1⟩
theorem markA_length (k : Int) (n : Nat) : (markA k n).length = n := by simp [markA]
theorem markA_get (k : Int) (n i : Nat) (h : i < n) : (markA k n)[i]'(by rw [markA_length]; exact h) = ⟨k + 3 * i, k + 3 * i + 1, k + 3 * i + 1 + 1⟩ := by simp [markA]
set_option maxHeartbeats 1600000 in
theorem c_markAtomS (v : Value) (xs : List Atm) (k : Int) (base : Nat) (w : World) (h : AtomsO w base v xs) (h0 : 0 ≤ k) (h1 : k ≤ 1099511627776) : Calls Try.prog 45 #[v, .int .i64 k] w fun e w' => e = .returned (.int .i64 (k + 3 * xs.length)) ∧ AtomsO w' base v (markA k xs.length) ∧ Mk (fun g => v.ownBlock = some g) w w' := by
  obtain ⟨⟨hl, h2⟩, hL⟩ := h
  have hL' : xs.length ≤ 1049600 := hL
  rcases h2 with ⟨rfl, hn⟩ | ⟨g, cap, cur, rfl, hb, hh, hn, hm, hs, ht⟩
  · go_enter Try.func45, Try.ntmps45
    go_wp2
    go_loop [1, 5] (fun m i => m = .int .i64 k ∧ i = .int .i64 0) (fun _ i => 0)
    case atStart => exact ⟨rfl, rfl⟩
    case round =>
      obtain ⟨rfl, rfl⟩ := hrel
      go_wp2
      go_ret
      have e : xs = [] := List.length_eq_zero_iff.1 hn
      subst e
      exact ⟨by simp, ⟨World.ownsRow_nil _ _ _ _, by simp [Lim, markA]⟩, Mk.refl _ _⟩
  · have hK : Blk w g tA cur := hh
    have HS := Lib.hid hs
    clear hs ht hh hl
    go_enter Try.func45, Try.ntmps45
    go_wp2
    go_loopw [1, 5] (fun m i wr => ∃ (j : Nat) (cs : Array Value), j ≤ xs.length ∧ i = .int .i64 j ∧ m = .int .i64 (k + 3 * j) ∧ Hid (cs.size = cap * 3) ∧ Hid (Pre cs (encA (markA k xs.length)) (j * 3)) ∧ Blk wr g tA cs ∧ Mk (fun g' => Value.ownBlock (.slice (some ⟨g, 0, none⟩) xs.length cap) = some g') w wr) (fun _ i _ => xs.length - (intOf i).toNat)
    case atStart => exact ⟨0, cur, Nat.zero_le _, rfl, by simp, HS.out, Pre.zero _ _, hK, Mk.refl _ _⟩
    case round =>
      obtain ⟨j, cs, hj, rfl, rfl, HS2, HP, hK2, hM⟩ := hrel
      by_cases hlt : j < xs.length
      · have hs := HS2.out
        obtain ⟨u0, hu0⟩ : ∃ u, cs[j * 3]? = some u := ⟨_, Array.getElem?_eq_getElem (by omega)⟩
        obtain ⟨u1, hu1⟩ : ∃ u, cs[j * 3 + 1]? = some u := ⟨_, Array.getElem?_eq_getElem (by omega)⟩
        obtain ⟨u2, hu2⟩ : ∃ u, cs[j * 3 + 2]? = some u := ⟨_, Array.getElem?_eq_getElem (by omega)⟩
        have q0 : wr.cell? ⟨g, j * 3, none⟩ = some u0 := by rw [hK2.cell, hu0]
        have q1 : wr.cell? ⟨g, j * 3 + 1, none⟩ = some u1 := by rw [hK2.cell, hu1]
        have q2 : wr.cell? ⟨g, j * 3 + 2, none⟩ = some u2 := by rw [hK2.cell, hu2]
        have r := hK2.frozen
        clear hs hu0 hu1 hu2
        go_wp2_with fail
        have hs := HS2.out
        go_round
        case rel =>
          obtain ⟨t0, t1, t2⟩ := flat3 (fun f : Atm => .int .i64 f.kind) (fun f => .int .i64 f.a) (fun f => .int .i64 f.b) (markA k xs.length) j (by rw [markA_length]; exact hlt)
          rw [markA_get _ _ _ hlt] at t0 t1 t2
          refine ⟨j + 1, _, by omega, by go_num, by push_cast; congr 1; omega, ?_, HP.out.set3 (by omega) t0 t1 t2, ((hK2.set_ _ _).set_ _ _).set_ _ _, ((hM.set (x := ⟨g, j * 3, none⟩) rfl _).set (x := ⟨g, j * 3 + 1, none⟩) rfl _).set (x := ⟨g, j * 3 + 2, none⟩) rfl _⟩
          show _ = _; simp [hs]
        case measure => simp [intOf]; omega
      · go_wp2
        go_ret
        obtain rfl : j = xs.length := by omega
        have hs := HS2.out
        exact ⟨rfl, ⟨by rw [markA_length]; exact own_of_blk hK2 hb (by rw [len3, markA_length]) (by simpa using HP.out) hn hm (by simpa using hs), by rw [markA_length]; exact hL⟩, hM⟩

def StateO (w : World) (base : Nat) (v : Value) (s : Ste) : Prop := ∃ fv av, v = .agg #[fv, av] ∧ IntsO w base fv s.values ∧ IntsO w base av s.heap ∧ ∀ g, fv.ownBlock = some g → av.ownBlock ≠ some g
theorem StateO.below {w w' : World} {base : Nat} {v : Value} {s : Ste} (h : StateO w base v s) (hb : Below w.heap.size w w') : StateO w' base v s := by
  obtain ⟨fv, av, e, h1, h2, h3⟩ := h
  exact ⟨fv, av, e, h1.below hb, h2.below hb, h3⟩
theorem StateO.abv {w w' : World} {base lo : Nat} {v : Value} {s : Ste} (h : StateO w base v s) (hb : Abv lo w w') (hl : lo ≤ base) : StateO w' base v s := by
  obtain ⟨fv, av, e, h1, h2, h3⟩ := h
  exact ⟨fv, av, e, h1.abv hb hl, h2.abv hb hl, h3⟩
theorem StateO.lower {w : World} {base base' : Nat} {v : Value} {s : Ste} (h : StateO w base v s) (hb : base' ≤ base) : StateO w base' v s := by
  obtain ⟨fv, av, e, h1, h2, h3⟩ := h
  exact ⟨fv, av, e, h1.lower hb, h2.lower hb, h3⟩
theorem StateO.reads {w : World} {base : Nat} {v : Value} {s : Ste} (h : StateO w base v s) : StateV w base w.heap.size v s := by
  obtain ⟨fv, av, e, h1, h2, h3⟩ := h
  obtain ⟨A1, c1, rfl, g1⟩ := h1.reads
  obtain ⟨A2, c2, rfl, g2⟩ := h2.reads
  exact ⟨A1, c1, A2, c2, e, g1, g2⟩
theorem IntsO.mk {p : Nat → Prop} {w w' : World} {base : Nat} {v : Value} {xs : List Int} (h : IntsO w base v xs) (hb : Mk p w w') (hp : ∀ g, v.ownBlock = some g → ¬ p g) : IntsO w' base v xs := ⟨own_mk h.1 hb hp, h.2⟩
theorem FactsO.mk {p : Nat → Prop} {w w' : World} {base : Nat} {v : Value} {xs : List Fct} (h : FactsO w base v xs) (hb : Mk p w w') (hp : ∀ g, v.ownBlock = some g → ¬ p g) : FactsO w' base v xs := ⟨own_mk h.1 hb hp, h.2⟩
theorem AtomsO.mk {p : Nat → Prop} {w w' : World} {base : Nat} {v : Value} {xs : List Atm} (h : AtomsO w base v xs) (hb : Mk p w w') (hp : ∀ g, v.ownBlock = some g → ¬ p g) : AtomsO w' base v xs := ⟨own_mk h.1 hb hp, h.2⟩
theorem Ste.eq_iff (f g : Ste) : f = g ↔ f.values = g.values ∧ f.heap = g.heap := by cases f; cases g; simp
/-- lists of different types lie in different blocks -/
theorem FactsO.ne_atoms {w : World} {b b' : Nat} {v v' : Value} {xs : List Fct} {ys : List Atm} (h : FactsO w b v xs) (h' : AtomsO w b' v' ys) (g : Nat) (hg : v.ownBlock = some g) : v'.ownBlock ≠ some g := by
  intro hg'
  obtain ⟨_, h2⟩ := h.1
  obtain ⟨_, h2'⟩ := h'.1
  rcases h2 with ⟨rfl, _⟩ | ⟨k, cap, cur, rfl, _, hh, _⟩
  · simp [Value.ownBlock] at hg
  rcases h2' with ⟨rfl, _⟩ | ⟨k', cap', cur', rfl, _, hh', _⟩
  · simp [Value.ownBlock] at hg'
  simp only [Value.ownBlock, Option.some.injEq] at hg hg'
  subst hg
  subst hg'
  exact Blk.ne_ (w := w) hh hh' (by decide) rfl

--@ laws.szState
def szSt (s : Ste) (left : Int) : Int := if szL s.values.length left < 0 then -1 else szL s.heap.length (szL s.values.length left)
def StateR (w : World) (v : Value) (a : Ste) : Prop :=
  ∃ A1 c1 A2 c2, v = .agg #[.slice A1 a.values.length c1, .slice A2 a.heap.length c2] ∧ IntsR w A1 a.values ∧ IntsR w A2 a.heap
theorem szSt_le {a : Ste} {left : Int} (h : ¬ szSt a left < 0) : 0 ≤ szSt a left ∧ szSt a left = left - a.values.length - a.heap.length ∧ 0 ≤ left := by
  unfold szSt at h ⊢
  split at h
  · omega
  · rename_i h1
    have e1 := szL_le h1
    have e2 := szL_le h
    rw [if_neg h1]
    omega

--@ laws.toState
--@ laws.eqState
--@ laws.markState
def markSt (k : Int) (s : Ste) : Ste := ⟨iota k s.values.length, iota (k + s.values.length) s.heap.length⟩
--@ laws.markAssertion
def markAs (k : Int) (s : Asn) : Asn := ⟨markF k s.facts.length, markA (k + 3 * s.facts.length) s.atoms.length⟩
set_option maxHeartbeats 800000 in
theorem c_markAssertion (v : Value) (s : Asn) (k : Int) (base hi : Nat) (w : World) (h : AsnO w base v s) (hhi : ∀ fv av, v = .agg #[fv, av] → Und fv hi ∧ Und av hi) (h0 : 0 ≤ k) (h1 : k ≤ 549755813888) : Calls Try.prog 14 #[v, .int .i64 k] w fun e w' => e = .returned (.int .i64 (k + 3 * s.facts.length + 3 * s.atoms.length)) ∧ AsnO w' base v (markAs k s) ∧ Mk (fun g => base ≤ g ∧ g < hi) w w' := by
  obtain ⟨fv, av, rfl, o1, o2⟩ := h
  have hd := o1.ne_atoms o2
  have hU := hhi fv av rfl
  have L1 : s.facts.length ≤ 1049600 := o1.2
  obtain ⟨F1, d1, e1, -⟩ := o1.reads
  obtain ⟨F2, d2, e2, -⟩ := o2.reads
  have o1b := o1.below (w' := w.alloc (.cells #[fv, av] 34)) bel
  have o2b := o2.below (w' := w.alloc (.cells #[fv, av] 34)) bel
  subst e1
  subst e2
  go_enter Try.func14, Try.ntmps14
  go_wp2_with fail
  refine (c_markFactS _ s.facts k base _ o1b h0 (by omega)).mono ?_
  rintro e w1 ⟨rfl, p1, hM1⟩
  have k0 := hM1.blk (Blk.new w _ _) (fun e => by have := o1.und _ e; omega)
  have q0 := k0.cell
  have o2c := o2b.mk hM1 (fun g e1 e2 => hd g e2 e1)
  have hM1' := (Mk.below_ (p := fun g => base ≤ g ∧ g < hi) (w := w) bel).trans (hM1.mono fun g e => ⟨(o1.1.lt g e).1, hU.1 g e⟩)
  clear hM1
  go_wp2_with fail
  refine (c_markAtomS _ s.atoms _ base _ o2c (by omega) (by omega)).mono ?_
  rintro e w2 ⟨rfl, p2, hM2⟩
  have p1c := p1.mk hM2 (fun g e1 e2 => hd g e1 e2)
  have hM2' := hM1'.trans (hM2.mono fun g e => ⟨(o2.1.lt g e).1, hU.2 g e⟩)
  go_wp2_with fail
  go_ret
  exact ⟨rfl, ⟨_, _, rfl, by simpa [markAs, markF_length] using p1c, p2⟩, hM2'⟩
end Go.Proofs.Ytlmjjflalmegfaa

/- Rows that a call changes in place; marks that are held; replaced terms (impl). -/
namespace Go.Proofs.Ytlmjjflalmegfaa
open Go Go.RowKit Go.Proofs
attribute [local go_sem ↓] Go.wp_at_zero Go.wp_at_succ

theorem set_same {α : Type} {L : List α} {i : Nat} {x : α} (h : L[i]? = some x) : L.set i x = L := by
  apply List.ext_getElem?
  intro k
  rw [List.getElem?_set]
  split
  · rename_i e; subst e
    split
    · exact h.symm
    · rename_i hn; rw [List.getElem?_eq_none (by omega)] at h; cases h
  · rfl
theorem flat3_set {α : Type} (f0 f1 f2 : α → Value) : ∀ (L : List α) (j : Nat) (x : α), j < L.length → ((L.set j x).flatMap fun x => [f0 x, f1 x, f2 x]) = (((L.flatMap fun x => [f0 x, f1 x, f2 x]).set (j*3) (f0 x)).set (j*3+1) (f1 x)).set (j*3+2) (f2 x) := by
  intro L
  induction L with
  | nil => intro j x h; simp at h
  | cons g L ih =>
    intro j x h
    cases j with
    | zero => simp
    | succ j =>
      have e := ih j x (by simpa using h)
      rw [List.set_cons_succ, List.flatMap_cons, e, List.flatMap_cons, show (j+1)*3 = j*3+1+1+1 from by omega, show j*3+1+1+1+1 = (j*3+1)+1+1+1 from by omega, show j*3+1+1+1+2 = (j*3+2)+1+1+1 from by omega]
      simp only [List.cons_append, List.nil_append, List.set_cons_succ]
theorem Pre.setL {cs : Array Value} {L : List Value} {m : Nat} (h : Pre cs L m) (i : Nat) (u : Value) (hs : m ≤ cs.size) (hl : m ≤ L.length) : Pre (cs.setIfInBounds i u) (L.set i u) m := by
  intro j hj
  by_cases e : i = j
  · subst e
    rw [Array.getElem?_setIfInBounds_self, if_pos (by omega), List.getElem?_set_self (by omega)]
  · rw [Array.getElem?_setIfInBounds_ne e, List.getElem?_set_ne e]; exact h j hj
/-- what a row of our own looks like from inside -/
theorem FactsO.open_ {w : World} {base : Nat} {A : Option Addr} {n c k : Nat} {fs : List Fct} (h : FactsO w base (.slice A n c) fs) (hk : k < fs.length) : ∃ g cur, n = fs.length ∧ A = some ⟨g, 0, none⟩ ∧ base ≤ g ∧ Blk w g tF cur ∧ fs.length * 3 ≤ cur.size ∧ cur[k*3]? = some (.bool fs[k].eq) ∧ cur[k*3+1]? = some (.int .i64 fs[k].a) ∧ cur[k*3+2]? = some (.int .i64 fs[k].b) ∧
    (∀ (i : Nat) (u : Value) (gs : List Fct), encF gs = (encF fs).set i u → gs.length = fs.length → FactsO (w.setCell ⟨g, i, none⟩ u) base (.slice A n c) gs) := by
  obtain ⟨⟨hl, h2⟩, hL⟩ := h
  rcases h2 with ⟨e, hn⟩ | ⟨g, cap, cur, e, hb, hh, hn, hm, hs, ht⟩
  · omega
  · injection e with e1 e2 e3
    subst e1 e2 e3
    have hK : Blk w g tF cur := hh
    have hP : Pre cur (encF fs) (fs.length * 3) := by
      intro j hj
      rw [← ht, List.getElem?_take, if_pos hj]; simp
    obtain ⟨t0, t1, t2⟩ := flat3 (fun f : Fct => .bool f.eq) (fun f => .int .i64 f.a) (fun f => .int .i64 f.b) fs k hk
    refine ⟨g, cur, rfl, rfl, hb, hK, by rw [hs]; exact Nat.mul_le_mul hn (Nat.le_refl _), (hP _ (by omega)).trans t0, (hP _ (by omega)).trans t1, (hP _ (by omega)).trans t2, ?_⟩
    intro i u gs he hg
    refine ⟨?_, by rw [hg]; exact hL⟩
    rw [he, hg]
    exact own_of_blk (hK.set_ i u) hb (by rw [List.length_set, hl]) (hP.setL i u (by rw [hs]; exact Nat.mul_le_mul hn (Nat.le_refl _)) (by rw [hl]; exact Nat.le_refl _)) hn hm (by simpa using hs)
theorem AtomsO.open_ {w : World} {base : Nat} {A : Option Addr} {n c k : Nat} {fs : List Atm} (h : AtomsO w base (.slice A n c) fs) (hk : k < fs.length) : ∃ g cur, n = fs.length ∧ A = some ⟨g, 0, none⟩ ∧ base ≤ g ∧ Blk w g tA cur ∧ fs.length * 3 ≤ cur.size ∧ cur[k*3]? = some (.int .i64 fs[k].kind) ∧ cur[k*3+1]? = some (.int .i64 fs[k].a) ∧ cur[k*3+2]? = some (.int .i64 fs[k].b) ∧
    (∀ (i : Nat) (u : Value) (gs : List Atm), encA gs = (encA fs).set i u → gs.length = fs.length → AtomsO (w.setCell ⟨g, i, none⟩ u) base (.slice A n c) gs) := by
  obtain ⟨⟨hl, h2⟩, hL⟩ := h
  rcases h2 with ⟨e, hn⟩ | ⟨g, cap, cur, e, hb, hh, hn, hm, hs, ht⟩
  · omega
  · injection e with e1 e2 e3
    subst e1 e2 e3
    have hK : Blk w g tA cur := hh
    have hP : Pre cur (encA fs) (fs.length * 3) := by
      intro j hj
      rw [← ht, List.getElem?_take, if_pos hj]; simp
    obtain ⟨t0, t1, t2⟩ := flat3 (fun f : Atm => .int .i64 f.kind) (fun f => .int .i64 f.a) (fun f => .int .i64 f.b) fs k hk
    refine ⟨g, cur, rfl, rfl, hb, hK, by rw [hs]; exact Nat.mul_le_mul hn (Nat.le_refl _), (hP _ (by omega)).trans t0, (hP _ (by omega)).trans t1, (hP _ (by omega)).trans t2, ?_⟩
    intro i u gs he hg
    refine ⟨?_, by rw [hg]; exact hL⟩
    rw [he, hg]
    exact own_of_blk (hK.set_ i u) hb (by rw [List.length_set, hl]) (hP.setL i u (by rw [hs]; exact Nat.mul_le_mul hn (Nat.le_refl _)) (by rw [hl]; exact Nat.le_refl _)) hn hm (by simpa using hs)
theorem encF_setA {fs : List Fct} {k : Nat} (hk : k < fs.length) (v : Int) : encF (fs.set k ⟨fs[k].eq, v, fs[k].b⟩) = (encF fs).set (k*3+1) (.int .i64 v) := by
  obtain ⟨t0, t1, t2⟩ := flat3 (fun f : Fct => .bool f.eq) (fun f => .int .i64 f.a) (fun f => .int .i64 f.b) fs k hk
  rw [encF, flat3_set _ _ _ _ _ _ hk, set_same t0, set_same]
  rw [List.getElem?_set_ne (by omega)]; exact t2
theorem encF_setB {fs : List Fct} {k : Nat} (hk : k < fs.length) (v : Int) : encF (fs.set k ⟨fs[k].eq, fs[k].a, v⟩) = (encF fs).set (k*3+2) (.int .i64 v) := by
  obtain ⟨t0, t1, t2⟩ := flat3 (fun f : Fct => .bool f.eq) (fun f => .int .i64 f.a) (fun f => .int .i64 f.b) fs k hk
  rw [encF, flat3_set _ _ _ _ _ _ hk, set_same t0, set_same t1]
theorem encA_setA {fs : List Atm} {k : Nat} (hk : k < fs.length) (v : Int) : encA (fs.set k ⟨fs[k].kind, v, fs[k].b⟩) = (encA fs).set (k*3+1) (.int .i64 v) := by
  obtain ⟨t0, t1, t2⟩ := flat3 (fun f : Atm => .int .i64 f.kind) (fun f => .int .i64 f.a) (fun f => .int .i64 f.b) fs k hk
  rw [encA, flat3_set _ _ _ _ _ _ hk, set_same t0, set_same]
  rw [List.getElem?_set_ne (by omega)]; exact t2
theorem encA_setB {fs : List Atm} {k : Nat} (hk : k < fs.length) (v : Int) : encA (fs.set k ⟨fs[k].kind, fs[k].a, v⟩) = (encA fs).set (k*3+2) (.int .i64 v) := by
  obtain ⟨t0, t1, t2⟩ := flat3 (fun f : Atm => .int .i64 f.kind) (fun f => .int .i64 f.a) (fun f => .int .i64 f.b) fs k hk
  rw [encA, flat3_set _ _ _ _ _ _ hk, set_same t0, set_same t1]
theorem FactsO.setA {w : World} {base g n c k : Nat} {fs : List Fct} (h : FactsO w base (.slice (some ⟨g, 0, none⟩) n c) fs) (hk : k < fs.length) (v : Int) {gs : List Fct} (hgs : gs = fs.set k ⟨fs[k].eq, v, fs[k].b⟩) : FactsO (w.setCell ⟨g, k*3+1, none⟩ (.int .i64 v)) base (.slice (some ⟨g, 0, none⟩) n c) gs := by
  subst hgs
  obtain ⟨g', cur, -, e, -, -, -, -, -, -, hs⟩ := h.open_ hk
  simp only [Option.some.injEq, Addr.mk.injEq, and_true] at e
  subst e
  exact hs _ _ _ (encF_setA hk v) (by simp)
theorem FactsO.setB {w : World} {base g n c k : Nat} {fs : List Fct} (h : FactsO w base (.slice (some ⟨g, 0, none⟩) n c) fs) (hk : k < fs.length) (v : Int) {gs : List Fct} (hgs : gs = fs.set k ⟨fs[k].eq, fs[k].a, v⟩) : FactsO (w.setCell ⟨g, k*3+2, none⟩ (.int .i64 v)) base (.slice (some ⟨g, 0, none⟩) n c) gs := by
  subst hgs
  obtain ⟨g', cur, -, e, -, -, -, -, -, -, hs⟩ := h.open_ hk
  simp only [Option.some.injEq, Addr.mk.injEq, and_true] at e
  subst e
  exact hs _ _ _ (encF_setB hk v) (by simp)
theorem AtomsO.setA {w : World} {base g n c k : Nat} {fs : List Atm} (h : AtomsO w base (.slice (some ⟨g, 0, none⟩) n c) fs) (hk : k < fs.length) (v : Int) {gs : List Atm} (hgs : gs = fs.set k ⟨fs[k].kind, v, fs[k].b⟩) : AtomsO (w.setCell ⟨g, k*3+1, none⟩ (.int .i64 v)) base (.slice (some ⟨g, 0, none⟩) n c) gs := by
  subst hgs
  obtain ⟨g', cur, -, e, -, -, -, -, -, -, hs⟩ := h.open_ hk
  simp only [Option.some.injEq, Addr.mk.injEq, and_true] at e
  subst e
  exact hs _ _ _ (encA_setA hk v) (by simp)
theorem AtomsO.setB {w : World} {base g n c k : Nat} {fs : List Atm} (h : AtomsO w base (.slice (some ⟨g, 0, none⟩) n c) fs) (hk : k < fs.length) (v : Int) {gs : List Atm} (hgs : gs = fs.set k ⟨fs[k].kind, fs[k].a, v⟩) : AtomsO (w.setCell ⟨g, k*3+2, none⟩ (.int .i64 v)) base (.slice (some ⟨g, 0, none⟩) n c) gs := by
  subst hgs
  obtain ⟨g', cur, -, e, -, -, -, -, -, -, hs⟩ := h.open_ hk
  simp only [Option.some.injEq, Addr.mk.injEq, and_true] at e
  subst e
  exact hs _ _ _ (encA_setB hk v) (by simp)
/-- one element in a block of its own reads as a list of one -/
theorem FactsV.one {w : World} {g : Nat} {f : Fct} (h : Blk w g tF #[.bool f.eq, .int .i64 f.a, .int .i64 f.b]) : FactsV w g (g + 1) (some ⟨g, 0, none⟩) [f] :=
  ⟨⟨by simp, fun _ => ⟨g, 0, rfl, Nat.le_refl _, Nat.lt_succ_self _, fun j u hu => by rw [Nat.zero_add, h.cell]; simpa using hu⟩⟩, by simp [Lim]⟩
theorem AtomsV.one {w : World} {g : Nat} {f : Atm} (h : Blk w g tA #[.int .i64 f.kind, .int .i64 f.a, .int .i64 f.b]) : AtomsV w g (g + 1) (some ⟨g, 0, none⟩) [f] :=
  ⟨⟨by simp, fun _ => ⟨g, 0, rfl, Nat.le_refl _, Nat.lt_succ_self _, fun j u hu => by rw [Nat.zero_add, h.cell]; simpa using hu⟩⟩, by simp [Lim]⟩

theorem FactsV.cl {w : World} {lo hi b o k : Nat} {fs : List Fct} (h : FactsV w lo hi (some ⟨b, o, none⟩) fs) (hk : k < fs.length) : w.cell? ⟨b, o + k*3, none⟩ = some (.bool fs[k].eq) ∧ w.cell? ⟨b, o + k*3+1, none⟩ = some (.int .i64 fs[k].a) ∧ w.cell? ⟨b, o + k*3+2, none⟩ = some (.int .i64 fs[k].b) := by
  obtain ⟨b', o', e, hc⟩ := h.at hk
  simp only [Option.some.injEq, Addr.mk.injEq, and_true] at e
  obtain ⟨rfl, rfl⟩ := e
  exact hc
theorem AtomsV.cl {w : World} {lo hi b o k : Nat} {fs : List Atm} (h : AtomsV w lo hi (some ⟨b, o, none⟩) fs) (hk : k < fs.length) : w.cell? ⟨b, o + k*3, none⟩ = some (.int .i64 fs[k].kind) ∧ w.cell? ⟨b, o + k*3+1, none⟩ = some (.int .i64 fs[k].a) ∧ w.cell? ⟨b, o + k*3+2, none⟩ = some (.int .i64 fs[k].b) := by
  obtain ⟨b', o', e, hc⟩ := h.at hk
  simp only [Option.some.injEq, Addr.mk.injEq, and_true] at e
  obtain ⟨rfl, rfl⟩ := e
  exact hc
theorem FactsV.blt {w : World} {lo hi k : Nat} {A : Option Addr} {fs : List Fct} (h : FactsV w lo hi A fs) (hk : k < fs.length) : ∃ b o, A = some ⟨b, o, none⟩ ∧ b < w.heap.size := by
  obtain ⟨b, o, e, hc, -⟩ := h.at hk
  exact ⟨b, o, e, block_lt_of_cell hc⟩
theorem AtomsV.blt {w : World} {lo hi k : Nat} {A : Option Addr} {fs : List Atm} (h : AtomsV w lo hi A fs) (hk : k < fs.length) : ∃ b o, A = some ⟨b, o, none⟩ ∧ b < w.heap.size := by
  obtain ⟨b, o, e, hc, -⟩ := h.at hk
  exact ⟨b, o, e, block_lt_of_cell hc⟩
theorem IntsV.blt {w : World} {lo hi k : Nat} {A : Option Addr} {fs : List Int} (h : IntsV w lo hi A fs) (hk : k < fs.length) : ∃ b o, A = some ⟨b, o, none⟩ ∧ b < w.heap.size := by
  obtain ⟨b, o, e, hc⟩ := h.at hk
  exact ⟨b, o, e, block_lt_of_cell hc⟩
theorem BoolsV.blt {w : World} {lo hi k : Nat} {A : Option Addr} {fs : List Bool} (h : BoolsV w lo hi A fs) (hk : k < fs.length) : ∃ b o, A = some ⟨b, o, none⟩ ∧ b < w.heap.size := by
  obtain ⟨b, o, e, hc⟩ := h.at hk
  exact ⟨b, o, e, block_lt_of_cell hc⟩

theorem own_ofBlk {w : World} {g base size : Nat} {t : TypeId} (h : Blk w g t #[]) (hb : base ≤ g) : w.ownsRow base t size (.slice (some ⟨g, 0, none⟩) 0 0) 0 [] := ⟨by simp, .inr ⟨g, 0, #[], rfl, hb, h, Nat.le_refl _, by decide, by simp, by simp⟩⟩
theorem FactsO.ofBlk {w : World} {g base : Nat} (h : Blk w g tF #[]) (hb : base ≤ g) : FactsO w base (.slice (some ⟨g, 0, none⟩) 0 0) [] := ⟨own_ofBlk h hb, by simp [Lim]⟩
theorem AtomsO.ofBlk {w : World} {g base : Nat} (h : Blk w g tA #[]) (hb : base ≤ g) : AtomsO w base (.slice (some ⟨g, 0, none⟩) 0 0) [] := ⟨own_ofBlk h hb, by simp [Lim]⟩
theorem IntsO.ofBlk {w : World} {g base : Nat} (h : Blk w g tI #[]) (hb : base ≤ g) : IntsO w base (.slice (some ⟨g, 0, none⟩) 0 0) [] := ⟨own_ofBlk h hb, by simp [Lim]⟩
theorem Blk.grownO {w w' : World} {g base size n : Nat} {t e : TypeId} {cs : Array Value} {v : Value} {xs : List Value} (h : Blk w g t cs) (ho : w.ownsRow base e size v n xs) (hg : w.grownBy w' v.ownBlock) (ht : t ≠ e) : Blk w' g t cs := by
  refine h.grown hg ?_
  intro he
  rcases ho.2 with ⟨rfl, _⟩ | ⟨k, cap, cur, rfl, _, hh, _⟩
  · simp [Value.ownBlock] at he
  · simp only [Value.ownBlock, Option.some.injEq] at he
    exact Blk.ne_ h hh ht he
theorem own_grownO {w w' : World} {base base' size size' n n' : Nat} {e e' : TypeId} {v v' : Value} {xs xs' : List Value} (h : w.ownsRow base' e' size' v' n' xs') (ho : w.ownsRow base e size v n xs) (hg : w.grownBy w' v.ownBlock) (ht : e' ≠ e) : w'.ownsRow base' e' size' v' n' xs' := by
  obtain ⟨h1, h2⟩ := h
  refine ⟨h1, ?_⟩
  rcases h2 with h2 | ⟨k, cap, cur, hv, hk, hh, r⟩
  · exact Or.inl h2
  · exact Or.inr ⟨k, cap, cur, hv, hk, Blk.grownO hh ho hg ht, r⟩
theorem FactsO.grownA {w w' : World} {b b' : Nat} {v v' : Value} {xs : List Fct} {ys : List Atm} (h : FactsO w b v xs) (ho : AtomsO w b' v' ys) (hg : w.grownBy w' v'.ownBlock) : FactsO w' b v xs := ⟨own_grownO h.1 ho.1 hg (by decide), h.2⟩
theorem AtomsO.grownF {w w' : World} {b b' : Nat} {v v' : Value} {xs : List Atm} {ys : List Fct} (h : AtomsO w b v xs) (ho : FactsO w b' v' ys) (hg : w.grownBy w' v'.ownBlock) : AtomsO w' b v xs := ⟨own_grownO h.1 ho.1 hg (by decide), h.2⟩


theorem Rd.keepB {w w' : World} {lo hi size n B : Nat} {A : Option Addr} {xs : List Value} (h : Rd w lo hi size A n xs) (hb : Below B w w') (hh : hi ≤ B) : Rd w' lo hi size A n xs := h.keep fun b _ h2 => hb.block b (by omega)
theorem FactsV.keepB {w w' : World} {lo hi B : Nat} {A : Option Addr} {xs : List Fct} (h : FactsV w lo hi A xs) (hb : Below B w w') (hh : hi ≤ B) : FactsV w' lo hi A xs := Rd.keepB h hb hh
theorem AtomsV.keepB {w w' : World} {lo hi B : Nat} {A : Option Addr} {xs : List Atm} (h : AtomsV w lo hi A xs) (hb : Below B w w') (hh : hi ≤ B) : AtomsV w' lo hi A xs := Rd.keepB h hb hh
theorem IntsV.keepB {w w' : World} {lo hi B : Nat} {A : Option Addr} {xs : List Int} (h : IntsV w lo hi A xs) (hb : Below B w w') (hh : hi ≤ B) : IntsV w' lo hi A xs := Rd.keepB h hb hh
theorem BoolsV.keepB {w w' : World} {lo hi B : Nat} {A : Option Addr} {xs : List Bool} (h : BoolsV w lo hi A xs) (hb : Below B w w') (hh : hi ≤ B) : BoolsV w' lo hi A xs := Rd.keepB h hb hh

--@ laws.heldFactS
set_option maxHeartbeats 800000 in
theorem c_heldFactS {lo hi : Nat} (A : Option Addr) (n c : Nat) (k : Int) (w : World) (h : FactsV w lo hi A (markF k n)) (h0 : 0 ≤ k) (h1 : k ≤ 1099511627776) : Calls Try.prog 46 #[.slice A n c, .int .i64 k] w fun e w' => e = .returned (.int .i64 (k + 3 * n)) ∧ w = w' := by
  have hL := h.le
  rw [markF_length] at hL
  go_enter Try.func46, Try.ntmps46
  go_wp2
  go_loop [1, 5] (fun m i => ∃ (j : Nat), j ≤ n ∧ i = .int .i64 j ∧ m = .int .i64 (k + 3 * j)) (fun _ i => n - (intOf i).toNat)
  case atStart => exact ⟨0, Nat.zero_le _, rfl, by simp⟩
  case round =>
    obtain ⟨j, hj, rfl, rfl⟩ := hrel
    by_cases hlt : j < n
    · obtain ⟨b, off, rfl, c0, c1, c2⟩ := h.at (k := j) (by rw [markF_length]; exact hlt)
      rw [markF_get _ _ _ hlt] at c0 c1 c2
      dsimp only at c0 c1 c2
      go_wp2_with fail
      go_round
      case rel => exact ⟨j + 1, by omega, by go_num, by push_cast; congr 1; omega⟩
      case measure => simp [intOf]; omega
    · obtain rfl : j = n := by omega
      go_wp2
      go_ret
      exact ⟨rfl, rfl⟩

--@ laws.heldAtomS
set_option maxHeartbeats 800000 in
theorem c_heldAtomS {lo hi : Nat} (A : Option Addr) (n c : Nat) (k : Int) (w : World) (h : AtomsV w lo hi A (markA k n)) (h0 : 0 ≤ k) (h1 : k ≤ 1099511627776) : Calls Try.prog 47 #[.slice A n c, .int .i64 k] w fun e w' => e = .returned (.int .i64 (k + 3 * n)) ∧ w = w' := by
  have hL := h.le
  rw [markA_length] at hL
  go_enter Try.func47, Try.ntmps47
  go_wp2
  go_loop [1, 5] (fun m i => ∃ (j : Nat), j ≤ n ∧ i = .int .i64 j ∧ m = .int .i64 (k + 3 * j)) (fun _ i => n - (intOf i).toNat)
  case atStart => exact ⟨0, Nat.zero_le _, rfl, by simp⟩
  case round =>
    obtain ⟨j, hj, rfl, rfl⟩ := hrel
    by_cases hlt : j < n
    · obtain ⟨b, off, rfl, c0, c1, c2⟩ := h.at (k := j) (by rw [markA_length]; exact hlt)
      rw [markA_get _ _ _ hlt] at c0 c1 c2
      dsimp only at c0 c1 c2
      go_wp2_with fail
      go_round
      case rel => exact ⟨j + 1, by omega, by go_num, by push_cast; congr 1; omega⟩
      case measure => simp [intOf]; omega
    · obtain rfl : j = n := by omega
      go_wp2
      go_ret
      exact ⟨rfl, rfl⟩

--@ laws.heldAssertion
--@ impl.copyAssertion
end Go.Proofs.Ytlmjjflalmegfaa

/- The spec's joined assertions. -/
namespace Go.Proofs.Ytlmjjflalmegfaa
open Go Go.RowKit Go.Proofs
attribute [local go_sem ↓] Go.wp_at_zero Go.wp_at_succ

--@ spec.l3Star
set_option maxRecDepth 100000 in
set_option maxHeartbeats 1600000 in
theorem c_spec_l3Star {lo hi lo' hi' : Nat} (v v' : Value) (a b : Asn) (w : World) (h : AsnV w lo hi v a) (h' : AsnV w lo' hi' v' b) (hn1 : a.facts.length + b.facts.length ≤ 1049600) (hn2 : a.atoms.length + b.atoms.length ≤ 1049600) :
    Calls Try.prog 97 #[v, v'] w fun e w' => ∃ r, e = .returned r ∧ AsnO w' w.heap.size r (starA a b) ∧ Below w.heap.size w w' := by
  obtain ⟨A1, c1, A2, c2, rfl, h1, h2⟩ := h
  obtain ⟨A3, c3, A4, c4, rfl, h3, h4⟩ := h'
  go_enter Try.func97, Try.ntmps97
  have kk := blk3 w 34 34 34 #[.slice A1 a.facts.length c1, .slice A2 a.atoms.length c2] #[.slice A3 b.facts.length c3, .slice A4 b.atoms.length c4] #[.slice none 0 0, .slice none 0 0]
  have hB : Below w.heap.size w (((w.alloc (.cells #[.slice A1 a.facts.length c1, .slice A2 a.atoms.length c2] 34)).alloc (.cells #[.slice A3 b.facts.length c3, .slice A4 b.atoms.length c4] 34)).alloc (.cells #[.slice none 0 0, .slice none 0 0] 34)) := bel
  obtain ⟨k0, k1, k2⟩ := kk
  go_wp2_with fail
  have hz := k2.lt
  generalize (((w.alloc (.cells #[.slice A1 a.facts.length c1, .slice A2 a.atoms.length c2] 34)).alloc (.cells #[.slice A3 b.facts.length c3, .slice A4 b.atoms.length c4] 34)).alloc (.cells #[.slice none 0 0, .slice none 0 0] 34)) = W at k0 k1 k2 hB hz ⊢
  have tok3 : True := trivial
  have tok6 : True := trivial
  have tok10 : True := trivial
  have tok13 : True := trivial
  go_region_held3 (fun w' => (∀ i, w'.cell? ⟨w.heap.size, i, none⟩ = #[.slice A1 a.facts.length c1, .slice A2 a.atoms.length c2][i]?) ∧ (∀ i, w'.cell? ⟨w.heap.size + 1, i, none⟩ = #[.slice A3 b.facts.length c3, .slice A4 b.atoms.length c4][i]?))
    (exact ⟨Blk.cell blks, Blk.cell blks⟩)
    (first
      | (have _t := tok3; clear _t tok3; refine stepFL (xs := []) rfl _ _ rfl rfl (FactsO.ofBlk (base := w.heap.size) blks (by first | omega | (simp; omega))) rfl (h1.below bel) (by first | omega | (simp; omega)) (by first | omega | (simp; omega)) ?_; intro F1 e1 w1 hO1 hg1 hB1; have hBw1 : Below w.heap.size w w1 := Below.trans bel hB1; simp only [List.nil_append] at hO1; have m10 := Blk.grownO (g := w.heap.size) (hg := hg1) blks (FactsO.ofBlk (base := w.heap.size) blks (by first | omega | (simp; omega))).1 (by decide); have m11 := Blk.grownO (g := w.heap.size + 1) (hg := hg1) blks (FactsO.ofBlk (base := w.heap.size) blks (by first | omega | (simp; omega))).1 (by decide); have m12 := Blk.grownO (g := w.heap.size + 1 + 1) (hg := hg1) blks (FactsO.ofBlk (base := w.heap.size) blks (by first | omega | (simp; omega))).1 (by decide); have lt1 := m12.lt; (try (have za : Blk w1 (W.heap.size + 1) tA #[] := ?zz; case zz => (refine Blk.grownO (hg := hg1) ?_ (FactsO.ofBlk (base := w.heap.size) blks (by first | omega | (simp; omega))).1 (by decide); (repeat (first | (with_reducible assumption) | (with_reducible exact Blk.new _ _ _) | ((with_reducible apply Blk.far); (case hp => (first | exact Nat.le_refl _ | (simp; done) | (simp; omega) | (simp only; omega) | omega))) | (with_reducible apply Blk.set_) | ((with_reducible refine Blk.newE ?_); (simp; done)) | (with_reducible apply Blk.alloc) | (with_reducible apply Blk.drew) | (with_reducible apply Blk.drewN))); done))); (try (have za : Blk w1 W.heap.size tA #[] := ?zz; case zz => (refine Blk.grownO (hg := hg1) ?_ (FactsO.ofBlk (base := w.heap.size) blks (by first | omega | (simp; omega))).1 (by decide); (repeat (first | (with_reducible assumption) | (with_reducible exact Blk.new _ _ _) | ((with_reducible apply Blk.far); (case hp => (first | exact Nat.le_refl _ | (simp; done) | (simp; omega) | (simp only; omega) | omega))) | (with_reducible apply Blk.set_) | ((with_reducible refine Blk.newE ?_); (simp; done)) | (with_reducible apply Blk.alloc) | (with_reducible apply Blk.drew) | (with_reducible apply Blk.drewN))); done))))
      | (have _t := tok6; clear _t tok6; refine stepFL (xs := a.facts) rfl _ _ rfl rfl (FactsO.below (w := w1) hO1 bel) rfl (h3.below bel) (by first | omega | (simp; omega)) (by first | omega | (simp; omega)) ?_; intro F2 e2 w2 hO2 hg2 hB2; have hBw2 : Below w.heap.size w w2 := Below.trans bel hB2; have m20 := Blk.grownO (g := w.heap.size) (hg := hg2) blks (FactsO.below (w := w1) hO1 bel).1 (by decide); have m21 := Blk.grownO (g := w.heap.size + 1) (hg := hg2) blks (FactsO.below (w := w1) hO1 bel).1 (by decide); have m22 := Blk.grownO (g := w.heap.size + 1 + 1) (hg := hg2) blks (FactsO.below (w := w1) hO1 bel).1 (by decide); have lt2 := m22.lt; (try (have zb : Blk w2 w1.heap.size tA #[] := ?zz; case zz => (refine Blk.grownO (hg := hg2) ?_ (FactsO.below (w := w1) hO1 bel).1 (by decide); (repeat (first | (with_reducible assumption) | (with_reducible exact Blk.new _ _ _) | ((with_reducible apply Blk.far); (case hp => (first | exact Nat.le_refl _ | (simp; done) | (simp; omega) | (simp only; omega) | omega))) | (with_reducible apply Blk.set_) | ((with_reducible refine Blk.newE ?_); (simp; done)) | (with_reducible apply Blk.alloc) | (with_reducible apply Blk.drew) | (with_reducible apply Blk.drewN))); done))); (try (have zb := Blk.grownO (hg := hg2) (Blk.next za bel) (FactsO.below (w := w1) hO1 bel).1 (by decide))))
      | (have _t := tok10; clear _t tok10; refine stepAL (xs := []) rfl _ _ rfl rfl (AtomsO.ofBlk (base := w.heap.size) blks (by first | omega | (simp; omega))) rfl (h2.below bel) (by first | omega | (simp; omega)) (by first | omega | (simp; omega)) ?_; intro F3 e3 w3 hO3 hg3 hB3; have hBw3 : Below w.heap.size w w3 := Below.trans bel hB3; simp only [List.nil_append] at hO3; have m30 := Blk.grownO (g := w.heap.size) (hg := hg3) blks (AtomsO.ofBlk (base := w.heap.size) blks (by first | omega | (simp; omega))).1 (by decide); have m31 := Blk.grownO (g := w.heap.size + 1) (hg := hg3) blks (AtomsO.ofBlk (base := w.heap.size) blks (by first | omega | (simp; omega))).1 (by decide); have m32 := Blk.grownO (g := w.heap.size + 1 + 1) (hg := hg3) blks (AtomsO.ofBlk (base := w.heap.size) blks (by first | omega | (simp; omega))).1 (by decide); have lt3 := m32.lt; have hP3 := FactsO.grownA (FactsO.below (w := w2) hO2 bel) (AtomsO.ofBlk (base := w.heap.size) blks (by first | omega | (simp; omega))) hg3)
      | (have _t := tok13; clear _t tok13; refine stepAL (xs := a.atoms) rfl _ _ rfl rfl (AtomsO.below (w := w3) hO3 bel) rfl (h4.below bel) (by first | omega | (simp; omega)) (by first | omega | (simp; omega)) ?_; intro F4 e4 w4 hO4 hg4 hB4; have hBw4 : Below w.heap.size w w4 := Below.trans bel hB4; have m40 := Blk.grownO (g := w.heap.size) (hg := hg4) blks (AtomsO.below (w := w3) hO3 bel).1 (by decide); have m41 := Blk.grownO (g := w.heap.size + 1) (hg := hg4) blks (AtomsO.below (w := w3) hO3 bel).1 (by decide); have m42 := Blk.grownO (g := w.heap.size + 1 + 1) (hg := hg4) blks (AtomsO.below (w := w3) hO3 bel).1 (by decide); have lt4 := m42.lt; have hP4 := FactsO.grownA (FactsO.below (w := w3) hP3 bel) (AtomsO.below (w := w3) hO3 bel) hg4; have c42 := m42.cell; have f42 := m42.frozen))
  all_goals
    go_wp2_with fail
    refine bodyPost_ret (v := .agg #[.slice F2 (a.facts ++ b.facts).length e2, .slice F4 (a.atoms ++ b.atoms).length e4]) (by simp [results, Try.results97, go_sem, c42]) rfl ⟨_, rfl, ⟨_, _, rfl, ?_, ?_⟩, bel⟩
    · exact (hP4.setT m42 (by decide) _ _).setT (m42.set_ _ _) (by decide) _ _
    · exact (hO4.setT m42 (by decide) _ _).setT (m42.set_ _ _) (by decide) _ _
end Go.Proofs.Ytlmjjflalmegfaa

/- Words for the exact laws: data that lie in blocks of an interval of their own. -/
namespace Go.Proofs.Ytlmjjflalmegfaa
open Go Go.RowKit Go.Proofs

def FactsI (w : World) (lo hi : Nat) (v : Value) (fs : List Fct) : Prop := FactsO w lo v fs ∧ Und v hi
def AtomsI (w : World) (lo hi : Nat) (v : Value) (fs : List Atm) : Prop := AtomsO w lo v fs ∧ Und v hi
def IntsI (w : World) (lo hi : Nat) (v : Value) (fs : List Int) : Prop := IntsO w lo v fs ∧ Und v hi
def AsnI (w : World) (lo hi : Nat) (v : Value) (a : Asn) : Prop := ∃ fv av, v = .agg #[fv, av] ∧ FactsI w lo hi fv a.facts ∧ AtomsI w lo hi av a.atoms
section
variable {w w' : World} {lo hi lo' hi' a b : Nat} {v : Value}
theorem und_range {w : World} {base : Nat} {e : TypeId} {size : Nat} {v : Value} {n : Nat} {xs : List Value} {hi : Nat} (h : w.ownsRow base e size v n xs) (hu : Und v hi) : ∀ g, v.ownBlock = some g → base ≤ g ∧ g < hi := fun g hg => ⟨(h.lt g hg).1, hu g hg⟩
theorem FactsI.below {fs : List Fct} (h : FactsI w lo hi v fs) (hb : Below w.heap.size w w') : FactsI w' lo hi v fs := ⟨h.1.below hb, h.2⟩
theorem AtomsI.below {fs : List Atm} (h : AtomsI w lo hi v fs) (hb : Below w.heap.size w w') : AtomsI w' lo hi v fs := ⟨h.1.below hb, h.2⟩
theorem IntsI.below {fs : List Int} (h : IntsI w lo hi v fs) (hb : Below w.heap.size w w') : IntsI w' lo hi v fs := ⟨h.1.below hb, h.2⟩
theorem AsnI.below {x : Asn} (h : AsnI w lo hi v x) (hb : Below w.heap.size w w') : AsnI w' lo hi v x := by
  obtain ⟨fv, av, e, h1, h2⟩ := h; exact ⟨fv, av, e, h1.below hb, h2.below hb⟩
theorem FactsI.mk {fs : List Fct} (h : FactsI w lo hi v fs) (hb : Mk (fun g => a ≤ g ∧ g < b) w w') (hd : hi ≤ a ∨ b ≤ lo) : FactsI w' lo hi v fs :=
  ⟨h.1.mk hb fun g hg hp => by have := und_range h.1.1 h.2 g hg; omega, h.2⟩
theorem AtomsI.mk {fs : List Atm} (h : AtomsI w lo hi v fs) (hb : Mk (fun g => a ≤ g ∧ g < b) w w') (hd : hi ≤ a ∨ b ≤ lo) : AtomsI w' lo hi v fs :=
  ⟨h.1.mk hb fun g hg hp => by have := und_range h.1.1 h.2 g hg; omega, h.2⟩
theorem IntsI.mk {fs : List Int} (h : IntsI w lo hi v fs) (hb : Mk (fun g => a ≤ g ∧ g < b) w w') (hd : hi ≤ a ∨ b ≤ lo) : IntsI w' lo hi v fs :=
  ⟨h.1.mk hb fun g hg hp => by have := und_range h.1.1 h.2 g hg; omega, h.2⟩
theorem AsnI.mk {x : Asn} (h : AsnI w lo hi v x) (hb : Mk (fun g => a ≤ g ∧ g < b) w w') (hd : hi ≤ a ∨ b ≤ lo) : AsnI w' lo hi v x := by
  obtain ⟨fv, av, e, h1, h2⟩ := h; exact ⟨fv, av, e, h1.mk hb hd, h2.mk hb hd⟩
theorem FactsI.form {fs : List Fct} (h : FactsI w lo hi v fs) : ∃ A c, v = .slice A fs.length c := by obtain ⟨A, c, e, -⟩ := h.1.reads; exact ⟨A, c, e⟩
theorem AtomsI.form {fs : List Atm} (h : AtomsI w lo hi v fs) : ∃ A c, v = .slice A fs.length c := by obtain ⟨A, c, e, -⟩ := h.1.reads; exact ⟨A, c, e⟩
theorem IntsI.form {fs : List Int} (h : IntsI w lo hi v fs) : ∃ A c, v = .slice A fs.length c := by obtain ⟨A, c, e, -⟩ := h.1.reads; exact ⟨A, c, e⟩
theorem AsnI.form {x : Asn} (h : AsnI w lo hi v x) : ∃ A c B d, v = .agg #[.slice A x.facts.length c, .slice B x.atoms.length d] := by
  obtain ⟨fv, av, rfl, h1, h2⟩ := h
  obtain ⟨A, c, rfl⟩ := h1.form
  obtain ⟨B, d, rfl⟩ := h2.form
  exact ⟨A, c, B, d, rfl⟩
theorem IntsI.reads {A : Option Addr} {n c : Nat} {fs : List Int} (h : IntsI w lo hi (.slice A n c) fs) : IntsV w lo w.heap.size A fs := h.1.readsI.2
theorem AsnI.reads {x : Asn} (h : AsnI w lo hi v x) : AsnV w lo w.heap.size v x := by
  obtain ⟨fv, av, e, h1, h2⟩ := h; exact AsnO.reads ⟨fv, av, e, h1.1, h2.1⟩
theorem FactsO.I {fs : List Fct} (h : FactsO w lo v fs) : FactsI w lo w.heap.size v fs := ⟨h, h.und⟩
theorem AtomsO.I {fs : List Atm} (h : AtomsO w lo v fs) : AtomsI w lo w.heap.size v fs := ⟨h, h.und⟩
theorem IntsO.I {fs : List Int} (h : IntsO w lo v fs) : IntsI w lo w.heap.size v fs := ⟨h, h.und⟩
theorem AsnO.I {x : Asn} (h : AsnO w lo v x) : AsnI w lo w.heap.size v x := by
  obtain ⟨fv, av, e, h1, h2⟩ := h; exact ⟨fv, av, e, h1.I, h2.I⟩
theorem AsnI.len {x : Asn} (h : AsnI w lo hi v x) : x.facts.length ≤ 1049600 ∧ x.atoms.length ≤ 1049600 := by
  obtain ⟨fv, av, e, h1, h2⟩ := h; exact ⟨h1.1.2, h2.1.2⟩
theorem IntsI.len {x : List Int} (h : IntsI w lo hi v x) : x.length ≤ 1049600 := h.1.2
theorem Mk.keepB {B : Nat} {w0 : World} (h : Below B w0 w) (hm : Mk (fun g => a ≤ g ∧ g < b) w w') (hB : B ≤ a) (hs : B ≤ w.heap.size) : Below B w0 w' :=
  h.trans (hm.below (fun k hk => by omega) hs)
end
def FactT (_ : World) (v : Value) (f : Fct) : Prop := v = f.val

--@ laws.markIntS
theorem m_ints (v : Value) (xs : List Int) (k : Int) (lo hi : Nat) (w : World) (h : IntsI w lo hi v xs) (h0 : 0 ≤ k) (h1 : k ≤ 549755813888) : Calls Try.prog 15 #[v, .int .i64 k] w fun e w' => e = .returned (.int .i64 (k + xs.length)) ∧ IntsI w' lo hi v (iota k xs.length) ∧ Mk (fun g => lo ≤ g ∧ g < hi) w w' := by
  refine (c_markIntS v xs k lo w h.1 h0 (by omega)).mono ?_
  rintro e w' ⟨rfl, h2, h3⟩
  exact ⟨rfl, ⟨h2, h.2⟩, h3.mono fun g hg => und_range h.1.1 h.2 g hg⟩

--@ laws.markAssertion
theorem m_asn (v : Value) (x : Asn) (k : Int) (lo hi : Nat) (w : World) (h : AsnI w lo hi v x) (h0 : 0 ≤ k) (h1 : k ≤ 549755813888) : Calls Try.prog 14 #[v, .int .i64 k] w fun e w' => e = .returned (.int .i64 (k + 3 * x.facts.length + 3 * x.atoms.length)) ∧ AsnI w' lo hi v (markAs k x) ∧ Mk (fun g => lo ≤ g ∧ g < hi) w w' := by
  obtain ⟨fv, av, rfl, o1, o2⟩ := h
  refine (c_markAssertion _ x k lo hi w ⟨fv, av, rfl, o1.1, o2.1⟩ (fun fv' av' e => by injection e with e; injection e with e; injection e with e1 e2; injection e2 with e2; subst e1; subst e2; exact ⟨o1.2, o2.2⟩) h0 h1).mono ?_
  rintro e w' ⟨rfl, ⟨fv', av', e, p1, p2⟩, h3⟩
  injection e with e; injection e with e; injection e with e1 e2; injection e2 with e2; subst e1; subst e2
  exact ⟨rfl, ⟨_, _, rfl, ⟨p1, o1.2⟩, ⟨p2, o2.2⟩⟩, h3⟩

--@ laws.heldAssertion
--@ laws.heldIntS
--@ laws.eqAssertion
theorem t_asn {lo hi lo' hi' : Nat} (v v' : Value) (x : Asn) (w : World) (h : AsnV w lo hi v x) (h' : AsnV w lo' hi' v' x) : Calls Try.prog 12 #[v, v'] w fun e w' => e = .returned (.bool true) ∧ Below w.heap.size w w' := by
  refine (c_eqAssertion v v' x x w h h').mono ?_
  rintro e w' ⟨rfl, hB⟩
  exact ⟨by simp, hB⟩

--@ laws.eqIntS
theorem t_ints {lo hi lo' hi' : Nat} (A A' : Option Addr) (c c' : Nat) (x : List Int) (w : World) (h : IntsV w lo hi A x) (h' : IntsV w lo' hi' A' x) : Calls Try.prog 13 #[.slice A x.length c, .slice A' x.length c'] w fun e w' => e = .returned (.bool true) ∧ Below w.heap.size w w' := by
  refine (c_eqIntS A A' c c' x x w h h').mono ?_
  rintro e w' ⟨rfl, hB⟩
  exact ⟨by simp, hB⟩

--@ laws.toAssertion
theorem to_asn {lo hi : Nat} (v : Value) (x : Asn) (w : World) (h : AsnV w lo hi v x) : Calls Try.prog 8 #[v] w fun e w' => ∃ r, e = .returned r ∧ AsnI w' w.heap.size w'.heap.size r x ∧ Below w.heap.size w w' := by
  refine (c_toAssertion v x w h).mono ?_
  rintro e w' ⟨r, rfl, o, hB⟩
  exact ⟨r, rfl, o.I, hB⟩

--@ laws.toIntS
theorem to_ints {lo hi : Nat} (A : Option Addr) (c : Nat) (x : List Int) (w : World) (h : IntsV w lo hi A x) : Calls Try.prog 9 #[.slice A x.length c] w fun e w' => ∃ r, e = .returned r ∧ IntsI w' w.heap.size w'.heap.size r x ∧ Below w.heap.size w w' := by
  refine (c_toIntS A c x w h).mono ?_
  rintro e w' ⟨r, rfl, o, hB⟩
  exact ⟨r, rfl, o.I, hB⟩
end Go.Proofs.Ytlmjjflalmegfaa
