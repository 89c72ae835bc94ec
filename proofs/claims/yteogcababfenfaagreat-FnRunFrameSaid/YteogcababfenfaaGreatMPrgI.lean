/- The texts of programs, plain. -/
import Derived.Test.YteogcababfenfaaGreatMStrF
import Derived.Test.YteogcababfenfaaGreatMCmdG
import Derived.Test.YteogcababfenfaaGreatMCmdK
import Derived.Test.YteogcababfenfaaGreatStrJ
import Derived.Test.YteogcababfenfaaGreatMCmdW
set_option linter.unusedSimpArgs false
set_option linter.unusedVariables false
namespace Go.Proofs.YteogcababfenfaaGreat
open Go Go.RowKit Go.Proofs

/-- a mark stands at place i -/
def isMark (l m : Bs) (i : Nat) : Bool := decide ((l.drop i).take m.length = m)
def findM (l m : Bs) : Option Nat := (List.range (l.length + 1 - m.length)).find? (isMark l m)
def splitM (l m : Bs) : Bs × Bs × Bool := match findM l m with
  | some i => (l.take i, l.drop (i + m.length), true)
  | none => (l, [], false)
theorem findM_some {l m : Bs} {k : Nat} (hk : k + m.length ≤ l.length) (h : isMark l m k = true) (hn : ∀ j, j < k → isMark l m j = false) : findM l m = some k := by
  unfold findM
  rw [List.find?_range_eq_some]
  exact ⟨h, by simp; omega, fun j hj => by simp [hn j hj]⟩
theorem findM_none {l m : Bs} (hn : ∀ j, j + m.length ≤ l.length → isMark l m j = false) : findM l m = none := by
  unfold findM
  rw [List.find?_eq_none]
  intro j hj
  simp only [List.mem_range] at hj
  simp [hn j (by omega)]
theorem splitM_len (l m : Bs) : (splitM l m).1.length ≤ l.length ∧ (splitM l m).2.1.length ≤ l.length := by
  unfold splitM; split <;> simp <;> omega
/-- without square brackets -/
def bareL (l : Bs) : Bs × Bool := if l.length < 2 ∨ l.head? ≠ some 91 ∨ l.getLast? ≠ some 93 then (l, false) else ((l.drop 1).take (l.length - 2), true)
/-- a command without its blocks -/
structure Hd where
  k : Int
  a : Int
  b : Int
  t : Fct
  i : Asn
def pT (l : Bs) : Int := ((parseT l).getD 0 : Nat)
def fctZ : Fct := ⟨false, 0, 0⟩
def pF (l : Bs) : Fct := (parseF l).getD fctZ
def pA (l : Bs) : Asn := (parseA l).getD ⟨[], []⟩
def assignF (x y : Bs) : Hd := ⟨if (bareL y).2 then 2 else if (bareL x).2 then 3 else 1, pT (bareL x).1, pT (bareL y).1, fctZ, ⟨[], []⟩⟩
def wordF (word rest : Bs) : Hd :=
  if word = [110, 101, 119] then ⟨4, pT rest, 0, fctZ, ⟨[], []⟩⟩
  else if word = [102, 114, 101, 101] then ⟨5, pT rest, 0, fctZ, ⟨[], []⟩⟩
  else if word = [105, 102] then ⟨6, 0, 0, pF rest, ⟨[], []⟩⟩
  else ⟨7, 0, 0, pF (splitM rest [32, 119, 105, 116, 104, 32]).1, pA (splitM rest [32, 119, 105, 116, 104, 32]).2.1⟩
def headF (l : Bs) : Hd := if (splitM l [58, 61]).2.2 then assignF (splitM l [58, 61]).1 (splitM l [58, 61]).2.1 else wordF (splitM l [32]).1 (splitM l [32]).2.1
abbrev endL : Bs := [101, 110, 100]
abbrev elseL : Bs := [101, 108, 115, 101]
def Cms.one1 (h : Hd) (body els r : Cms) : Cms := .cons h.k h.a h.b h.t h.i body els r
/-- commands from a line on; the line at which they end -/
def blkF (ls : List Bs) : Nat → Nat → Nat → Cms × Option Nat
  | 0, p, _ => (.nil, some p)
  | n + 1, p, d =>
    if p + 1 < ls.length ∧ ls.getD p [] ≠ endL ∧ ls.getD p [] ≠ elseL then
      if (headF (ls.getD p [])).k = 6 ∨ (headF (ls.getD p [])).k = 7 then
        if d < 1 then (.nil, none)
        else match blkF ls n (p + 1) (d - 1) with
          | (body, none) => (.one1 (headF (ls.getD p [])) body .nil .nil, none)
          | (body, some m) =>
            if m < ls.length ∧ ls.getD m [] = elseL then
              match blkF ls n (m + 1) (d - 1) with
              | (els, none) => (.one1 (headF (ls.getD p [])) body els .nil, none)
              | (els, some q) => (.one1 (headF (ls.getD p [])) body els (blkF ls n (q + 1) d).1, (blkF ls n (q + 1) d).2)
            else (.one1 (headF (ls.getD p [])) body .nil (blkF ls n (m + 1) d).1, (blkF ls n (m + 1) d).2)
      else (.one1 (headF (ls.getD p [])) .nil .nil (blkF ls n (p + 1) d).1, (blkF ls n (p + 1) d).2)
    else (.nil, some p)
theorem blkF_le (ls : List Bs) : ∀ (n p d : Nat) {m : Nat}, (blkF ls n p d).2 = some m → p ≤ m ∧ m ≤ max p (ls.length + d)
  | 0, p, d, m, h => by simp [blkF] at h; omega
  | n + 1, p, d, m, h => by
    unfold blkF at h
    split at h
    · rename_i hc
      split at h
      · split at h
        · cases h
        · split at h
          · cases h
          · rename_i body q hq
            have h1 := blkF_le ls n (p + 1) (d - 1) (by rw [hq])
            split at h
            · rename_i hm
              split at h
              · cases h
              · rename_i els r hr
                have h2 := blkF_le ls n (q + 1) (d - 1) (by rw [hr])
                have h3 := blkF_le ls n (r + 1) d h
                omega
            · have h3 := blkF_le ls n (q + 1) d h
              omega
      · have h1 := blkF_le ls n (p + 1) d h
        omega
    · injection h with h
      omega
/-- the first line of a command -/
def lineL (k a b : Int) (t : Fct) (i : Asn) : Bs :=
  if k = 1 then tnameL a ++ [58, 61] ++ tnameL b
  else if k = 2 then tnameL a ++ [58, 61, 91] ++ tnameL b ++ [93]
  else if k = 3 then [91] ++ tnameL a ++ [93, 58, 61] ++ tnameL b
  else if k = 4 then [110, 101, 119, 32] ++ tnameL a
  else if k = 5 then [102, 114, 101, 101, 32] ++ tnameL a
  else if k = 6 then [105, 102, 32] ++ fmtF t
  else [119, 104, 105, 108, 101, 32] ++ fmtF t ++ [32, 119, 105, 116, 104, 32] ++ textA i
def textL : Cms → Bs
  | .nil => []
  | .cons k a b t i body els r => lineL k a b t i ++ [10] ++ textL body ++ (if 0 < els.len then [101, 108, 115, 101, 10] ++ textL els else []) ++ (if k = 6 ∨ k = 7 then [101, 110, 100, 10] else []) ++ textL r
def fmtP (L : Cms) : Bs := if L.prog then textL L else []
/-- reading a program -/
def readP (l : Bs) : Cms := (blkF (splitL 10 l) ((splitL 10 l).length + 1) 0 4).1
def parsesP (l : Bs) : Bool := decide (l.length ≤ 4000) && (decide (fmtP (readP l) = l) && (readP l).prog)
def parseP (l : Bs) : Cms := if parsesP l then readP l else .nil
theorem lineL_len {k a b : Int} {t : Fct} {i : Asn} (h1 : i.facts.length ≤ 12) (h2 : i.atoms.length ≤ 6) : (lineL k a b t i).length ≤ 230 := by
  have ha := tnameL_len a
  have hb := tnameL_len b
  have ht := fmtF_len t
  have hi := textA_len i
  unfold lineL
  repeat' split
  all_goals simp only [List.length_append, List.length_cons, List.length_nil]; omega
theorem Asn.valid_len {i : Asn} (h : i.valid = true) : i.facts.length ≤ 12 ∧ i.atoms.length ≤ 6 := by
  simp only [Asn.valid, factsValid, Bool.and_eq_true, decide_eq_true_eq] at h
  exact ⟨h.1.1, h.2.1⟩
theorem fval_inv {k a b : Int} {t : Fct} {i : Asn} {body els : Cms} (h : fvalB k a b t i body els = true) : i.facts.length ≤ 12 ∧ i.atoms.length ≤ 6 := by
  unfold fvalB at h
  split at h
  · simp only [Bool.and_eq_true, noAsn, decide_eq_true_eq] at h; have := h.2.2.2; omega
  split at h
  · simp only [Bool.and_eq_true] at h; exact Asn.valid_len h.2.2.2.1
  · simp only [plainB, Bool.and_eq_true, noAsn, decide_eq_true_eq] at h; have := h.1.2.1; omega
theorem textL_len : ∀ {L : Cms} {d : Nat}, L.shape d = true → (textL L).length ≤ L.sz * 250
  | .nil, _, _ => by simp [textL, Cms.sz]
  | .cons k a b t i body els r, d, h => by
    simp only [Cms.shape, Bool.and_eq_true] at h
    have h1 := textL_len h.2.2.1
    have h2 := textL_len h.2.2.2.1
    have h3 := textL_len h.2.2.2.2
    have h4 := fval_inv h.2.1
    have h5 := lineL_len (k := k) (a := a) (b := b) (t := t) h4.1 h4.2
    have h6 : (if 0 < els.len then ([101, 108, 115, 101, 10] : Bs) ++ textL els else []).length ≤ 5 + els.sz * 250 := by
      split
      · simp only [List.length_append, List.length_cons, List.length_nil]; omega
      · simp
    have h7 : (if k = 6 ∨ k = 7 then ([101, 110, 100, 10] : Bs) else []).length ≤ 4 := by split <;> simp
    simp only [textL, List.length_append, List.length_cons, List.length_nil, Cms.sz]
    omega
theorem prog_shape {L : Cms} (h : L.prog = true) : L.shape 4 = true ∧ L.sz ≤ 16 := by
  unfold Cms.prog at h
  simpa only [Bool.and_eq_true, decide_eq_true_eq] using h
end Go.Proofs.YteogcababfenfaaGreat

/- Contracts: a command's first line from a text (spec). -/
namespace Go.Proofs.YteogcababfenfaaGreat
open Go Go.RowKit Go.Proofs
/-- slices of strings -/
theorem sliceLH (l : Bs) (i j : Nat) (ii jj : Int) (hi : ii = i) (hj : jj = j) (hij : i ≤ j) (hjl : j ≤ l.length) (w : World) : (Instr.slice 9 (sv l) (some (.int .i64 ii)) (some (.int .i64 jj)) none).run Tryz.prog w = .ok (sv ((l.drop i).take (j - i))) w := by
  subst hi hj
  rw [run_slice_string w 9 _ .i64 .i64 _ _ Tryz.underlying9 (by omega) (by omega) (by simp [ByteArray.size]; omega)]
  simp only [Int.toNat_natCast, bext]
theorem sliceH (l : Bs) (j : Nat) (jj : Int) (hj : jj = j) (hjl : j ≤ l.length) (w : World) : (Instr.slice 9 (sv l) none (some (.int .i64 jj)) none).run Tryz.prog w = .ok (sv (l.take j)) w := by
  subst hj
  rw [run_slice_string_h w 9 _ Tryz.underlying9 .i64 _ (by omega) (by simp [ByteArray.size]; omega)]
  simp only [Int.toNat_natCast, bext, List.drop_zero, Nat.sub_zero]
theorem sliceL (l : Bs) (i : Nat) (ii : Int) (hi : ii = i) (hil : i ≤ l.length) (w : World) : (Instr.slice 9 (sv l) (some (.int .i64 ii)) none none).run Tryz.prog w = .ok (sv (l.drop i)) w := by
  subst hi
  rw [run_slice_string_l w 9 _ Tryz.underlying9 .i64 _ (by omega) (by simp [ByteArray.size]; omega)]
  simp only [Int.toNat_natCast, bext]
  rw [List.take_of_length_le (by simp [ByteArray.size])]
--@ spec.l8Split
set_option maxRecDepth 100000 in
set_option maxHeartbeats 3200000 in
theorem c_l8Split (l m : Bs) (w : World) (hl : l.length ≤ 2000000) (hm : m.length ≤ 100) : Calls Tryz.prog 183 #[sv l, sv m] w fun e w' => e = .returned (.tuple #[sv (splitM l m).1, sv (splitM l m).2.1, .bool (splitM l m).2.2]) ∧ Below w.heap.size w w' := by
  go_enter Tryz.func183, Tryz.ntmps183
  go_wp2_with fail
  go_loopw [7] (fun i wr => ∃ k : Nat, k ≤ l.length + 1 ∧ i = .int .i64 k ∧ Hid (∀ j : Nat, j < k → isMark l m j = false) ∧ wr = w) (fun i _ => l.length + 2 - (intOf i).toNat)
  case atStart => exact ⟨0, by omega, rfl, Lib.hid fun j h => by omega, rfl⟩
  case round =>
    obtain ⟨k, hk, rfl, HN, rfl⟩ := hrel
    by_cases hle : k + m.length ≤ l.length
    · have hki : (k : Int) + (m.length : Int) ≤ (l.length : Int) := by omega
      cases he : isMark l m k
      · obtain ⟨z, hz⟩ : ∃ z, z = (l.drop k).take m.length := ⟨_, rfl⟩
        have hsl := fun W : World => sliceLH l k (k + m.length) (k : Int) ((k : Int) + (m.length : Int)) rfl (by omega) (by omega) hle W
        rw [Nat.add_sub_cancel_left, ← hz] at hsl
        have hzm : (z == m) = false := by
          unfold isMark at he
          rw [bytes_eq, hz]; exact he
        have HM : Hid (∀ j : Nat, j < k + 1 → isMark l m j = false) := Lib.hid fun j hj => by
          by_cases e : j = k
          · subst e; exact he
          · exact HN.out j (by omega)
        clear he hz
        go_wp2_with fail
        go_round
        case rel => exact ⟨k + 1, by omega, by go_num, HM, by first | rfl | trivial⟩
        case measure => simp [intOf]; omega
      · have hsl := fun W : World => sliceLH l k (k + m.length) (k : Int) ((k : Int) + (m.length : Int)) rfl (by omega) (by omega) hle W
        rw [Nat.add_sub_cancel_left, show (l.drop k).take m.length = m from of_decide_eq_true he] at hsl
        have hs2 := fun W : World => sliceH l k (k : Int) rfl (by omega) W
        have hs3 := fun W : World => sliceL l (k + m.length) ((k : Int) + (m.length : Int)) (by omega) (by omega) W
        have HR := Lib.hid (findM_some hle he HN.out)
        have hS : Hid (splitM l m = (l.take k, l.drop (k + m.length), true)) := Lib.hid (by unfold splitM; rw [HR.out])
        clear he HR
        go_wp2_with fail
        go_quiet (fail)
        go_wp2_with fail
        refine bodyPost_ret (v := .tuple #[sv (l.take k), sv (l.drop (k + m.length)), .bool true]) (by simp [results, Tryz.results183, go_sem]) rfl ⟨by rw [hS.out], bel⟩
    · have hki : ¬ (k : Int) + (m.length : Int) ≤ (l.length : Int) := by omega
      have hS : Hid (splitM l m = (l, [], false)) := Lib.hid (by unfold splitM; rw [findM_none (fun j hj => HN.out j (by omega))])
      go_wp2_with fail
      refine bodyPost_ret (v := .tuple #[sv l, sv [], .bool false]) (by simp [results, Tryz.results183, go_sem]) rfl ⟨by rw [hS.out], bel⟩
--@ spec.l8Bare
theorem bare_no {l : Bs} (h : l.length < 2 ∨ l.head? ≠ some 91 ∨ l.getLast? ≠ some 93) : bareL l = (l, false) := by unfold bareL; rw [if_pos h]
theorem bare_yes {l : Bs} (h : 2 ≤ l.length) (h1 : l[0]'(by omega) = 91) (h2 : l[l.length - 1]'(by omega) = 93) : bareL l = ((l.drop 1).take (l.length - 2), true) := by
  unfold bareL
  rw [if_neg]
  rintro (h3 | h3 | h3)
  · omega
  · exact h3 (by rw [List.head?_eq_getElem?, List.getElem?_eq_getElem (by omega), h1])
  · exact h3 (by rw [List.getLast?_eq_getElem?, List.getElem?_eq_getElem (by omega), h2])
set_option maxRecDepth 100000 in
set_option maxHeartbeats 3200000 in
theorem c_l8Bare (l : Bs) (w : World) (hl : l.length ≤ 2000000) : Calls Tryz.prog 192 #[sv l] w fun e w' => e = .returned (.tuple #[sv (bareL l).1, .bool (bareL l).2]) ∧ Below w.heap.size w w' := by
  by_cases h2 : l.length < 2
  · have h2i : (l.length : Int) < 2 := by omega
    have hR := Lib.hid (bare_no (Or.inl h2))
    clear h2
    go_enter Tryz.func192, Tryz.ntmps192
    go_wp2_with fail
    refine bodyPost_ret (v := .tuple #[sv l, .bool false]) (by simp [results, Tryz.results192, go_sem]) rfl ⟨by rw [hR.out], bel⟩
  · have h2i : ¬ (l.length : Int) < 2 := by omega
    have h0i : (0 : Int) < (l.length : Int) := by omega
    obtain ⟨n, hn⟩ : ∃ n, n + 1 = l.length := ⟨l.length - 1, by omega⟩
    have hni : (l.length : Int) - 1 = (n : Int) := by omega
    have hnl : (n : Int) < (l.length : Int) := by omega
    have hx := bidx l 0 (by omega)
    have hy := bidx l n (by omega)
    by_cases ha : l[0]'(by omega) = 91
    · by_cases hb : l[n]'(by omega) = 93
      · have hR := Lib.hid (bare_yes (by omega) ha (by simpa [← hn] using hb))
        rw [ha] at hx
        rw [hb] at hy
        have h1n : (1 : Int) ≤ (n : Int) := by omega
        have hnn : (n : Int) ≤ (l.length : Int) := by omega
        have hsl := fun W : World => sliceLH l 1 n 1 (n : Int) rfl rfl (by omega) (by omega) W
        rw [show n - 1 = l.length - 2 by omega] at hsl
        clear ha hb
        go_enter Tryz.func192, Tryz.ntmps192
        go_wp2_with fail
        refine bodyPost_ret (v := .tuple #[sv ((l.drop 1).take (l.length - 2)), .bool true]) (by simp [results, Tryz.results192, go_sem]) rfl ⟨by rw [hR.out], bel⟩
      · have hR := Lib.hid (bare_no (l := l) (Or.inr (Or.inr (by rw [List.getLast?_eq_getElem?, ← hn, Nat.add_sub_cancel, List.getElem?_eq_getElem (by omega)]; simpa using hb))))
        rw [ha] at hx
        obtain ⟨c, hc⟩ : ∃ c, c = l[n]'(by omega) := ⟨_, rfl⟩
        rw [← hc] at hy hb
        have hb1 : ((c.toNat : Int) == 93) = false := by rw [show (93 : Int) = ((93 : Nat) : Int) from rfl, u8_eq c 93 (by decide)]; simpa using hb
        have hb2 : ¬ ((c.toNat : Int) = 93) := by simpa using hb1
        clear hc hb ha
        go_enter Tryz.func192, Tryz.ntmps192
        go_wp2_with fail
        refine bodyPost_ret (v := .tuple #[sv l, .bool false]) (by simp [results, Tryz.results192, go_sem]) rfl ⟨by rw [hR.out], bel⟩
    · have hR := Lib.hid (bare_no (l := l) (Or.inr (Or.inl (by rw [List.head?_eq_getElem?, List.getElem?_eq_getElem (by omega)]; simpa using ha))))
      obtain ⟨c, hc⟩ : ∃ c, c = l[0]'(by omega) := ⟨_, rfl⟩
      rw [← hc] at hx ha
      have hb1 : ((c.toNat : Int) == 91) = false := by rw [show (91 : Int) = ((91 : Nat) : Int) from rfl, u8_eq c 91 (by decide)]; simpa using ha
      have hb2 : ¬ ((c.toNat : Int) = 91) := by simpa using hb1
      clear hc ha
      go_enter Tryz.func192, Tryz.ntmps192
      go_wp2_with fail
      refine bodyPost_ret (v := .tuple #[sv l, .bool false]) (by simp [results, Tryz.results192, go_sem]) rfl ⟨by rw [hR.out], bel⟩
--@
end Go.Proofs.YteogcababfenfaaGreat

/- Contracts: a command's head from its first line (spec). -/
namespace Go.Proofs.YteogcababfenfaaGreat
open Go Go.RowKit Go.Proofs
theorem below_ten {a w : World} {cb : Nat} {v0 v1 v2 v3 v4 v5 v6 v7 v8 v9 : Value} (h : Below a.heap.size a w) (hc : a.heap.size ≤ cb) : Below a.heap.size a (((((((((((w).setCell ⟨cb, 0, none⟩ v0).setCell ⟨cb, 1, none⟩ v1).setCell ⟨cb, 2, none⟩ v2).setCell ⟨cb, 3, none⟩ v3).setCell ⟨cb, 4, none⟩ v4).setCell ⟨cb, 5, none⟩ v5).setCell ⟨cb, 6, none⟩ v6).setCell ⟨cb, 7, none⟩ v7).setCell ⟨cb, 8, none⟩ v8).setCell ⟨cb, 9, none⟩ v9) := by
  iterate 10 (refine Below.setCell ?_ (by simp only; exact hc) _)
  exact h
theorem own_ten {w : World} {cb base size n : Nat} {t e : TypeId} {v : Value} {xs : List Value} {cs : Array Value} {v0 v1 v2 v3 v4 v5 v6 v7 v8 v9 : Value} (h : w.ownsRow base e size v n xs) (hk : Blk w cb t cs) (ht : t ≠ e) : World.ownsRow (((((((((((w).setCell ⟨cb, 0, none⟩ v0).setCell ⟨cb, 1, none⟩ v1).setCell ⟨cb, 2, none⟩ v2).setCell ⟨cb, 3, none⟩ v3).setCell ⟨cb, 4, none⟩ v4).setCell ⟨cb, 5, none⟩ v5).setCell ⟨cb, 6, none⟩ v6).setCell ⟨cb, 7, none⟩ v7).setCell ⟨cb, 8, none⟩ v8).setCell ⟨cb, 9, none⟩ v9) base e size v n xs := by
  refine own_keep h fun g hg _ => ten0_far fun e0 => ?_
  obtain ⟨_, h2⟩ := h
  rcases h2 with ⟨rfl, _⟩ | ⟨g', cap, cur, rfl, _, hh, _⟩
  · simp [Value.ownBlock] at hg
  · simp only [Value.ownBlock, Option.some.injEq] at hg
    subst hg e0
    exact Blk.ne_ hk hh ht rfl
--@ spec.l8Assign
set_option maxRecDepth 100000 in
set_option maxHeartbeats 6400000 in
theorem c_l8Assign (x y : Bs) (w : World) (hx : x.length ≤ 2000000) (hy : y.length ≤ 2000000) : Calls Tryz.prog 184 #[sv x, sv y] w fun e w' => e = .returned (.agg (simC (assignF x y).k (assignF x y).a (assignF x y).b)) ∧ Below w.heap.size w w' := by
  have c1 := Lib.hid (fun w => c_l8Bare x w hx)
  have c2 := Lib.hid (fun w => c_l8Bare y w hy)
  have hA : Hid (assignF x y = ⟨if (bareL y).2 then 2 else if (bareL x).2 then 3 else 1, pT (bareL x).1, pT (bareL y).1, fctZ, ⟨[], []⟩⟩) := Lib.hid rfl
  have hta := Lib.hid (show pT (bareL x).1 = (((parseT (bareL x).1).getD 0 : Nat) : Int) from rfl)
  have htb := Lib.hid (show pT (bareL y).1 = (((parseT (bareL y).1).getD 0 : Nat) : Int) from rfl)
  obtain ⟨bx, hbx⟩ : ∃ b, b = (bareL x).2 := ⟨_, rfl⟩
  obtain ⟨by', hby⟩ : ∃ b, b = (bareL y).2 := ⟨_, rfl⟩
  obtain ⟨sx, hsx⟩ : ∃ b, b = (bareL x).1 := ⟨_, rfl⟩
  obtain ⟨sy, hsy⟩ : ∃ b, b = (bareL y).1 := ⟨_, rfl⟩
  rw [← hbx, ← hsx] at c1
  rw [← hby, ← hsy] at c2
  rw [← hbx, ← hby, ← hsx, ← hsy] at hA
  rw [← hsx] at hta
  rw [← hsy] at htb
  clear hbx hby hsx hsy
  obtain ⟨ta, hta2⟩ : ∃ t : Int, t = pT sx := ⟨_, rfl⟩
  obtain ⟨tb, htb2⟩ : ∃ t : Int, t = pT sy := ⟨_, rfl⟩
  rw [← hta2] at hA hta
  rw [← htb2] at hA htb
  clear hta2 htb2
  have k0 : Blk (w.alloc (.cells (simC 0 0 0) tC)) w.heap.size tC (simC 0 0 0) := Blk.new _ _ _
  go_enter Tryz.func184, Tryz.ntmps184
  go_wp2_with fail
  refine (c1.out _).mono ?_
  rintro e w1 ⟨rfl, hB1⟩
  replace k0 := k0.next hB1
  have HB1 := Lib.hid (bgo (w := w) (bel : Below w.heap.size w (w.alloc (.cells (simC 0 0 0) tC))) hB1)
  clear hB1
  go_wp2_with fail
  refine (c2.out _).mono ?_
  rintro e w2 ⟨rfl, hB2⟩
  replace k0 := k0.next hB2
  have HB2 := Lib.hid (bgo HB1.out hB2)
  clear hB2 HB1
  go_wp2_with fail
  refine (c_ParseTerm sx _).mono ?_
  rintro e w3 ⟨rfl, rfl⟩
  rw [← hta.out]
  go_wp2_with fail
  refine (c_ParseTerm sy _).mono ?_
  rintro e w3 ⟨rfl, rfl⟩
  rw [← htb.out]
  have q0 := k0.cell
  have r0 := k0.frozen
  have l0 := k0.lt
  unfold simC at q0 k0
  cases by'
  · cases bx
    · go_wp2_with fail
      refine retW (D := fun T => Blk T w.heap.size tC (simC 1 ta tb) ∧ Below w.heap.size w T) ⟨ten0 k0, below_ten HB2.out (Nat.le_refl _)⟩ ?_
      rintro T ⟨kT, r1⟩
      have t := kT.cell
      exact bodyPost_ret (v := .agg (simC 1 ta tb)) (by simp [results, Tryz.results184, go_sem, simC, t]) rfl ⟨by rw [hA.out]; rfl, r1⟩
    · go_wp2_with fail
      refine retW (D := fun T => Blk T w.heap.size tC (simC 3 ta tb) ∧ Below w.heap.size w T) ⟨ten0 k0, below_ten HB2.out (Nat.le_refl _)⟩ ?_
      rintro T ⟨kT, r1⟩
      have t := kT.cell
      exact bodyPost_ret (v := .agg (simC 3 ta tb)) (by simp [results, Tryz.results184, go_sem, simC, t]) rfl ⟨by rw [hA.out]; rfl, r1⟩
  · cases bx
    · go_wp2_with fail
      refine retW (D := fun T => Blk T w.heap.size tC (simC 2 ta tb) ∧ Below w.heap.size w T) ⟨ten0 k0, below_ten HB2.out (Nat.le_refl _)⟩ ?_
      rintro T ⟨kT, r1⟩
      have t := kT.cell
      exact bodyPost_ret (v := .agg (simC 2 ta tb)) (by simp [results, Tryz.results184, go_sem, simC, t]) rfl ⟨by rw [hA.out]; rfl, r1⟩
    · go_wp2_with fail
      refine retW (D := fun T => Blk T w.heap.size tC (simC 2 ta tb) ∧ Below w.heap.size w T) ⟨ten0 k0, below_ten HB2.out (Nat.le_refl _)⟩ ?_
      rintro T ⟨kT, r1⟩
      have t := kT.cell
      exact bodyPost_ret (v := .agg (simC 2 ta tb)) (by simp [results, Tryz.results184, go_sem, simC, t]) rfl ⟨by rw [hA.out]; rfl, r1⟩
--@
end Go.Proofs.YteogcababfenfaaGreat

/- Contracts: a command's head (spec.l8Head). -/
namespace Go.Proofs.YteogcababfenfaaGreat
open Go Go.RowKit Go.Proofs
def headV (h : Hd) (fv av : Value) : Value := .agg #[.int .i64 h.k, .int .i64 h.a, .int .i64 h.b, .bool h.t.eq, .int .i64 h.t.a, .int .i64 h.t.b, fv, av, .slice none 0 0, .slice none 0 0]
theorem head1 {l : Bs} (h : (splitM l [58, 61]).2.2 = true) : headF l = assignF (splitM l [58, 61]).1 (splitM l [58, 61]).2.1 := by unfold headF; rw [if_pos h]
theorem head0 {l : Bs} (h : (splitM l [58, 61]).2.2 = false) : headF l = wordF (splitM l [32]).1 (splitM l [32]).2.1 := by unfold headF; rw [h]; rfl
theorem word7 {word rest : Bs} (h1 : word ≠ [110, 101, 119]) (h2 : word ≠ [102, 114, 101, 101]) (h3 : word ≠ [105, 102]) :
    wordF word rest = ⟨7, 0, 0, pF (splitM rest [32, 119, 105, 116, 104, 32]).1, pA (splitM rest [32, 119, 105, 116, 104, 32]).2.1⟩ := by
  unfold wordF; rw [if_neg h1, if_neg h2, if_neg h3]
theorem headV_sim {h : Hd} (hi : h.i = ⟨[], []⟩) (ht : h.t = fctZ) : Value.agg (simC h.k h.a h.b) = headV h (.slice none 0 0) (.slice none 0 0) := by
  obtain ⟨k, a, b, t, i⟩ := h
  simp only at hi ht
  subst hi ht
  rfl
--@ spec.l8Head
set_option maxRecDepth 100000 in
set_option maxHeartbeats 6400000 in
theorem c_l8Head (l : Bs) (w : World) (hl : l.length ≤ 1000000) : Calls Tryz.prog 158 #[sv l] w fun e w' => ∃ fv av, e = .returned (headV (headF l) fv av) ∧ FactsO w' w.heap.size fv (headF l).i.facts ∧ AtomsO w' w.heap.size av (headF l).i.atoms ∧ Below w.heap.size w w' := by
  have k0 : Blk (w.alloc (.cells (simC 0 0 0) tC)) w.heap.size tC (simC 0 0 0) := Blk.new _ _ _
  have s1 := splitM_len l [58, 61]
  have s2 := splitM_len l [32]
  have H1 := Lib.hid (fun h => head1 (l := l) h)
  have H0 := Lib.hid (fun h => head0 (l := l) h)
  have c1 := fun w => c_l8Split l [58, 61] w (by omega) (by simp)
  have c2 := fun w => c_l8Split l [32] w (by omega) (by simp)
  obtain ⟨⟨le, ri, ok⟩, hs⟩ : ∃ s, s = splitM l [58, 61] := ⟨_, rfl⟩
  obtain ⟨⟨wo, re, o2⟩, hs2⟩ : ∃ s, s = splitM l [32] := ⟨_, rfl⟩
  rw [← hs] at s1 H1 H0 c1
  rw [← hs2] at s2 H0 c2
  clear hs hs2
  simp only at s1 s2 c1 c2
  obtain ⟨l1, l2⟩ := s1
  obtain ⟨l3, l4⟩ := s2
  replace c1 := Lib.hid c1
  replace c2 := Lib.hid c2
  go_enter Tryz.func158, Tryz.ntmps158
  go_wp2_with fail
  refine (c1.out _).mono ?_
  rintro e w1 ⟨rfl, hB1⟩
  replace k0 := k0.next hB1
  have HB1 := Lib.hid (bgo (w := w) (bel : Below w.heap.size w (w.alloc (.cells (simC 0 0 0) tC))) hB1)
  clear hB1 c1
  cases ok with
  | true =>
    have hH := Lib.hid (H1.out rfl)
    clear H0 H1
    have q0 := k0.cell
    have r0 := k0.frozen
    have l0 := k0.lt
    go_wp2_with fail
    refine (c_l8Assign le ri _ (by omega) (by omega)).mono ?_
    rintro e w2 ⟨rfl, hB2⟩
    replace k0 := k0.next hB2
    have HB2 := Lib.hid (bgo HB1.out hB2)
    clear hB2 HB1 q0 r0 l0
    obtain ⟨ak, aa, ab, hak⟩ : ∃ k a b, k = (assignF le ri).k ∧ a = (assignF le ri).a ∧ b = (assignF le ri).b := ⟨_, _, _, rfl, rfl, rfl⟩
    have hv : Hid (Value.agg (simC ak aa ab) = headV (assignF le ri) (.slice none 0 0) (.slice none 0 0)) := Lib.hid (by rw [hak.1, hak.2.1, hak.2.2]; exact headV_sim rfl rfl)
    rw [← hak.1, ← hak.2.1, ← hak.2.2]
    clear hak
    have q0 := k0.cell
    have r0 := k0.frozen
    have l0 := k0.lt
    unfold simC at q0 k0
    go_wp2_with fail
    unfold simC
    go_wp2_with fail
    refine retW (D := fun T => Blk T w.heap.size tC (simC ak aa ab) ∧ Below w.heap.size w T) ⟨ten0 k0, below_ten HB2.out (Nat.le_refl _)⟩ ?_
    rintro T ⟨kT, r1⟩
    have t := kT.cell
    exact bodyPost_ret (v := .agg (simC ak aa ab)) (by simp [results, Tryz.results158, go_sem, simC, t]) rfl ⟨_, _, by rw [hH.out, hv.out], by rw [hH.out]; exact FactsO.nil _ _, by rw [hH.out]; exact AtomsO.nil _ _, r1⟩
  | false =>
    have hH := Lib.hid (H0.out rfl)
    clear H0 H1
    have q0 := k0.cell
    have r0 := k0.frozen
    have l0 := k0.lt
    go_wp2_with fail
    refine (c2.out _).mono ?_
    rintro e w2 ⟨rfl, hB2⟩
    replace k0 := k0.next hB2
    have HB2 := Lib.hid (bgo HB1.out hB2)
    clear hB2 HB1 q0 r0 l0
    have q0 := k0.cell
    have r0 := k0.frozen
    have l0 := k0.lt
    go_wp2_with fail
    refine (c_ParseTerm re _).mono ?_
    rintro e w3 ⟨rfl, rfl⟩
    obtain ⟨ta, hta⟩ : ∃ t : Int, t = pT re := ⟨_, rfl⟩
    rw [show (((parseT re).getD 0 : Nat) : Int) = ta from hta.symm]
    by_cases h1 : wo = [110, 101, 119]
    · subst h1
      have hH2 : Hid (headF l = ⟨4, ta, 0, fctZ, ⟨[], []⟩⟩) := Lib.hid (by rw [hH.out, hta]; rfl)
      clear hH hta
      unfold simC at q0 k0
      go_wp2_with fail
      refine retW (D := fun T => Blk T w.heap.size tC (simC 4 ta 0) ∧ Below w.heap.size w T) ⟨ten0 k0, below_ten HB2.out (Nat.le_refl _)⟩ ?_
      rintro T ⟨kT, r1⟩
      have t := kT.cell
      exact bodyPost_ret (v := .agg (simC 4 ta 0)) (by simp [results, Tryz.results158, go_sem, simC, t]) rfl ⟨_, _, by rw [hH2.out]; rfl, by rw [hH2.out]; exact FactsO.nil _ _, by rw [hH2.out]; exact AtomsO.nil _ _, r1⟩
    have h1b : (wo == [110, 101, 119]) = false := by rw [bytes_eq]; simpa using h1
    by_cases h2 : wo = [102, 114, 101, 101]
    · subst h2
      have hH2 : Hid (headF l = ⟨5, ta, 0, fctZ, ⟨[], []⟩⟩) := Lib.hid (by rw [hH.out, hta]; rfl)
      clear hH hta h1 h1b
      unfold simC at q0 k0
      go_wp2_with fail
      refine retW (D := fun T => Blk T w.heap.size tC (simC 5 ta 0) ∧ Below w.heap.size w T) ⟨ten0 k0, below_ten HB2.out (Nat.le_refl _)⟩ ?_
      rintro T ⟨kT, r1⟩
      have t := kT.cell
      exact bodyPost_ret (v := .agg (simC 5 ta 0)) (by simp [results, Tryz.results158, go_sem, simC, t]) rfl ⟨_, _, by rw [hH2.out]; rfl, by rw [hH2.out]; exact FactsO.nil _ _, by rw [hH2.out]; exact AtomsO.nil _ _, r1⟩
    have h2b : (wo == [102, 114, 101, 101]) = false := by rw [bytes_eq]; simpa using h2
    by_cases h3 : wo = [105, 102]
    · subst h3
      have hH2 : Hid (headF l = ⟨6, 0, 0, pF re, ⟨[], []⟩⟩) := Lib.hid (by rw [hH.out]; rfl)
      clear hH hta h1 h1b h2 h2b
      go_wp2_with fail
      refine (c_ParseFact re _).mono ?_
      rintro e w4 ⟨rfl, hB4⟩
      replace k0 := k0.next hB4
      have HB4 := Lib.hid (bgo HB2.out hB4)
      clear hB4 HB2 q0 r0 l0
      obtain ⟨fe, fa, fb, hfv⟩ : ∃ fe fa fb, ((parseF re).getD fct0) = ⟨fe, fa, fb⟩ := ⟨_, _, _, rfl⟩
      have hfv2 : ((parseF re).getD fct0).val = .agg #[.bool fe, .int .i64 fa, .int .i64 fb] := by rw [hfv]
      rw [hfv2]
      have hH3 : Hid (headF l = ⟨6, 0, 0, ⟨fe, fa, fb⟩, ⟨[], []⟩⟩) := Lib.hid (by rw [hH2.out, ← hfv]; rfl)
      clear hfv hfv2 hH2
      have q0 := k0.cell
      have r0 := k0.frozen
      have l0 := k0.lt
      unfold simC at q0 k0
      go_wp2_with fail
      refine retW (D := fun T => Blk T w.heap.size tC #[.int .i64 6, .int .i64 0, .int .i64 0, .bool fe, .int .i64 fa, .int .i64 fb, .slice none 0 0, .slice none 0 0, .slice none 0 0, .slice none 0 0] ∧ Below w.heap.size w T) ⟨(ten0 k0).alloc _, (below_ten HB4.out (Nat.le_refl _)).alloc (by simp; omega) _⟩ ?_
      rintro T ⟨kT, r1⟩
      have t := kT.cell
      exact bodyPost_ret (v := headV ⟨6, 0, 0, ⟨fe, fa, fb⟩, ⟨[], []⟩⟩ (.slice none 0 0) (.slice none 0 0)) (by simp [results, Tryz.results158, go_sem, headV, t]) rfl ⟨_, _, by rw [hH3.out], by rw [hH3.out]; exact FactsO.nil _ _, by rw [hH3.out]; exact AtomsO.nil _ _, r1⟩
    have h3b : (wo == [105, 102]) = false := by rw [bytes_eq]; simpa using h3
    have hH2 := Lib.hid (hH.out.trans (word7 h1 h2 h3))
    have s5 := splitM_len re [32, 119, 105, 116, 104, 32]
    have c5 := fun w => c_l8Split re [32, 119, 105, 116, 104, 32] w (by omega) (by simp)
    obtain ⟨⟨te, iv, o3⟩, hs5⟩ : ∃ s, s = splitM re [32, 119, 105, 116, 104, 32] := ⟨_, rfl⟩
    rw [← hs5] at s5 c5 hH2
    clear hs5 h1 h2 h3 hH hta
    simp only at s5 c5
    replace c5 := Lib.hid c5
    go_wp2_with fail
    refine (c5.out _).mono ?_
    rintro e w5 ⟨rfl, hB5⟩
    replace k0 := k0.next hB5
    have HB5 := Lib.hid (bgo HB2.out hB5)
    clear hB5 HB2 q0 r0 l0 c5
    have q0 := k0.cell
    have r0 := k0.frozen
    have l0 := k0.lt
    go_wp2_with fail
    refine (c_ParseFact te _).mono ?_
    rintro e w6 ⟨rfl, hB6⟩
    replace k0 := k0.next hB6
    have HB6 := Lib.hid (bgo HB5.out hB6)
    clear hB6 HB5 q0 r0 l0
    obtain ⟨fe, fa, fb, hfv⟩ : ∃ fe fa fb, ((parseF te).getD fct0) = ⟨fe, fa, fb⟩ := ⟨_, _, _, rfl⟩
    have hfv2 : ((parseF te).getD fct0).val = .agg #[.bool fe, .int .i64 fa, .int .i64 fb] := by rw [hfv]
    rw [hfv2]
    have hH3 : Hid (headF l = ⟨7, 0, 0, ⟨fe, fa, fb⟩, pA iv⟩) := Lib.hid (by rw [hH2.out, ← hfv]; rfl)
    clear hfv hfv2 hH2
    have q0 := k0.cell
    have r0 := k0.frozen
    have l0 := k0.lt
    have hne : w.heap.size ≠ w6.heap.size := by omega
    have k2 : Blk (w6.alloc (.cells #[.bool fe, .int .i64 fa, .int .i64 fb] tF)) w6.heap.size tF #[.bool fe, .int .i64 fa, .int .i64 fb] := blks
    go_wp2_with fail
    refine (c_ParseAssertion iv _ (by omega)).mono ?_
    rintro e w7 ⟨r7, rfl, o7, hB7⟩
    have z7 : w6.heap.size + 1 ≤ w7.heap.size := by simpa using hB7.size
    have hB67 : Below w6.heap.size w6 w7 := bgo (w := w6) bel hB7
    replace k0 := k0.next hB67
    replace k2 := k2.next hB7
    have HB7 := Lib.hid (bgo HB6.out hB67)
    have zz := HB6.out.size
    have zw : w.heap.size ≤ (w6.alloc (.cells #[.bool fe, .int .i64 fa, .int .i64 fb] tF)).heap.size := by simp; omega
    clear HB6 q0 r0 l0
    obtain ⟨i, hi⟩ : ∃ i, i = pA iv := ⟨_, rfl⟩
    rw [show (parseA iv).getD ⟨[], []⟩ = i from hi.symm] at o7
    rw [← hi] at hH3
    clear hi
    obtain ⟨fv, av, rfl, of, oa⟩ := o7
    obtain ⟨AF, cF, rfl, -⟩ := of.reads
    obtain ⟨AA, cA, rfl, -⟩ := oa.reads
    have HF := Lib.hid (of.lower (base' := w.heap.size) zw)
    have HA := Lib.hid (oa.lower (base' := w.heap.size) zw)
    clear of oa hB7 hB67
    obtain ⟨px, hpx⟩ : ∃ p, p = (parseA iv).isSome := ⟨_, rfl⟩
    rw [← hpx]
    clear hpx
    have q0 := k0.cell
    have r0 := k0.frozen
    have l0 := k0.lt
    have q2 := k2.cell
    have r2 := k2.frozen
    have l2' := k2.lt
    unfold simC at q0 k0
    go_wp2_with fail
    refine retW (D := fun T => Blk T w.heap.size tC #[.int .i64 7, .int .i64 0, .int .i64 0, .bool fe, .int .i64 fa, .int .i64 fb, .slice AF i.facts.length cF, .slice AA i.atoms.length cA, .slice none 0 0, .slice none 0 0] ∧ Below w.heap.size w T ∧ FactsO T w.heap.size (.slice AF i.facts.length cF) i.facts ∧ AtomsO T w.heap.size (.slice AA i.atoms.length cA) i.atoms) ⟨(ten0 k0).alloc _, (below_ten HB7.out (Nat.le_refl _)).alloc (by simp; omega) _, ?_, ?_⟩ ?_
    · exact ⟨own_below (own_ten HF.out.1 k0 (by decide)) (bbox (Below.refl _ _) _), HF.out.2⟩
    · exact ⟨own_below (own_ten HA.out.1 k0 (by decide)) (bbox (Below.refl _ _) _), HA.out.2⟩
    rintro T ⟨kT, r1, oF, oA⟩
    have t := kT.cell
    exact bodyPost_ret (v := headV ⟨7, 0, 0, ⟨fe, fa, fb⟩, i⟩ (.slice AF i.facts.length cF) (.slice AA i.atoms.length cA)) (by simp [results, Tryz.results158, go_sem, headV, t]) rfl ⟨_, _, by rw [hH3.out], by rw [hH3.out]; exact oF, by rw [hH3.out]; exact oA, r1⟩
--@
end Go.Proofs.YteogcababfenfaaGreat
