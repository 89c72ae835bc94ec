/- Contracts: truth of assertions. -/
import Derived.Test.YtciabhddppdioaaGreatWalk
import Derived.Deep.RegionHeld3
set_option linter.unusedSimpArgs false
set_option linter.unusedVariables false
namespace Go.Proofs.YtciabhddppdioaaGreat
open Go Go.RowKit Go.Proofs

--@ impl.partOf
theorem partAtoms_step (s : Ste) (seen : List Int) (xs : List Atm) (k : Nat) (hk : k < xs.length) : partAtoms s seen (xs.drop k) = (atomCells s xs[k]).bind fun cs => (addAll seen cs).bind fun seen' => partAtoms s seen' (xs.drop (k + 1)) := by
  rw [List.drop_eq_getElem_cons hk]; rfl
theorem addAll_step (seen cs : List Int) (k : Nat) (hk : k < cs.length) : addAll seen (cs.drop k) = if cs[k] ∈ seen then none else addAll (seen ++ [cs[k]]) (cs.drop (k + 1)) := by
  rw [List.drop_eq_getElem_cons hk]; rfl
theorem addrB_iff {x : Int} : addrB x = true ↔ 1 ≤ x ∧ x ≤ 8 := by simp [addrB]
theorem seen_lt {seen : List Int} (h : ∀ c ∈ seen, addrB c = true) : bitsOf seen < 512 := by
  have := bitsOf_lt (l := seen) (k := 9) (fun x hx => by have := addrB_iff.1 (h x hx); omega)
  simpa using this
theorem seen_bit {seen : List Int} (h : ∀ c ∈ seen, addrB c = true) {x : Int} (hx : 0 ≤ x) : (bitsOf seen).testBit x.toNat = decide (x ∈ seen) := by
  rw [testBit_bitsOf (fun y hy => by have := addrB_iff.1 (h y hy); omega), Int.toNat_of_nonneg hx]
theorem atoms_valid {a : Asn} (h : a.valid = true) {k : Nat} (hk : k < a.atoms.length) : a.atoms[k].valid = true := by
  simp only [Asn.valid, Bool.and_eq_true] at h
  exact List.all_eq_true.1 h.2.2 _ (List.getElem_mem hk)
--@ impl.HoldsPart
theorem partAtoms_addr {s : Ste} (hs : s.valid = true) : ∀ (xs : List Atm) (seen out : List Int), (∀ c ∈ seen, addrB c = true) → partAtoms s seen xs = some out → ∀ c ∈ out, addrB c = true := by
  intro xs
  induction xs with
  | nil => intro seen out h he; simp only [partAtoms, Option.some.injEq] at he; subst he; exact h
  | cons x xs ih =>
    intro seen out h he
    simp only [partAtoms] at he
    cases hc : atomCells s x with
    | none => simp [hc] at he
    | some cs =>
      rw [hc] at he
      simp only [Option.bind_some] at he
      cases hd : addAll seen cs with
      | none => simp [hd] at he
      | some sn =>
        rw [hd] at he
        simp only [Option.bind_some] at he
        refine ih sn out ?_ he
        rw [addAll_mem _ _ _ hd]
        intro c hcc
        rcases List.mem_append.1 hcc with hcc | hcc
        · exact h c hcc
        · exact ((atomCells_addr hs hc).2 c hcc).1
theorem partOf_addr {s : Ste} {a : Asn} {seen : List Int} (h : partOf s a = some seen) : ∀ c ∈ seen, addrB c = true := by
  unfold partOf at h
  split at h
  · rename_i hv
    simp only [Bool.and_eq_true] at hv
    exact partAtoms_addr hv.1.1 _ _ _ (by intro c hc; cases hc) h
  · cases h
--@ spec.l3List
def idxL (fl : List Bool) (k : Nat) : List Int := ((List.range k).filter fun n => fl.getD n false).map fun n : Nat => (n : Int)
theorem idxL_succ (fl : List Bool) (k : Nat) : idxL fl (k + 1) = idxL fl k ++ if fl.getD k false then [(k : Int)] else [] := by
  unfold idxL
  rw [List.range_succ, List.filter_append, List.map_append, List.filter_cons, List.filter_nil]
  cases fl.getD k false <;> rfl
theorem idxL_length (fl : List Bool) (k : Nat) : (idxL fl k).length ≤ k := by
  unfold idxL
  rw [List.length_map]
  exact Nat.le_trans (List.length_filter_le _ _) (by simp)
--@ spec.l4Part
def flagsOf (S : Nat) : List Bool := (List.range 9).map fun i => S.testBit i
theorem flagsOf_length (S : Nat) : (flagsOf S).length = 9 := by simp [flagsOf]
theorem flagsOf_get (S k : Nat) (hk : k < 9) : (flagsOf S)[k]? = some (S.testBit k) := by simp [flagsOf, hk]
theorem flagsOf_zero : flagsOf 0 = [false, false, false, false, false, false, false, false, false] := by decide
theorem flagsOf_set (S n : Nat) : (flagsOf S).set n true = flagsOf (S ||| 1 <<< n) := by
  apply List.ext_getElem?
  intro j
  simp only [flagsOf, List.getElem?_set, List.getElem?_map, List.length_map, List.length_range]
  by_cases hj : j < 9
  · rw [List.getElem?_range hj]
    simp only [Option.map_some, Nat.testBit_or, Nat.one_shiftLeft, Nat.testBit_two_pow]
    by_cases e : n = j
    · subst e; simp [hj]
    · simp [e]
  · rw [List.getElem?_eq_none (by simp; omega)]
    by_cases e : n = j
    · subst e; simp [hj]
    · simp [e]
theorem idxL_flagsOf (S : Nat) (h0 : S.testBit 0 = false) : idxL (flagsOf S) (flagsOf S).length = cellsL S 8 := by
  rw [flagsOf_length]
  unfold idxL cellsL
  have e : ∀ n ∈ List.range 9, (flagsOf S).getD n false = S.testBit n := by
    intro n hn
    rw [List.getD_eq_getElem?_getD, flagsOf_get S n (by simpa using hn)]
    rfl
  rw [List.filter_congr e]
  have r : List.range 9 = 0 :: List.range' 1 8 := by decide
  rw [r, List.filter_cons, h0]
  simp
theorem encB_flags (S : Nat) : (encB (flagsOf S)).length = 9 := by simp [flagsOf]
theorem flags_cell (S : Nat) (cs : Array Value) (he : cs = (encB (flagsOf S)).toArray) {k : Nat} (hk : k < 9) : cs[k]? = some (.bool (S.testBit k)) := by
  subst he
  simp [encB, flagsOf_get S k hk]
theorem flags_upd (S n : Nat) : ((encB (flagsOf S)).toArray).setIfInBounds n (.bool true) = (encB (flagsOf (S ||| 1 <<< n))).toArray := by
  rw [← flagsOf_set, encB, encB, List.map_set]; simp
theorem partOf_valid {s : Ste} {a : Asn} (hs : s.valid = true) (ha : a.valid = true) : partOf s a = if a.facts.all (Fct.holds s.values) then partAtoms s [] a.atoms else none := by
  have h8 := (Ste.valid_len hs).1
  have hf : factsValid a.facts = true := by simp only [Asn.valid, Bool.and_eq_true] at ha; exact ha.1
  unfold partOf factsHold
  rw [hs, ha, hf, h8]; simp
--@ spec.HoldsPart
theorem bits_zero {seen : List Int} (h : ∀ c ∈ seen, addrB c = true) : (bitsOf seen).testBit 0 = false := by
  rw [testBit_bitsOf (fun y hy => by have := addrB_iff.1 (h y hy); omega)]
  simp only [decide_eq_false_iff_not]
  intro hm
  have := addrB_iff.1 (h _ hm)
  omega
end Go.Proofs.YtciabhddppdioaaGreat
