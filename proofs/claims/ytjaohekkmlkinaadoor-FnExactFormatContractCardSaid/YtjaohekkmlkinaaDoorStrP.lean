/- The texts of terms, facts and assertions, plain. -/
import Derived.Test.YtjaohekkmlkinaaDoorStr
import Derived.Test.YtjaohekkmlkinaaDoorSet
set_option linter.unusedSimpArgs false
set_option linter.unusedVariables false
set_option maxRecDepth 100000
set_option maxHeartbeats 25600000
namespace Go.Proofs.YtjaohekkmlkinaaDoor
section
open Go Go.RowKit Go.Proofs
def tnameL (t : Int) : Bs :=
  if t = 0 then [110, 105, 108] else if t = 1 then [97] else if t = 2 then [98] else if t = 3 then [99] else if t = 4 then [100] else
  if t = 5 then [112] else if t = 6 then [113] else if t = 7 then [114] else if t = 8 then [115] else []
theorem tnameL_len (t : Int) : (tnameL t).length ≤ 3 := by unfold tnameL; repeat' split
                                                           all_goals decide
theorem tnameL_out {t : Int} (h : jq t = false) : tnameL t = [] := by
  have h' : ¬ (0 ≤ t ∧ t ≤ 8) := fun e => by rw [zjA.2 e] at h; cases h
  unfold tnameL
  repeat rw [if_neg (by omega)]
def fmtF (f : Fct) : Bs := if f.eq then tnameL f.a ++ [61] ++ tnameL f.b else tnameL f.a ++ [33, 61] ++ tnameL f.b
theorem fmtF_len (f : Fct) : (fmtF f).length ≤ 8 := by
  have h1 := tnameL_len f.a;have h2 := tnameL_len f.b;unfold fmtF; split <;> simp <;> omega
def outF (fs : List Fct) : Nat → Bs
  | 0 => []
  | k + 1 => (if 0 < k then outF fs k ++ [32, 38, 32] else outF fs k) ++ fmtF (fs.getD k default)
def signX (x : Atm) : Bs := if x.kind = 2 then [126] else [62]
def outSX (o : Bs) (xs : List Atm) : Nat → Bs
  | 0 => o
  | k + 1 => (if k = 0 then outSX o xs k ++ [32, 124, 32] else outSX o xs k ++ [32, 42, 32]) ++ tnameL (xs.getD k default).a ++ signX (xs.getD k default) ++ tnameL (xs.getD k default).b
def factsT (fs : List Fct) : Bs := if fs.length = 0 then [116, 114, 117, 101] else outF fs fs.length
def textA (a : Asn) : Bs := if a.atoms.length = 0 then factsT a.facts ++ [32, 124, 32, 101, 109, 112] else outSX (factsT a.facts) a.atoms a.atoms.length
theorem outF_len (fs : List Fct) : ∀ (k : Nat), (outF fs k).length ≤ k * 11
  | 0 => by simp [outF]
  | k + 1 => by
    have h1 := outF_len fs k;have h2 := fmtF_len (fs.getD k default);unfold outF; split <;> simp only [List.length_append, List.length_cons, List.length_nil] <;> omega
theorem outX_len (o : Bs) (xs : List Atm) : ∀ (k : Nat), (outSX o xs k).length ≤ o.length + k * 10
  | 0 => by simp [outSX]
  | k + 1 => by
    have h1 := outX_len o xs k;have h2 := tnameL_len (xs.getD k default).a;have h3 := tnameL_len (xs.getD k default).b;have h4 : (signX (xs.getD k default)).length = 1 := by unfold signX; split <;> rfl
    unfold outSX; split <;> simp only [List.length_append, List.length_cons, List.length_nil, h4] <;> omega
theorem factsT_len (fs : List Fct) : (factsT fs).length ≤ 4 + fs.length * 11 := by
  have h := outF_len fs fs.length;unfold factsT; split
  · simp
  · omega
theorem textA_len (a : Asn) : (textA a).length ≤ 10 + a.facts.length * 11 + a.atoms.length * 10 := by
  have h1 := factsT_len a.facts;have h2 := outX_len (factsT a.facts) a.atoms a.atoms.length;unfold textA; split
  · simp only [List.length_append, List.length_cons, List.length_nil]; omega
  · omega
end
end Go.Proofs.YtjaohekkmlkinaaDoor
