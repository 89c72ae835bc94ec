/- The texts of terms, facts and assertions, plain. -/
import Derived.Test.YtjaohekkmlkinaaDoorStr
import Derived.Test.YtjaohekkmlkinaaDoorSet
set_option linter.unusedSimpArgs false
set_option linter.unusedVariables false
namespace Go.Proofs.YtjaohekkmlkinaaDoor
open Go Go.RowKit Go.Proofs

def tnameL (t : Int) : Bs :=
  if t = 0 then [110, 105, 108] else if t = 1 then [97] else if t = 2 then [98] else if t = 3 then [99] else if t = 4 then [100] else
  if t = 5 then [112] else if t = 6 then [113] else if t = 7 then [114] else if t = 8 then [115] else []
theorem tnameL_len (t : Int) : (tnameL t).length ≤ 3 := by unfold tnameL; repeat' split
                                                           all_goals decide
theorem tnameL_out {t : Int} (h : isTermB t = false) : tnameL t = [] := by
  have h' : ¬ (0 ≤ t ∧ t ≤ 8) := fun e => by rw [isTermB_iff.2 e] at h; cases h
  unfold tnameL
  repeat rw [if_neg (by omega)]
def parseT (l : Bs) : Option Nat := (List.range 9).find? fun n => decide (tnameL n = l)
theorem parseT_some {l : Bs} {k : Nat} (hk : k < 9) (h : tnameL k = l) (hn : ∀ j, j < k → tnameL j ≠ l) : parseT l = some k := by
  unfold parseT
  rw [List.find?_range_eq_some]
  exact ⟨by simpa using h, by simpa using hk, fun j hj => by simpa using hn j hj⟩
theorem parseT_none {l : Bs} (hn : ∀ j : Nat, j < 9 → tnameL j ≠ l) : parseT l = none := by
  unfold parseT
  rw [List.find?_eq_none]
  intro j hj
  simpa using hn j (by simpa using hj)
theorem parseT_lt {l : Bs} {k : Nat} (h : parseT l = some k) : k < 9 ∧ tnameL k = l := by
  unfold parseT at h
  rw [List.find?_range_eq_some] at h
  exact ⟨by simpa using h.2.1, by simpa using h.1⟩
def fmtF (f : Fct) : Bs := if f.eq then tnameL f.a ++ [61] ++ tnameL f.b else tnameL f.a ++ [33, 61] ++ tnameL f.b
theorem fmtF_len (f : Fct) : (fmtF f).length ≤ 8 := by
  have h1 := tnameL_len f.a
  have h2 := tnameL_len f.b
  unfold fmtF; split <;> simp <;> omega
def cutAt (c : UInt8) : Bs → Option (Bs × Bs)
  | [] => none
  | x :: r => if x = c then some ([], r) else (cutAt c r).map fun p => (x :: p.1, p.2)
theorem cutAt_at {c : UInt8} : ∀ {l : Bs} {i : Nat} (h : i < l.length), l[i] = c → (∀ j (hj : j < i), l[j] ≠ c) → cutAt c l = some (l.take i, l.drop (i + 1))
  | x :: r, 0, _, h, _ => by simp only [List.getElem_cons_zero] at h; simp [cutAt, h]
  | x :: r, i + 1, hi, h, hn => by
    have hx : x ≠ c := hn 0 (by omega)
    have := cutAt_at (l := r) (i := i) (by simpa using hi) (by simpa using h) fun j hj => hn (j + 1) (by omega)
    simp [cutAt, hx, this]
theorem cutAt_no {c : UInt8} : ∀ {l : Bs}, (∀ j (hj : j < l.length), l[j] ≠ c) → cutAt c l = none
  | [], _ => rfl
  | x :: r, h => by
    have hx : x ≠ c := h 0 (by simp)
    have := cutAt_no (l := r) fun j hj => h (j + 1) (by simp; omega)
    simp [cutAt, hx, this]
def pairP (eq : Bool) : Option Nat → Option Nat → Option Fct
  | some x, some y => some ⟨eq, (x : Int), (y : Int)⟩
  | _, _ => none
def pairF (eq : Bool) (a b : Bs) : Option Fct := pairP eq (parseT a) (parseT b)
def parseF (l : Bs) : Option Fct := if 9 < l.length then none else match cutAt 61 l with
  | none => none
  | some (a, b) => if a.getLast? = some 33 then pairF false a.dropLast b else pairF true a b
theorem pairF_valid {eq : Bool} {a b : Bs} {f : Fct} (h : pairF eq a b = some f) : f.valid = true := by
  unfold pairF pairP at h
  split at h
  · rename_i x y hx hy
    injection h with h
    subst h
    have h1 := parseT_lt hx
    have h2 := parseT_lt hy
    simp only [Fct.valid, Bool.and_eq_true]
    exact ⟨isTermB_iff.2 (by omega), isTermB_iff.2 (by omega)⟩
  · cases h
def sign2 (x : UInt8) : Bool := x == 62 || x == 126
def cutX : Bs → Option (Bs × UInt8 × Bs)
  | [] => none
  | x :: r => if sign2 x then some ([], x, r) else (cutX r).map fun p => (x :: p.1, p.2)
theorem cutX_at : ∀ {l : Bs} {i : Nat} (h : i < l.length), sign2 l[i] = true → (∀ j (hj : j < i), sign2 l[j] = false) → cutX l = some (l.take i, l[i], l.drop (i + 1))
  | x :: r, 0, _, h, _ => by simp only [List.getElem_cons_zero] at h; simp [cutX, h]
  | x :: r, i + 1, hi, h, hn => by
    have hx : sign2 x = false := hn 0 (by omega)
    have := cutX_at (l := r) (i := i) (by simpa using hi) (by simpa using h) fun j hj => hn (j + 1) (by omega)
    simp [cutX, hx, this]
theorem cutX_no : ∀ {l : Bs}, (∀ j (hj : j < l.length), sign2 l[j] = false) → cutX l = none
  | [], _ => rfl
  | x :: r, h => by
    have hx : sign2 x = false := h 0 (by simp)
    have := cutX_no (l := r) fun j hj => h (j + 1) (by simp; omega)
    simp [cutX, hx, this]
def pairX (kd : Int) : Option Nat → Option Nat → Option Atm
  | some m, some n => some ⟨kd, (m : Int), (n : Int)⟩
  | _, _ => none
def parseX (l : Bs) : Option Atm := if 7 < l.length then none else match cutX l with
  | none => none
  | some (a, x, b) => pairX (if x = 126 then 2 else 1) (parseT a) (parseT b)
def splitA (c : UInt8) (acc : Bs) : Bs → List Bs
  | [] => [acc]
  | x :: r => if x = c then acc :: splitA c [] r else splitA c (acc ++ [x]) r
def splitL (c : UInt8) (l : Bs) : List Bs := splitA c [] l
theorem splitA_len (c : UInt8) : ∀ (l acc : Bs), (splitA c acc l).length ≤ l.length + 1
  | [], acc => by simp [splitA]
  | x :: r, acc => by
    have h1 := splitA_len c r []
    have h2 := splitA_len c r (acc ++ [x])
    unfold splitA
    split
    · simp only [List.length_cons]; omega
    · simp only [List.length_cons]; omega
def wordsL (l : Bs) : List Bs := (splitL 32 l).filter fun x => decide (x ≠ [])
theorem wordsL_len (l : Bs) : (wordsL l).length ≤ l.length + 1 := Nat.le_trans (List.length_filter_le _ _) (splitA_len 32 l [])
def outF (fs : List Fct) : Nat → Bs
  | 0 => []
  | k + 1 => (if 0 < k then outF fs k ++ [32, 38, 32] else outF fs k) ++ fmtF (fs.getD k default)
def signX (x : Atm) : Bs := if x.kind = 2 then [126] else [62]
def outSX (o : Bs) (xs : List Atm) : Nat → Bs
  | 0 => o
  | k + 1 => (if k = 0 then outSX o xs k ++ [32, 124, 32] else outSX o xs k ++ [32, 42, 32]) ++ tnameL (xs.getD k default).a ++ signX (xs.getD k default) ++ tnameL (xs.getD k default).b
def factsT (fs : List Fct) : Bs := if fs.length = 0 then [116, 114, 117, 101] else outF fs fs.length
def textA (a : Asn) : Bs := if a.atoms.length = 0 then factsT a.facts ++ [32, 124, 32, 101, 109, 112] else outSX (factsT a.facts) a.atoms a.atoms.length
def fmtA (a : Asn) : Bs := if a.valid then textA a else []
theorem outF_len (fs : List Fct) : ∀ (k : Nat), (outF fs k).length ≤ k * 11
  | 0 => by simp [outF]
  | k + 1 => by
    have h1 := outF_len fs k
    have h2 := fmtF_len (fs.getD k default)
    unfold outF; split <;> simp only [List.length_append, List.length_cons, List.length_nil] <;> omega
theorem outX_len (o : Bs) (xs : List Atm) : ∀ (k : Nat), (outSX o xs k).length ≤ o.length + k * 10
  | 0 => by simp [outSX]
  | k + 1 => by
    have h1 := outX_len o xs k
    have h2 := tnameL_len (xs.getD k default).a
    have h3 := tnameL_len (xs.getD k default).b
    have h4 : (signX (xs.getD k default)).length = 1 := by unfold signX; split <;> rfl
    unfold outSX; split <;> simp only [List.length_append, List.length_cons, List.length_nil, h4] <;> omega
theorem factsT_len (fs : List Fct) : (factsT fs).length ≤ 4 + fs.length * 11 := by
  have h := outF_len fs fs.length
  unfold factsT; split
  · simp
  · omega
theorem textA_len (a : Asn) : (textA a).length ≤ 10 + a.facts.length * 11 + a.atoms.length * 10 := by
  have h1 := factsT_len a.facts
  have h2 := outX_len (factsT a.facts) a.atoms a.atoms.length
  unfold textA; split
  · simp only [List.length_append, List.length_cons, List.length_nil]; omega
  · omega
def stepA (st : List Fct × List Atm × Bool) (x : Bs) : Option (List Fct × List Atm) :=
  match (if st.2.2 then none else parseF x), (if st.2.2 then parseX x else none) with
  | some f, _ => some (st.1 ++ [f], st.2.1)
  | none, some y => some (st.1, st.2.1 ++ [y])
  | none, none => if x ≠ [116, 114, 117, 101] ∧ x ≠ [101, 109, 112] then none else some (st.1, st.2.1)
def readA : List Bs → List Fct × List Atm × Bool → Option Asn
  | [], st => some ⟨st.1, st.2.1⟩
  | [x], st => (stepA st x).map fun p => ⟨p.1, p.2⟩
  | x :: y :: r, st => match stepA st x with
    | none => none
    | some p => readA r (p.1, p.2, st.2.2 || decide (y = [124]))
def parseA (l : Bs) : Option Asn := if 300 < l.length then none else match readA (wordsL l) ([], [], false) with
  | none => none
  | some a => if fmtA a = l ∧ l ≠ [] then some a else none
theorem parseA_valid {l : Bs} {a : Asn} (h : parseA l = some a) : a.valid = true ∧ fmtA a = l := by
  unfold parseA at h
  split at h
  · cases h
  split at h
  · cases h
  split at h
  · rename_i b hb hx
    injection h with h
    subst h
    refine ⟨?_, hx.1⟩
    cases hv : b.valid
    · exfalso
      have := hx.1
      unfold fmtA at this
      rw [hv] at this
      exact hx.2 this.symm
    · rfl
  · cases h
end Go.Proofs.YtjaohekkmlkinaaDoor

