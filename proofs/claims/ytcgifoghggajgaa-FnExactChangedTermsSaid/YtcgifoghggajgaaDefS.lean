/- States: plain functions. No program. -/
import Derived.Test.YtcgifoghggajgaaDef
import Derived.Test.YtcgifoghggajgaaBits
set_option linter.unusedSimpArgs false
set_option linter.unusedVariables false
namespace Go.Proofs.Ytcgifoghggajgaa
open Go Go.RowKit

def StateV (w : World) (lo hi : Nat) (v : Value) (s : Ste) : Prop :=
  ∃ A1 c1 A2 c2, v = .agg #[.slice A1 s.values.length c1, .slice A2 s.heap.length c2] ∧ IntsV w lo hi A1 s.values ∧ IntsV w lo hi A2 s.heap
section
variable {w w' : World} {lo hi lo' hi' : Nat} {v : Value} {s : Ste}
theorem StateV.below (h : StateV w lo hi v s) (hb : Below w.heap.size w w') : StateV w' lo hi v s := by
  obtain ⟨A1, c1, A2, c2, e, h1, h2⟩ := h
  exact ⟨A1, c1, A2, c2, e, h1.below hb, h2.below hb⟩
theorem StateV.abv {l : Nat} (h : StateV w lo hi v s) (hb : Abv l w w') (hl : l ≤ lo) : StateV w' lo hi v s := by
  obtain ⟨A1, c1, A2, c2, e, h1, h2⟩ := h
  exact ⟨A1, c1, A2, c2, e, Rd.abv h1 hb hl, Rd.abv h2 hb hl⟩
theorem StateV.mono (h : StateV w lo hi v s) (e1 : lo' ≤ lo) (e2 : hi ≤ hi') : StateV w lo' hi' v s := by
  obtain ⟨A1, c1, A2, c2, e, h1, h2⟩ := h
  exact ⟨A1, c1, A2, c2, e, h1.mono e1 e2, h2.mono e1 e2⟩
end

def addrB (n : Int) : Bool := decide (1 ≤ n ∧ n ≤ 8)
def valB (n : Int) : Bool := decide (0 ≤ n ∧ n ≤ 8)
def cellB (n : Int) : Bool := decide (n = -1) || valB n
def Ste.valid (s : Ste) : Bool := decide (s.values.length = 8) && decide (s.heap.length = 8) && (s.values.all valB && s.heap.all cellB)
def cont (h : List Int) (a : Int) : Int := if addrB a then (h[(a-1).toNat]?).getD (-1) else -1
def allocB (h : List Int) (a : Int) : Bool := decide (0 ≤ cont h a)
def tval (vs : List Int) (t : Int) : Int := if t = 0 then 0 else (vs[(t-1).toNat]?).getD 0
def Fct.holds (vs : List Int) (f : Fct) : Bool := decide (tval vs f.a = tval vs f.b) == f.eq
def factsHold (fs : List Fct) (vs : List Int) : Bool := factsValid fs && decide (vs.length = 8) && fs.all (Fct.holds vs)

theorem Ste.valid_len {s : Ste} (h : s.valid = true) : s.values.length = 8 ∧ s.heap.length = 8 := by
  simp [Ste.valid] at h; exact h.1
theorem cont_le {h : List Int} (hh : h.all cellB = true) (a : Int) : -1 ≤ cont h a ∧ cont h a ≤ 8 := by
  unfold cont
  split
  · cases e : h[(a-1).toNat]? with
    | none => simp
    | some v =>
      have := List.all_eq_true.1 hh v (List.mem_of_getElem? e)
      simp [cellB, valB] at this
      simp only [Option.getD_some]
      omega
  · omega
theorem tval_le {vs : List Int} (hh : vs.all valB = true) (t : Int) : 0 ≤ tval vs t ∧ tval vs t ≤ 8 := by
  unfold tval
  split
  · omega
  · cases e : vs[(t-1).toNat]? with
    | none => simp
    | some v =>
      have := List.all_eq_true.1 hh v (List.mem_of_getElem? e)
      simpa [valB] using this

/-- the way from one value to another, of at most n cells -/
def walkF (h : List Int) : Nat → Int → Int → Option (List Int)
  | 0, x, to => if x = to then some [] else none
  | n + 1, x, to => if x = to then some [] else if allocB h x then (walkF h n (cont h x) to).map (x :: ·) else none
theorem walkF_here (h : List Int) (n : Nat) (x : Int) : walkF h n x x = some [] := by cases n <;> simp [walkF]
theorem walkF_stop (h : List Int) (n : Nat) {x to : Int} (hne : x ≠ to) (hs : allocB h x = false ∨ n = 0) : walkF h n x to = none := by
  cases n with
  | zero => simp [walkF, hne]
  | succ n =>
    rcases hs with hs | hs
    · simp [walkF, hne, hs]
    · cases hs
theorem walkF_on (h : List Int) (n : Nat) {x to : Int} (hne : x ≠ to) (hs : allocB h x = true) : walkF h (n + 1) x to = (walkF h n (cont h x) to).map (x :: ·) := by simp [walkF, hne, hs]
theorem cont_alloc {h : List Int} {a : Int} (ha : allocB h a = true) : addrB a = true ∧ 0 ≤ cont h a := by
  simp only [allocB, decide_eq_true_eq] at ha
  refine ⟨?_, ha⟩
  unfold cont at ha
  split at ha
  · assumption
  · omega

def addAll : List Int → List Int → Option (List Int)
  | seen, [] => some seen
  | seen, c :: cs => if c ∈ seen then none else addAll (seen ++ [c]) cs
def atomCells (s : Ste) (x : Atm) : Option (List Int) :=
  if x.kind = 2 then walkF s.heap 8 (tval s.values x.a) (tval s.values x.b) else if cont s.heap (tval s.values x.a) = tval s.values x.b then some [tval s.values x.a] else none
def partAtoms (s : Ste) : List Int → List Atm → Option (List Int)
  | seen, [] => some seen
  | seen, x :: xs => (atomCells s x).bind fun cs => (addAll seen cs).bind fun seen' => partAtoms s seen' xs
def partOf (s : Ste) (a : Asn) : Option (List Int) := if s.valid && a.valid && factsHold a.facts s.values then partAtoms s [] a.atoms else none
def cellsL (S : Nat) (k : Nat) : List Int := ((List.range' 1 k).filter fun n => S.testBit n).map fun n : Nat => (n : Int)
def holdsPart (s : Ste) (a : Asn) : Option (List Int) := (partOf s a).map fun seen => cellsL (bitsOf seen) 8
theorem cellsL_succ (S k : Nat) : cellsL S (k + 1) = cellsL S k ++ if S.testBit (k + 1) then [((k + 1 : Nat) : Int)] else [] := by
  unfold cellsL
  rw [List.range'_1_concat, List.filter_append, List.map_append, Nat.add_comm 1 k]
  cases h : S.testBit (k + 1) <;> simp [h]
theorem cellsL_length (S k : Nat) : (cellsL S k).length ≤ k := by
  unfold cellsL
  rw [List.length_map]
  exact Nat.le_trans (List.length_filter_le _ _) (by simp)
theorem walkF_addr (h : List Int) : ∀ (n : Nat) (x to : Int) (cs : List Int), walkF h n x to = some cs → cs.length ≤ n ∧ ∀ c ∈ cs, addrB c = true ∧ allocB h c = true := by
  intro n
  induction n with
  | zero => intro x to cs hw; simp only [walkF] at hw; split at hw <;> simp_all
  | succ n ih =>
    intro x to cs hw
    simp only [walkF] at hw
    split at hw
    · obtain rfl := Option.some.inj hw; simp
    · split at hw
      · rename_i ha
        obtain ⟨ds, hd, rfl⟩ := Option.map_eq_some_iff.1 hw
        have := ih _ _ _ hd
        refine ⟨by simp; omega, fun c hc => ?_⟩
        rcases List.mem_cons.1 hc with rfl | hc
        · exact ⟨(cont_alloc ha).1, ha⟩
        · exact this.2 c hc
      · cases hw
theorem atomCells_addr {s : Ste} {x : Atm} (hs : s.valid = true) {cs : List Int} (h : atomCells s x = some cs) : cs.length ≤ 8 ∧ ∀ c ∈ cs, addrB c = true ∧ allocB s.heap c = true := by
  unfold atomCells at h
  split at h
  · exact walkF_addr _ _ _ _ _ h
  · split at h
    · rename_i hc
      obtain rfl := Option.some.inj h
      have hv : s.values.all valB = true := by simp only [Ste.valid, Bool.and_eq_true] at hs; exact hs.2.1
      have := tval_le hv x.b
      have ha : allocB s.heap (tval s.values x.a) = true := by simp only [allocB, decide_eq_true_eq]; omega
      refine ⟨by simp, fun c hcc => ?_⟩
      obtain rfl : c = tval s.values x.a := by simpa using hcc
      exact ⟨(cont_alloc ha).1, ha⟩
    · cases h
theorem addAll_mem : ∀ (cs seen out : List Int), addAll seen cs = some out → out = seen ++ cs := by
  intro cs
  induction cs with
  | nil => intro seen out h; simp only [addAll, Option.some.injEq] at h; simp [h]
  | cons c cs ih =>
    intro seen out h
    simp only [addAll] at h
    split at h
    · cases h
    · rw [ih _ _ h]; simp
end Go.Proofs.Ytcgifoghggajgaa
