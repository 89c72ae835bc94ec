/- Strings: lists of bytes; lists of strings. -/
import Derived.Test.YtlmjjflalmegfaaGreatMDefS
import Derived.Test.YtlmjjflalmegfaaGreatMSte
import Derived.Test.YtlmjjflalmegfaaGreatVal
import Derived.BigQuiet
import Derived.Deep.RegionHeld3
import Derived.Deep.QuietTactic
import Derived.Deep.DeepCutAuto
set_option linter.unusedSimpArgs false
set_option linter.unusedVariables false
namespace Go.Proofs.YtlmjjflalmegfaaGreat
open Go Go.RowKit Go.Proofs

abbrev Bs : Type := List UInt8
/-- a string as a value -/
abbrev sv (l : Bs) : Value := .string ⟨l.toArray⟩
def encS (ss : List Bs) : List Value := ss.map sv
@[simp] theorem encS_length (ss : List Bs) : (encS ss).length = ss.length := by simp [encS]
theorem bytes_eq (a b : Bs) : (a == b) = decide (a = b) := by
  by_cases h : a = b
  · rw [decide_eq_true h, h]; exact beq_self_eq_true b
  · rw [decide_eq_false h]; exact beq_eq_false_iff_ne.2 h
theorem ret_str {x y : Bs} (h : x = y) : Ending.returned (Value.string ⟨x.toArray⟩) = .returned (sv y) := by rw [h]
theorem addS {P : Program} (x y : Bs) (h : x.length + y.length ≤ 9223372036854775807) (w : World) : (Op.stringOp .add ⟨x.toArray⟩ ⟨y.toArray⟩).run P w = .ok (.string ⟨(x ++ y).toArray⟩) w := by
  rw [run_string_add_sum w _ _ (by simp [ByteArray.size]; omega), ByteArray.mk_append_mk]
theorem bidx (l : Bs) (k : Nat) (hk : k < l.length) : ∀ h, (ByteArray.mk l.toArray)[k]'h = l[k]'hk := fun _ => rfl
theorem bext (l : Bs) (i j : Nat) : (ByteArray.mk l.toArray).extract i j = ⟨((l.drop i).take (j - i)).toArray⟩ := ByteArray.extract_mk l i j
theorem addO {P : Program} (x y : Bs) (h : x.length + y.length ≤ 9223372036854775807) : ∃ z, Hid (z = x ++ y) ∧ ∀ w : World, (Op.stringOp .add ⟨x.toArray⟩ ⟨y.toArray⟩).run P w = .ok (.string ⟨z.toArray⟩) w :=
  ⟨x ++ y, Lib.hid rfl, fun w => addS x y h w⟩
--@ []string
abbrev tS : Nat := 9
theorem infoS : (Tryz.prog.info? tS).map (fun i => (i.zero, i.size, i.bytes)) = some (some (.string ⟨#[]⟩), 1, 16) := by kernel_rfl
def StrsO (w : World) (base : Nat) (v : Value) (xs : List Bs) : Prop := w.ownsRow base tS 1 v xs.length (encS xs) ∧ Lim xs.length
def StrsV (w : World) (lo hi : Nat) (A : Option Addr) (xs : List Bs) : Prop := Rd w lo hi 1 A xs.length (encS xs)
section
variable {w w' : World} {base base' lo hi : Nat} {v : Value} {fs : List Bs} {A : Option Addr}
theorem StrsO.below (h : StrsO w base v fs) (hb : Below w.heap.size w w') : StrsO w' base v fs := ⟨own_below h.1 hb, h.2⟩
theorem StrsO.abv {lo : Nat} (h : StrsO w base v fs) (hb : Abv lo w w') (hl : lo ≤ base) : StrsO w' base v fs := ⟨own_abv h.1 hb hl, h.2⟩
theorem StrsO.lower (h : StrsO w base v fs) (hb : base' ≤ base) : StrsO w base' v fs := ⟨own_lower h.1 hb, h.2⟩
theorem StrsO.reads (h : StrsO w base v fs) : ∃ A c, v = .slice A fs.length c ∧ StrsV w base w.heap.size A fs := own_reads h.1 h.2
theorem StrsV.at (h : StrsV w lo hi A fs) {k : Nat} (hk : k < fs.length) : ∃ b o, A = some ⟨b, o, none⟩ ∧ w.cell? ⟨b, o + k, none⟩ = some (sv fs[k]) := by
  obtain ⟨b, o, e, _, hb, hc⟩ := h.raw.2 (by omega)
  exact ⟨b, o, e, hc _ _ (by simp [encS, List.getElem?_eq_getElem hk])⟩
theorem StrsV.below (h : StrsV w lo hi A fs) (hb : Below w.heap.size w w') : StrsV w' lo hi A fs := Rd.below h hb
theorem StrsV.mono {lo' hi' : Nat} (h : StrsV w lo hi A fs) (e1 : lo' ≤ lo) (e2 : hi ≤ hi') : StrsV w lo' hi' A fs := Rd.mono h e1 e2
theorem StrsV.le (h : StrsV w lo hi A fs) : Lim fs.length := h.lim
theorem StrsO.empty (w : World) {g : Nat} (hg : g = w.heap.size) : StrsO (w.alloc (.cells #[] tS)) g (.slice (some ⟨g, 0, none⟩) 0 0) [] := by
  subst hg
  exact ⟨own_empty w _ _, by simp [Lim]⟩
end
section
variable {ops : Array Oper} {rest : List Oper} {o : Oper} {a : Act} {Q : Exit → Act → World → Prop} {w : World}
theorem appS (hgd : o.guard = none) (s x : Operand) (ho : o.op = .call { callee := .builtin .append, args := #[s, x], argTypes := #[160, 160] })
    {base : Nat} {v : Value} {xs : List Bs} (hs : a.eval s = v) (hown : StrsO w base v xs) (g0 : Nat) (n : Bs) (hx : a.eval x = .slice (some ⟨g0, 0, none⟩) 1 1) (hc : w.cell? ⟨g0, 0, none⟩ = some (sv n))
    (hn : xs.length + 1 ≤ 1049600) (hb : base ≤ w.heap.size)
    (h : ∀ g c w', StrsO w' base (.slice (some ⟨g, 0, none⟩) (xs.length + 1) c) (xs ++ [n]) → w.grownBy w' v.ownBlock → Below base w w' → wpList Tryz.prog ops Q rest (a.put o.dst (.slice (some ⟨g, 0, none⟩) (xs.length + 1) c)) w') : wpList Tryz.prog ops Q (o :: rest) a w := by
  refine wpList_app hgd s x 160 ho Tryz.underlying160 infoS rfl (by decide) (by decide) hs hown.1 ⟨g0, 0, none⟩ [sv n] hx rfl ?_ (by simp [Value.oneCell']) hn hb ?_
  · intro j u hu
    match j, hu with
    | 0, hu => simp at hu; subst hu; exact hc
  · intro g c w' h1 h2 h3
    exact h g c w' ⟨by simpa [encS] using h1, by simp [Lim]; omega⟩ h2 h3
end
--@
end Go.Proofs.YtlmjjflalmegfaaGreat

/- The texts of terms, facts and assertions, plain. -/
namespace Go.Proofs.YtlmjjflalmegfaaGreat
open Go Go.RowKit Go.Proofs

def tnameL (t : Int) : Bs :=
  if t = 0 then [110, 105, 108] else if t = 1 then [97] else if t = 2 then [98] else if t = 3 then [99] else if t = 4 then [100] else
  if t = 5 then [112] else if t = 6 then [113] else if t = 7 then [114] else if t = 8 then [115] else []
theorem tnameL_len (t : Int) : (tnameL t).length ≤ 3 := by unfold tnameL; repeat' split
                                                           all_goals decide
theorem tnameL_out {t : Int} (h : isTermB t = false) : tnameL t = [] := by
  have h' : ¬ (0 ≤ t ∧ t ≤ 8) := fun e => by rw [isTermB_iff.2 e] at h; cases h
  unfold tnameL
  repeat rw [if_neg (by omega)]
/-- the term with a name -/
def parseT (l : Bs) : Option Nat := (List.range 9).find? fun n => decide (tnameL n = l)
theorem parseT_some {l : Bs} {k : Nat} (hk : k < 9) (h : tnameL k = l) (hn : ∀ j, j < k → tnameL j ≠ l) : parseT l = some k := by
  unfold parseT
  rw [List.find?_range_eq_some]
  exact ⟨by simpa using h, by simpa using hk, fun j hj => by simpa using hn j hj⟩
theorem parseT_none {l : Bs} (hn : ∀ j : Nat, j < 9 → tnameL j ≠ l) : parseT l = none := by
  unfold parseT
  rw [List.find?_eq_none]
  intro j hj
  simpa using hn j (by simpa using hj)
def fmtF (f : Fct) : Bs := if f.eq then tnameL f.a ++ [61] ++ tnameL f.b else tnameL f.a ++ [33, 61] ++ tnameL f.b
theorem fmtF_len (f : Fct) : (fmtF f).length ≤ 8 := by
  have h1 := tnameL_len f.a
  have h2 := tnameL_len f.b
  unfold fmtF; split <;> simp <;> omega
/-- cut at the first byte c -/
def cutAt (c : UInt8) : Bs → Option (Bs × Bs)
  | [] => none
  | x :: r => if x = c then some ([], r) else (cutAt c r).map fun p => (x :: p.1, p.2)
theorem cutAt_at {c : UInt8} : ∀ {l : Bs} {i : Nat} (h : i < l.length), l[i] = c → (∀ j (hj : j < i), l[j] ≠ c) → cutAt c l = some (l.take i, l.drop (i + 1))
  | x :: r, 0, _, h, _ => by simp only [List.getElem_cons_zero] at h; simp [cutAt, h]
  | x :: r, i + 1, hi, h, hn => by
    have hx : x ≠ c := hn 0 (by omega)
    have := cutAt_at (l := r) (i := i) (by simpa using hi) (by simpa using h) fun j hj => hn (j + 1) (by omega)
    simp [cutAt, hx, this]
theorem cutAt_no {c : UInt8} : ∀ {l : Bs}, (∀ j (hj : j < l.length), l[j] ≠ c) → cutAt c l = none
  | [], _ => rfl
  | x :: r, h => by
    have hx : x ≠ c := h 0 (by simp)
    have := cutAt_no (l := r) fun j hj => h (j + 1) (by simp; omega)
    simp [cutAt, hx, this]
/-- the fact of two texts -/
def pairP (eq : Bool) : Option Nat → Option Nat → Option Fct
  | some x, some y => some ⟨eq, (x : Int), (y : Int)⟩
  | _, _ => none
def pairF (eq : Bool) (a b : Bs) : Option Fct := pairP eq (parseT a) (parseT b)
def parseF (l : Bs) : Option Fct := if 9 < l.length then none else match cutAt 61 l with
  | none => none
  | some (a, b) => if a.getLast? = some 33 then pairF false a.dropLast b else pairF true a b
/-- cut at the first byte that satisfies p -/
def sign2 (x : UInt8) : Bool := x == 62 || x == 126
def cutX : Bs → Option (Bs × UInt8 × Bs)
  | [] => none
  | x :: r => if sign2 x then some ([], x, r) else (cutX r).map fun p => (x :: p.1, p.2)
theorem cutX_at : ∀ {l : Bs} {i : Nat} (h : i < l.length), sign2 l[i] = true → (∀ j (hj : j < i), sign2 l[j] = false) → cutX l = some (l.take i, l[i], l.drop (i + 1))
  | x :: r, 0, _, h, _ => by simp only [List.getElem_cons_zero] at h; simp [cutX, h]
  | x :: r, i + 1, hi, h, hn => by
    have hx : sign2 x = false := hn 0 (by omega)
    have := cutX_at (l := r) (i := i) (by simpa using hi) (by simpa using h) fun j hj => hn (j + 1) (by omega)
    simp [cutX, hx, this]
theorem cutX_no : ∀ {l : Bs}, (∀ j (hj : j < l.length), sign2 l[j] = false) → cutX l = none
  | [], _ => rfl
  | x :: r, h => by
    have hx : sign2 x = false := h 0 (by simp)
    have := cutX_no (l := r) fun j hj => h (j + 1) (by simp; omega)
    simp [cutX, hx, this]
def pairX (kd : Int) : Option Nat → Option Nat → Option Atm
  | some m, some n => some ⟨kd, (m : Int), (n : Int)⟩
  | _, _ => none
def parseX (l : Bs) : Option Atm := if 7 < l.length then none else match cutX l with
  | none => none
  | some (a, x, b) => pairX (if x = 126 then 2 else 1) (parseT a) (parseT b)
/-- split at every byte c -/
def splitA (c : UInt8) (acc : Bs) : Bs → List Bs
  | [] => [acc]
  | x :: r => if x = c then acc :: splitA c [] r else splitA c (acc ++ [x]) r
def splitL (c : UInt8) (l : Bs) : List Bs := splitA c [] l
theorem splitA_len (c : UInt8) : ∀ (l acc : Bs), (splitA c acc l).length ≤ l.length + 1
  | [], acc => by simp [splitA]
  | x :: r, acc => by
    have h1 := splitA_len c r []
    have h2 := splitA_len c r (acc ++ [x])
    unfold splitA
    split
    · simp only [List.length_cons]; omega
    · simp only [List.length_cons]; omega
def wordsL (l : Bs) : List Bs := (splitL 32 l).filter fun x => decide (x ≠ [])
theorem wordsL_len (l : Bs) : (wordsL l).length ≤ l.length + 1 := Nat.le_trans (List.length_filter_le _ _) (splitA_len 32 l [])
/-- the text of an assertion -/
def outF (fs : List Fct) : Nat → Bs
  | 0 => []
  | k + 1 => (if 0 < k then outF fs k ++ [32, 38, 32] else outF fs k) ++ fmtF (fs.getD k default)
def signX (x : Atm) : Bs := if x.kind = 2 then [126] else [62]
def outX (o : Bs) (xs : List Atm) : Nat → Bs
  | 0 => o
  | k + 1 => (if k = 0 then outX o xs k ++ [32, 124, 32] else outX o xs k ++ [32, 42, 32]) ++ tnameL (xs.getD k default).a ++ signX (xs.getD k default) ++ tnameL (xs.getD k default).b
def factsT (fs : List Fct) : Bs := if fs.length = 0 then [116, 114, 117, 101] else outF fs fs.length
def textA (a : Asn) : Bs := if a.atoms.length = 0 then factsT a.facts ++ [32, 124, 32, 101, 109, 112] else outX (factsT a.facts) a.atoms a.atoms.length
def fmtA (a : Asn) : Bs := if a.valid then textA a else []
theorem outF_len (fs : List Fct) : ∀ (k : Nat), (outF fs k).length ≤ k * 11
  | 0 => by simp [outF]
  | k + 1 => by
    have h1 := outF_len fs k
    have h2 := fmtF_len (fs.getD k default)
    unfold outF; split <;> simp only [List.length_append, List.length_cons, List.length_nil] <;> omega
theorem outX_len (o : Bs) (xs : List Atm) : ∀ (k : Nat), (outX o xs k).length ≤ o.length + k * 10
  | 0 => by simp [outX]
  | k + 1 => by
    have h1 := outX_len o xs k
    have h2 := tnameL_len (xs.getD k default).a
    have h3 := tnameL_len (xs.getD k default).b
    have h4 : (signX (xs.getD k default)).length = 1 := by unfold signX; split <;> rfl
    unfold outX; split <;> simp only [List.length_append, List.length_cons, List.length_nil, h4] <;> omega
theorem factsT_len (fs : List Fct) : (factsT fs).length ≤ 4 + fs.length * 11 := by
  have h := outF_len fs fs.length
  unfold factsT; split
  · simp
  · omega
/-- the reading of an assertion, word by word -/
def stepA (st : List Fct × List Atm × Bool) (x : Bs) : Option (List Fct × List Atm) :=
  match (if st.2.2 then none else parseF x), (if st.2.2 then parseX x else none) with
  | some f, _ => some (st.1 ++ [f], st.2.1)
  | none, some y => some (st.1, st.2.1 ++ [y])
  | none, none => if x ≠ [116, 114, 117, 101] ∧ x ≠ [101, 109, 112] then none else some (st.1, st.2.1)
def readA : List Bs → List Fct × List Atm × Bool → Option Asn
  | [], st => some ⟨st.1, st.2.1⟩
  | [x], st => (stepA st x).map fun p => ⟨p.1, p.2⟩
  | x :: y :: r, st => match stepA st x with
    | none => none
    | some p => readA r (p.1, p.2, st.2.2 || decide (y = [124]))
def parseA (l : Bs) : Option Asn := if 300 < l.length then none else match readA (wordsL l) ([], [], false) with
  | none => none
  | some a => if fmtA a = l ∧ l ≠ [] then some a else none
theorem parseA_valid {l : Bs} {a : Asn} (h : parseA l = some a) : a.valid = true ∧ fmtA a = l := by
  unfold parseA at h
  split at h
  · cases h
  split at h
  · cases h
  split at h
  · rename_i b hb hx
    injection h with h
    subst h
    refine ⟨?_, hx.1⟩
    cases hv : b.valid
    · exfalso
      have := hx.1
      unfold fmtA at this
      rw [hv] at this
      exact hx.2 this.symm
    · rfl
  · cases h
end Go.Proofs.YtlmjjflalmegfaaGreat

/- Contracts: the texts of terms, facts and assertions (spec). -/
namespace Go.Proofs.YtlmjjflalmegfaaGreat
open Go Go.RowKit Go.Proofs
--@ spec.TermName
set_option maxHeartbeats 1600000 in
theorem c_TermName (t : Int) (w : World) : Calls Tryz.prog 220 #[.int .i64 t] w fun e w' => e = .returned (sv (tnameL t)) ∧ w = w' := by
  cases ht : isTermB t
  · go_enter Tryz.func220, Tryz.ntmps220
    go_wp2_with (go_at_call 57; refine (c_spec_l1Is _ _).mono ?_; rintro e w' ⟨rfl, rfl⟩; rw [ht])
    go_ret
    exact ⟨by rw [tnameL_out ht]; rfl, rfl⟩
  · have hh := isTermB_iff.1 ht
    have h9 : t = 0 ∨ t = 1 ∨ t = 2 ∨ t = 3 ∨ t = 4 ∨ t = 5 ∨ t = 6 ∨ t = 7 ∨ t = 8 := by omega
    clear hh
    rcases h9 with rfl | rfl | rfl | rfl | rfl | rfl | rfl | rfl | rfl
    all_goals
      go_enter Tryz.func220, Tryz.ntmps220
      go_wp2_with (go_at_call 57; refine (c_spec_l1Is _ _).mono ?_; rintro e w' ⟨rfl, rfl⟩; rw [ht])
      go_ret
      exact ⟨rfl, rfl⟩
--@ spec.ParseTerm
set_option maxHeartbeats 1600000 in
theorem c_ParseTerm (l : Bs) (w : World) : Calls Tryz.prog 201 #[sv l] w fun e w' => e = .returned (.tuple #[.int .i64 ((parseT l).getD 0 : Nat), .bool (parseT l).isSome]) ∧ w = w' := by
  go_enter Tryz.func201, Tryz.ntmps201
  go_wp2_with fail
  go_loopw [4] (fun i wr => ∃ k : Nat, k ≤ 9 ∧ i = .int .i64 k ∧ Hid (∀ j : Nat, j < k → tnameL j ≠ l) ∧ wr = w) (fun i _ => 9 - (intOf i).toNat)
  case atStart => exact ⟨0, by omega, rfl, Lib.hid fun j h => by omega, rfl⟩
  case round =>
    obtain ⟨k, hk, rfl, HN, rfl⟩ := hrel
    by_cases h9 : k < 9
    · have hki : (k : Int) ≤ 8 := by omega
      by_cases he : tnameL k = l
      · have hb : (tnameL k == l) = true := by rw [bytes_eq]; simpa using he
        have HR := Lib.hid (parseT_some h9 he HN.out)
        clear he
        go_wp2_with (go_at_call 220; refine (c_TermName _ _).mono ?_; rintro e w' ⟨rfl, rfl⟩)
        refine bodyPost_ret (v := .tuple #[.int .i64 k, .bool true]) (by simp [results, Tryz.results201, go_sem]) rfl ⟨by rw [HR.out]; rfl, rfl⟩
      · have hb : (tnameL k == l) = false := by rw [bytes_eq]; simpa using he
        have HM : Hid (∀ j : Nat, j < k + 1 → tnameL j ≠ l) := Lib.hid fun j hj => by
          by_cases e : j = k
          · subst e; exact he
          · exact HN.out j (by omega)
        clear he
        go_wp2_with (go_at_call 220; refine (c_TermName _ _).mono ?_; rintro e w' ⟨rfl, rfl⟩)
        go_round
        case rel => exact ⟨k + 1, by omega, by go_num, HM, by first | rfl | trivial⟩
        case measure => simp [intOf]; omega
    · obtain rfl : k = 9 := by omega
      have HR := Lib.hid (parseT_none HN.out)
      go_wp2_with fail
      refine bodyPost_ret (v := .tuple #[.int .i64 0, .bool false]) (by simp [results, Tryz.results201, go_sem]) rfl ⟨by rw [HR.out]; rfl, rfl⟩
theorem c_ParseTermX (l : Bs) (i j : Nat) (w : World) : Calls Tryz.prog 201 #[.string ((ByteArray.mk l.toArray).extract i j)] w fun e w' => e = .returned (.tuple #[.int .i64 ((parseT ((l.drop i).take (j - i))).getD 0 : Nat), .bool (parseT ((l.drop i).take (j - i))).isSome]) ∧ w = w' := by
  rw [bext]
  exact c_ParseTerm _ w
--@ spec.l1Text
set_option maxRecDepth 100000 in
set_option maxHeartbeats 3200000 in
theorem c_l1Text (f : Fct) (w : World) : Calls Tryz.prog 221 #[f.val] w fun e w' => e = .returned (sv (fmtF f)) ∧ Below w.heap.size w w' := by
  have ha := tnameL_len f.a
  have hb := tnameL_len f.b
  obtain ⟨eq, a, b⟩ := f
  simp only at ha hb
  unfold Fct.val
  simp only
  cases eq
  · skip
    have h1 := fun w : World => addS (P := Tryz.prog) (tnameL a) [33, 61] (by simp; omega) w
    have h2 := fun w : World => addS (P := Tryz.prog) (tnameL a ++ [33, 61]) (tnameL b) (by simp; omega) w
    go_enter Tryz.func221, Tryz.ntmps221
    go_wp2_with fail
    go_region_held3 (fun w' => ∀ i, w'.cell? ⟨w.heap.size, i, none⟩ = #[.bool false, .int .i64 a, .int .i64 b][i]?)
      (exact Blk.cell blks)
      (first | (go_at_call 220; refine (c_TermName _ _).mono ?_; rintro e w' ⟨rfl, rfl⟩))
    all_goals
      go_wp2_with fail
      go_ret
      exact ⟨ret_str (by simp [fmtF]), bel⟩
  · skip
    have h1 := fun w : World => addS (P := Tryz.prog) (tnameL a) [61] (by simp; omega) w
    have h2 := fun w : World => addS (P := Tryz.prog) (tnameL a ++ [61]) (tnameL b) (by simp; omega) w
    go_enter Tryz.func221, Tryz.ntmps221
    go_wp2_with fail
    go_region_held3 (fun w' => ∀ i, w'.cell? ⟨w.heap.size, i, none⟩ = #[.bool true, .int .i64 a, .int .i64 b][i]?)
      (exact Blk.cell blks)
      (first | (go_at_call 220; refine (c_TermName _ _).mono ?_; rintro e w' ⟨rfl, rfl⟩))
    all_goals
      go_wp2_with fail
      go_ret
      exact ⟨ret_str (by simp [fmtF]), bel⟩
--@
end Go.Proofs.YtlmjjflalmegfaaGreat
