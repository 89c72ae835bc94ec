/- Data that a call has made, in blocks of its own. -/
import Derived.Test.YtcgifoghggajgaaProg
import Derived.Test.YtcgifoghggajgaaDef
set_option linter.unusedSimpArgs false
set_option linter.unusedVariables false
namespace Go.Proofs.Ytcgifoghggajgaa
open Go Go.RowKit Go.Proofs

abbrev tF : Nat := 99
abbrev tA : Nat := 153
abbrev tI : Nat := 3
def FactsO (w : World) (base : Nat) (v : Value) (fs : List Fct) : Prop := w.ownsRow base tF 3 v fs.length (encF fs) ∧ Lim fs.length
def AtomsO (w : World) (base : Nat) (v : Value) (xs : List Atm) : Prop := w.ownsRow base tA 3 v xs.length (encA xs) ∧ Lim xs.length
def IntsO (w : World) (base : Nat) (v : Value) (xs : List Int) : Prop := w.ownsRow base tI 1 v xs.length (encI xs) ∧ Lim xs.length
def AsnO (w : World) (base : Nat) (v : Value) (a : Asn) : Prop := ∃ fv av, v = .agg #[fv, av] ∧ FactsO w base fv a.facts ∧ AtomsO w base av a.atoms
section
variable {w w' : World} {base base' : Nat} {v : Value}
theorem FactsO.below {fs : List Fct} (h : FactsO w base v fs) (hb : Below w.heap.size w w') : FactsO w' base v fs := ⟨own_below h.1 hb, h.2⟩
theorem AtomsO.below {fs : List Atm} (h : AtomsO w base v fs) (hb : Below w.heap.size w w') : AtomsO w' base v fs := ⟨own_below h.1 hb, h.2⟩
theorem IntsO.below {fs : List Int} (h : IntsO w base v fs) (hb : Below w.heap.size w w') : IntsO w' base v fs := ⟨own_below h.1 hb, h.2⟩
theorem AsnO.below {a : Asn} (h : AsnO w base v a) (hb : Below w.heap.size w w') : AsnO w' base v a := by
  obtain ⟨fv, av, e, h1, h2⟩ := h
  exact ⟨fv, av, e, h1.below hb, h2.below hb⟩
theorem FactsO.setb {fs : List Fct} (h : FactsO w base v fs) {a : Addr} (ha : a.block < base) (u : Value) : FactsO (w.setCell a u) base v fs := ⟨ownsRow_setCell_below h.1 ha u, h.2⟩
theorem AtomsO.setb {fs : List Atm} (h : AtomsO w base v fs) {a : Addr} (ha : a.block < base) (u : Value) : AtomsO (w.setCell a u) base v fs := ⟨ownsRow_setCell_below h.1 ha u, h.2⟩
theorem IntsO.setb {fs : List Int} (h : IntsO w base v fs) {a : Addr} (ha : a.block < base) (u : Value) : IntsO (w.setCell a u) base v fs := ⟨ownsRow_setCell_below h.1 ha u, h.2⟩
theorem AsnO.setb {a : Asn} (h : AsnO w base v a) {p : Addr} (ha : p.block < base) (u : Value) : AsnO (w.setCell p u) base v a := by
  obtain ⟨fv, av, e, h1, h2⟩ := h
  exact ⟨fv, av, e, h1.setb ha u, h2.setb ha u⟩
theorem FactsO.abv {lo : Nat} {fs : List Fct} (h : FactsO w base v fs) (hb : Abv lo w w') (hl : lo ≤ base) : FactsO w' base v fs := ⟨own_abv h.1 hb hl, h.2⟩
theorem AtomsO.abv {lo : Nat} {fs : List Atm} (h : AtomsO w base v fs) (hb : Abv lo w w') (hl : lo ≤ base) : AtomsO w' base v fs := ⟨own_abv h.1 hb hl, h.2⟩
theorem IntsO.abv {lo : Nat} {fs : List Int} (h : IntsO w base v fs) (hb : Abv lo w w') (hl : lo ≤ base) : IntsO w' base v fs := ⟨own_abv h.1 hb hl, h.2⟩
theorem AsnO.abv {lo : Nat} {a : Asn} (h : AsnO w base v a) (hb : Abv lo w w') (hl : lo ≤ base) : AsnO w' base v a := by
  obtain ⟨fv, av, e, h1, h2⟩ := h
  exact ⟨fv, av, e, h1.abv hb hl, h2.abv hb hl⟩
theorem FactsO.lower {fs : List Fct} (h : FactsO w base v fs) (hb : base' ≤ base) : FactsO w base' v fs := ⟨own_lower h.1 hb, h.2⟩
theorem AtomsO.lower {fs : List Atm} (h : AtomsO w base v fs) (hb : base' ≤ base) : AtomsO w base' v fs := ⟨own_lower h.1 hb, h.2⟩
theorem IntsO.lower {fs : List Int} (h : IntsO w base v fs) (hb : base' ≤ base) : IntsO w base' v fs := ⟨own_lower h.1 hb, h.2⟩
theorem AsnO.lower {a : Asn} (h : AsnO w base v a) (hb : base' ≤ base) : AsnO w base' v a := by
  obtain ⟨fv, av, e, h1, h2⟩ := h
  exact ⟨fv, av, e, h1.lower hb, h2.lower hb⟩
theorem FactsO.reads {fs : List Fct} (h : FactsO w base v fs) : ∃ A c, v = .slice A fs.length c ∧ FactsV w base w.heap.size A fs := own_reads h.1 h.2
theorem AtomsO.reads {fs : List Atm} (h : AtomsO w base v fs) : ∃ A c, v = .slice A fs.length c ∧ AtomsV w base w.heap.size A fs := own_reads h.1 h.2
theorem IntsO.reads {fs : List Int} (h : IntsO w base v fs) : ∃ A c, v = .slice A fs.length c ∧ IntsV w base w.heap.size A fs := own_reads h.1 h.2
theorem IntsO.readsI {A : Option Addr} {n c : Nat} {fs : List Int} (h : IntsO w base (.slice A n c) fs) : n = fs.length ∧ IntsV w base w.heap.size A fs := by
  obtain ⟨A', c', e, h'⟩ := h.reads
  injection e with e1 e2 e3
  subst e1
  exact ⟨e2, h'⟩
theorem FactsO.readsI {A : Option Addr} {n c : Nat} {fs : List Fct} (h : FactsO w base (.slice A n c) fs) : n = fs.length ∧ FactsV w base w.heap.size A fs := by
  obtain ⟨A', c', e, h'⟩ := h.reads
  injection e with e1 e2 e3
  subst e1
  exact ⟨e2, h'⟩
theorem AtomsO.readsI {A : Option Addr} {n c : Nat} {fs : List Atm} (h : AtomsO w base (.slice A n c) fs) : n = fs.length ∧ AtomsV w base w.heap.size A fs := by
  obtain ⟨A', c', e, h'⟩ := h.reads
  injection e with e1 e2 e3
  subst e1
  exact ⟨e2, h'⟩
theorem AsnO.reads {a : Asn} (h : AsnO w base v a) : AsnV w base w.heap.size v a := by
  obtain ⟨fv, av, e, h1, h2⟩ := h
  obtain ⟨A1, c1, rfl, g1⟩ := h1.reads
  obtain ⟨A2, c2, rfl, g2⟩ := h2.reads
  exact ⟨A1, c1, A2, c2, e, g1, g2⟩
end
/-- the element types' rows of the table -/
theorem infoF : (Try.prog.info? tF).map (fun i => (i.zero, i.size, i.bytes)) = some (some (.agg #[.bool false, .int .i64 0, .int .i64 0]), 3, 24) := by kernel_rfl
theorem infoA : (Try.prog.info? tA).map (fun i => (i.zero, i.size, i.bytes)) = some (some (.agg #[.int .i64 0, .int .i64 0, .int .i64 0]), 3, 24) := by kernel_rfl
theorem infoI : (Try.prog.info? tI).map (fun i => (i.zero, i.size, i.bytes)) = some (some (.int .i64 0), 1, 8) := by kernel_rfl
theorem run_make_rowN {P : Program} (t e : TypeId) (i : TypeInfo) (z : Value) (ht : P.underlying t = some (.slice e)) (hi : P.info? e = some i) (hz : i.zero = some z)
    (kl kc : IntKind) (n c : Nat) (hnc : n ≤ c) (hbytes : i.bytes * c ≤ 281474976710656) (h63 : c ≤ 9223372036854775807) (w : World) :
    (Instr.makeSlice t (.int kl (n : Int)) (.int kc (c : Int))).run P w = .ok (.slice (some ⟨w.heap.size, 0, none⟩) n c) (w.alloc (.cells (madeCells z.cells (c * i.size)) e)) := by
  have hb : (i.bytes : Int) * (c : Int) ≤ 281474976710656 := by
    have h : ((i.bytes * c : Nat) : Int) ≤ 281474976710656 := by omega
    rwa [Int.natCast_mul] at h
  have hr := run_make (P := P) w t e i z ht hi hz kl kc n c (by omega) (by omega) hb (by omega)
  simp only [Int.toNat_natCast] at hr
  exact hr
/-- make([]T, n) of facts, atoms, ints -/
theorem mkF (n : Nat) (h : Lim n) (w : World) : (Instr.makeSlice 45 (.int .i64 (n : Int)) (.int .i64 (n : Int))).run Try.prog w = .ok (.slice (some ⟨w.heap.size, 0, none⟩) n n) (w.alloc (.cells (madeCells #[.bool false, .int .i64 0, .int .i64 0] (n * 3)) tF)) := by
  obtain ⟨i, hi, hz, hs, hb⟩ := info_parts infoF
  have := run_make_rowN (P := Try.prog) 45 tF i _ Try.underlying45 hi hz .i64 .i64 n n (Nat.le_refl _) (by rw [hb]; unfold Lim at h; omega) (by unfold Lim at h; omega) w
  rwa [hs] at this
theorem mkA (n : Nat) (h : Lim n) (w : World) : (Instr.makeSlice 46 (.int .i64 (n : Int)) (.int .i64 (n : Int))).run Try.prog w = .ok (.slice (some ⟨w.heap.size, 0, none⟩) n n) (w.alloc (.cells (madeCells #[.int .i64 0, .int .i64 0, .int .i64 0] (n * 3)) tA)) := by
  obtain ⟨i, hi, hz, hs, hb⟩ := info_parts infoA
  have := run_make_rowN (P := Try.prog) 46 tA i _ Try.underlying46 hi hz .i64 .i64 n n (Nat.le_refl _) (by rw [hb]; unfold Lim at h; omega) (by unfold Lim at h; omega) w
  rwa [hs] at this
theorem mkI (n : Nat) (h : Lim n) (w : World) : (Instr.makeSlice 24 (.int .i64 (n : Int)) (.int .i64 (n : Int))).run Try.prog w = .ok (.slice (some ⟨w.heap.size, 0, none⟩) n n) (w.alloc (.cells (madeCells #[.int .i64 0] (n * 1)) tI)) := by
  obtain ⟨i, hi, hz, hs, hb⟩ := info_parts infoI
  have := run_make_rowN (P := Try.prog) 24 tI i _ Try.underlying24 hi hz .i64 .i64 n n (Nat.le_refl _) (by rw [hb]; unfold Lim at h; omega) (by unfold Lim at h; omega) w
  rwa [hs] at this

--@ []bool
abbrev tB : Nat := 4
theorem infoB : (Try.prog.info? tB).map (fun i => (i.zero, i.size, i.bytes)) = some (some (.bool false), 1, 1) := by kernel_rfl
def BoolsO (w : World) (base : Nat) (v : Value) (xs : List Bool) : Prop := w.ownsRow base tB 1 v xs.length (encB xs) ∧ Lim xs.length
theorem BoolsO.below {w w' : World} {base : Nat} {v : Value} {fs : List Bool} (h : BoolsO w base v fs) (hb : Below w.heap.size w w') : BoolsO w' base v fs := ⟨own_below h.1 hb, h.2⟩
theorem BoolsO.lower {w : World} {base base' : Nat} {v : Value} {fs : List Bool} (h : BoolsO w base v fs) (hb : base' ≤ base) : BoolsO w base' v fs := ⟨own_lower h.1 hb, h.2⟩
theorem BoolsO.abv {w w' : World} {base : Nat} {v : Value} {lo : Nat} {fs : List Bool} (h : BoolsO w base v fs) (hb : Abv lo w w') (hl : lo ≤ base) : BoolsO w' base v fs := ⟨own_abv h.1 hb hl, h.2⟩
theorem BoolsO.reads {w : World} {base : Nat} {v : Value} {fs : List Bool} (h : BoolsO w base v fs) : ∃ A c, v = .slice A fs.length c ∧ BoolsV w base w.heap.size A fs := own_reads h.1 h.2
theorem mkB (n : Nat) (h : Lim n) (w : World) : (Instr.makeSlice 97 (.int .i64 (n : Int)) (.int .i64 (n : Int))).run Try.prog w = .ok (.slice (some ⟨w.heap.size, 0, none⟩) n n) (w.alloc (.cells (madeCells #[.bool false] (n * 1)) tB)) := by
  obtain ⟨i, hi, hz, hs, hb⟩ := info_parts infoB
  have := run_make_rowN (P := Try.prog) 97 tB i _ Try.underlying97 hi hz .i64 .i64 n n (Nat.le_refl _) (by rw [hb]; unfold Lim at h; omega) (by unfold Lim at h; omega) w
  rwa [hs] at this
end Go.Proofs.Ytcgifoghggajgaa
