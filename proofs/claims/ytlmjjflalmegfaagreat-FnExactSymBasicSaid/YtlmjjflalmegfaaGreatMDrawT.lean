/- What the reader draws: copies that are changed. -/
import Derived.Test.YtlmjjflalmegfaaGreatMDrawB
import Derived.Test.YtlmjjflalmegfaaGreatMAppX
import Derived.Test.YtlmjjflalmegfaaGreatMIntSS
set_option linter.unusedSimpArgs false
set_option linter.unusedVariables false
namespace Go.Proofs.YtlmjjflalmegfaaGreat
open Go Go.RowKit Go.Proofs

--@ spec.l3Copy
set_option maxRecDepth 100000 in
set_option maxHeartbeats 1600000 in
theorem c_l3Copy {lo hi : Nat} (v : Value) (a : Asn) (w : World) (h : AsnV w lo hi v a) :
    Calls Tryz.prog 114 #[v] w fun e w' => ∃ r, e = .returned r ∧ AsnO w' w.heap.size r a ∧ Below w.heap.size w w' := by
  have hV := Lib.hid h
  obtain ⟨A1, c1, A2, c2, rfl, h1, h2⟩ := h
  have HL := Lib.hid (And.intro h1.le h2.le)
  clear h1 h2
  have e0 : Hid (starA a ⟨[], []⟩ = a) := by show _ = _; simp [starA]
  go_enter Tryz.func114, Tryz.ntmps114
  have kr : Blk ((w.alloc (.cells #[.slice A1 a.facts.length c1, .slice A2 a.atoms.length c2] 26)).alloc (.cells #[.slice none 0 0, .slice none 0 0] 26)) (w.heap.size + 1) 26 #[.slice none 0 0, .slice none 0 0] := blks
  go_wp2_with fail
  refine (c_spec_l3Star _ _ a ⟨[], []⟩ _ (hV.out.below bel) (⟨none, 0, none, 0, rfl, Rd.nil _ 0 0 _ _, Rd.nil _ 0 0 _ _⟩) (by simpa using HL.out.1) (by simpa using HL.out.2)).mono ?_
  rintro e w1 ⟨r, rfl, o, hB1⟩
  have hB := bgo (w := w) bel hB1
  replace kr := kr.next hB1
  rw [e0.out] at o
  replace o := o.lower (base' := w.heap.size) (by simp; omega)
  obtain ⟨fv, av, rfl, o1, o2⟩ := o
  obtain ⟨F, e1, rfl, -⟩ := o1.reads
  obtain ⟨G, e2, rfl, -⟩ := o2.reads
  have O1 := Lib.hid o1
  have O2 := Lib.hid o2
  (replace qkr := kr.cell; replace rkr := kr.frozen; replace lkr := kr.lt)
  clear o1 o2 hB1
  go_wp2_with fail
  refine bodyPost_ret (v := .agg #[.slice F a.facts.length e1, .slice G a.atoms.length e2]) (by simp [results, Tryz.results114, go_sem, qkr]) rfl ⟨_, rfl, ⟨_, _, rfl, ?_, ?_⟩, bel⟩
  · exact (O1.out.setT kr (by decide) 0 _).setT (kr.set_ 0 _) (by decide) 1 _
  · exact (O2.out.setT kr (by decide) 0 _).setT (kr.set_ 0 _) (by decide) 1 _

--@ spec.l1Mutate
end Go.Proofs.YtlmjjflalmegfaaGreat

/- What the reader draws: states. -/
namespace Go.Proofs.YtlmjjflalmegfaaGreat
open Go Go.RowKit Go.Proofs

--@ spec.l2Blank
abbrev tSt : Nat := 38
def blankS : Ste := ⟨List.replicate 8 0, List.replicate 8 (-1)⟩
--@ spec.l2Copy
/-- two rows lie in different blocks -/
def Dj (v v' : Value) : Prop := ∀ g, v.ownBlock = some g → v'.ownBlock ≠ some g
theorem Dj.symm {v v' : Value} (h : Dj v v') : Dj v' v := fun g h1 h2 => h g h2 h1
theorem Dj.new {w : World} {b : Nat} {v : Value} {xs : List Int} (h : IntsO w b v xs) {v' : Value} {x : Nat} (he : v'.ownBlock = some x) (hx : w.heap.size ≤ x) : Dj v v' := fun g hg e => by
  have := (h.1.lt g hg).2
  rw [he] at e; injection e with e; omega
end Go.Proofs.YtlmjjflalmegfaaGreat

/- What the reader draws: states in which an assertion often holds. -/
namespace Go.Proofs.YtlmjjflalmegfaaGreat
open Go Go.RowKit Go.Proofs

def setV (vs : List Int) (t : Nat) (n : Int) : List Int := if t = 0 then vs else vs.set (t - 1) n
--@ spec.l4Known
end Go.Proofs.YtlmjjflalmegfaaGreat
