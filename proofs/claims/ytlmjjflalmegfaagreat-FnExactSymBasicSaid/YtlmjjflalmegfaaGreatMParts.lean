/- Contracts: impl's copies of states. -/
import Derived.Test.YtlmjjflalmegfaaGreatMDrawT
import Derived.Test.YtlmjjflalmegfaaGreatMFrame
import Derived.Test.YtlmjjflalmegfaaGreatMSte
set_option linter.unusedSimpArgs false
set_option linter.unusedVariables false
namespace Go.Proofs.YtlmjjflalmegfaaGreat
open Go Go.RowKit Go.Proofs

--@ impl.copyState
/-- a holds in the whole of s -/
def holdsF (s : Ste) (a : Asn) : Bool := (partOf s a).isSome && (((bitsOf ((partOf s a).getD []) : Nat) : Int) == (bitsOf (usedL s.heap 8) : Nat))
def usedF (s : Ste) : List Int := if s.valid then usedL s.heap 8 else []
end Go.Proofs.YtlmjjflalmegfaaGreat

/- The cells that an assertion describes: in a larger state and in a smaller one, and those of a conjunction. Plain; no program. -/
namespace Go.Proofs.YtlmjjflalmegfaaGreat
open Go Go.RowKit

/-- the cells of h' lie in h as they are -/
def Sub (h' h : List Int) : Prop := ∀ x, allocB h' x = true → allocB h x = true ∧ cont h x = cont h' x
/-! states -/
/-- a state with some cells alone -/
def keepH (h : List Int) (p : Int → Bool) : List Int := (List.range' 1 8).map fun n : Nat => if p (n : Int) then cont h n else -1
def keepS (s : Ste) (p : Int → Bool) : Ste := ⟨s.values, keepH s.heap p⟩
/-! the laws -/
end Go.Proofs.YtlmjjflalmegfaaGreat
