/- Sets of terms. -/
import Derived.Test.YtjaohekkmlkinaaDoorVal
import Derived.Test.YtjaohekkmlkinaaDoorApp
import Derived.Test.YtjaohekkmlkinaaDoorBits
set_option linter.unusedSimpArgs false
set_option linter.unusedVariables false
namespace Go.Proofs.YtjaohekkmlkinaaDoor
open Go Go.RowKit Go.Proofs
theorem isTermB_iff {x:Int}:isTermB x=true↔0≤x∧x≤8:=by simp[isTermB]
@[irreducible] def tins (S:Nat) (t:Int):Nat:=if isTermB t then S|||1 <<< t.toNat else S
theorem tins_lt {S:Nat} (h:S<512) (t:Int):tins S t<512:=by
 unfold tins
 split
 ·rename_i ht
  have ht:=isTermB_iff.1 ht
  rw[Nat.one_shiftLeft]
  exact Nat.or_lt_two_pow (n:=9) h (by
   have:(2:Nat) ^ t.toNat≤2 ^ 8:=Nat.pow_le_pow_right (by omega) (by omega)
   omega)
 ·exact h
def tset (l:List Int):Nat:=l.foldl tins 0
attribute [irreducible] tset
end Go.Proofs.YtjaohekkmlkinaaDoor
