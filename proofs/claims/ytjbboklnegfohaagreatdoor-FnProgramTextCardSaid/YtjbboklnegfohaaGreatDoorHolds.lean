/- Contracts: truth of assertions. -/
import Derived.Test.YtjbboklnegfohaaGreatDoorWalk
import Derived.Deep.RegionHeld3
set_option linter.unusedSimpArgs false
set_option linter.unusedVariables false
namespace Go.Proofs.YtjbboklnegfohaaGreatDoor
open Go Go.RowKit Go.Proofs
def flagsOf (S:Nat):List Bool:=(List.range 9).map fun i=>S.testBit i
theorem flagsOf_set (S n:Nat):(flagsOf S).set n true=flagsOf (S|||1 <<< n):=by
 apply List.ext_getElem?
 intro j
 simp only[flagsOf,List.getElem?_set,List.getElem?_map,List.length_map,List.length_range]
 by_cases hj:j<9
 ·rw[List.getElem?_range hj]
  simp only[Option.map_some,Nat.testBit_or,Nat.one_shiftLeft,Nat.testBit_two_pow]
  by_cases e:n=j
  ·subst e;simp[hj]
  ·simp[e]
 ·rw[List.getElem?_eq_none (by simp;omega)]
  by_cases e:n=j
  ·subst e;simp[hj]
  ·simp[e]
theorem flags_upd (S n:Nat):((encB (flagsOf S)).toArray).setIfInBounds n (.bool true)=(encB (flagsOf (S|||1 <<< n))).toArray:=by
 rw[←flagsOf_set,encB,encB,List.map_set];simp
end Go.Proofs.YtjbboklnegfohaaGreatDoor
