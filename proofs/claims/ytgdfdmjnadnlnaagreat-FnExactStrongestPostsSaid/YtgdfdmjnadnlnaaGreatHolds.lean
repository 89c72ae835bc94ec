/- Contracts: truth of assertions. -/
import Derived.Test.YtgdfdmjnadnlnaaGreatWalk
import Derived.Deep.RegionHeld3
set_option linter.unusedSimpArgs false
set_option linter.unusedVariables false
set_option maxRecDepth 100000
set_option maxHeartbeats 25600000
namespace Go.Proofs.YtgdfdmjnadnlnaaGreat
section
open Go Go.RowKit Go.Proofs
def idxL (fl:List Bool) (k:Nat):List Int:=((List.range k).filter fun n=>fl.getD n false).map fun n:Nat=>(n:Int)
theorem idxL_succ (fl:List Bool) (k:Nat):idxL fl (k+1)=idxL fl k++if fl.getD k false then [(k:Int)] else []:=by
 unfold idxL;rw[List.range_succ,List.filter_append,List.map_append,List.filter_cons,List.filter_nil];cases fl.getD k false<;>rfl
theorem idxL_length (fl:List Bool) (k:Nat):(idxL fl k).length≤k:=by
 unfold idxL;rw[List.length_map];exact Nat.le_trans (List.length_filter_le _ _) (by simp)
theorem c_spec_l3List {lo hi:Nat} (A:Option Addr) (c:Nat) (fl:List Bool) (w:World) (h:BoolsV w lo hi A fl) (hl9:fl.length≤9):Calls Tryz.prog 76 #[.slice A fl.length c] w fun e w'=>∃ r,e=.returned r∧IntsO w' w.heap.size r (idxL fl fl.length)∧Below w.heap.size w w':=by
 (go_enter Tryz.func76,Tryz.ntmps76);go_wp2
 go_loopw [3,4] (fun o i wr=>∃ (k:Nat) (A:Option Addr) (c:Nat),k≤fl.length∧i=.int .i64 k∧o=.slice A (idxL fl k).length c∧IntsO wr w.heap.size (.slice A (idxL fl k).length c) (idxL fl k)∧Below w.heap.size w wr) (fun _ i _=>fl.length - (intOf i).toNat)
 case atStart=>exact ⟨0,_,_,by omega,rfl,rfl,IntsO.empty w rfl,bel⟩
 case round=>
  obtain ⟨k,A,c,hk,rfl,rfl,hO,hB⟩:=hrel;have hlen:=idxL_length fl k;by_cases h8:k<fl.length
  ·obtain ⟨b,off,rfl,c0⟩:=(h.bz hB).at h8;have HC:=ax (idxL_succ fl k);have hg:fl.getD k false=fl[k]:=by simp[h8]
   cases ht:fl[k]
   ·have HG:=ax (hg.trans ht);rw[ht] at c0;clear ht hg;(go_wp2_with fail)
    go_round
    case rel=>
     have e:idxL fl (k+1)=idxL fl k:=by rw[HC.o,HG.o];simp
     exact ⟨k+1,A,c,by omega,by go_num,by rw[e],by rw[e];exact hO,hB⟩
    case measure=>simp[intOf];omega
   ·have HG:=ax (hg.trans ht);rw[ht] at c0;clear ht hg;(go_wp2_with (at_builtin;refine appI rfl _ _ rfl (v:=.slice A (idxL fl k).length c) rfl (hO.abv (Abv.alloc (Abv.refl 0 _) _) (Nat.zero_le _)) wr.heap.size _ rfl (cell_box wr _ _) (by omega) (by simp;have:=hB.size;omega) ?_;intro g' c' w2 hO2 hg2 hB3))
    go_round
    case rel=>
     have e:idxL fl (k+1)=idxL fl k++[(k:Int)]:=by rw[HC.o,HG.o];simp
     exact ⟨k+1,some ⟨g',0,none⟩,c',by omega,by go_num,by rw[e,List.length_append];rfl,by rw[e];simpa using hO2,Below.trans (bbox hB _) hB3⟩
    case measure=>simp[intOf];omega
  ·obtain rfl:k=fl.length:=by omega
   go_wp2;go_ret;exact ⟨_,rfl,hO,hB⟩
def flagsOf (S:Nat):List Bool:=(List.range 9).map fun i=>S.testBit i
theorem flagsOf_length (S:Nat):(flagsOf S).length=9:=by simp[flagsOf]
theorem flagsOf_get (S k:Nat) (hk:k<9):(flagsOf S)[k]? = some (S.testBit k):=by simp[flagsOf,hk]
theorem flagsOf_set (S n:Nat):(flagsOf S).set n true=flagsOf (S|||1 <<< n):=by
 apply List.ext_getElem?;intro j;simp only[flagsOf,List.getElem?_set,List.getElem?_map,List.length_map,List.length_range];by_cases hj:j<9
 ·rw[List.getElem?_range hj];simp only[Option.map_some,Nat.testBit_or,Nat.one_shiftLeft,Nat.testBit_two_pow];by_cases e:n=j
  ·subst e;simp[hj]
  ·simp[e]
 ·rw[List.getElem?_eq_none (by simp;omega)];by_cases e:n=j
  ·subst e;simp[hj]
  ·simp[e]
theorem flags_cell (S:Nat) (cs:Array Value) (he:cs=(encB (flagsOf S)).toArray) {k:Nat} (hk:k<9):cs[k]? = some (.bool (S.testBit k)):=by
 subst he;simp[encB,flagsOf_get S k hk]
theorem flags_upd (S n:Nat):((encB (flagsOf S)).toArray).setIfInBounds n (.bool true)=(encB (flagsOf (S|||1 <<< n))).toArray:=by
 rw[←flagsOf_set,encB,encB,List.map_set];simp
end
end Go.Proofs.YtgdfdmjnadnlnaaGreat
