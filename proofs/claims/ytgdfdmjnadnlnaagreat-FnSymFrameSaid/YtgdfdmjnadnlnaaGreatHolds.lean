/- Contracts: truth of assertions. -/
import Derived.Test.YtgdfdmjnadnlnaaGreatWalk
import Derived.Deep.RegionHeld3
set_option linter.unusedSimpArgs false
set_option linter.unusedVariables false
set_option maxRecDepth 100000
set_option maxHeartbeats 25600000
namespace Go.Proofs.YtgdfdmjnadnlnaaGreat
section
open Go Go.RowKit Go.Proofs
theorem partAtoms_step (s:Ste) (seen:List Int) (xs:List Atm) (k:Nat) (hk:k<xs.length):partAtoms s seen (xs.drop k)=(atomCells s xs[k]).bind fun cs=>(addAll seen cs).bind fun seen'=>partAtoms s seen' (xs.drop (k+1)):=by
 rw[List.drop_eq_getElem_cons hk];rfl
theorem addAll_step (seen cs:List Int) (k:Nat) (hk:k<cs.length):addAll seen (cs.drop k)=if cs[k]∈seen then none else addAll (seen++[cs[k]]) (cs.drop (k+1)):=by
 rw[List.drop_eq_getElem_cons hk];rfl
theorem addrB_iff {x:Int}:addrB x=true↔1≤x∧x≤8:=by simp[addrB]
theorem seen_lt {seen:List Int} (h:∀ c∈seen,addrB c=true):bitsOf seen<512:=by
 have:=bitsOf_lt (l:=seen) (k:=9) (fun x hx=>by have:=addrB_iff.1 (h x hx);omega);simpa using this
theorem seen_bit {seen:List Int} (h:∀ c∈seen,addrB c=true) {x:Int} (hx:0≤x):(bitsOf seen).testBit x.toNat=decide (x∈seen):=by
 rw[testBit_bitsOf (fun y hy=>by have:=addrB_iff.1 (h y hy);omega),Int.toNat_of_nonneg hx]
theorem atoms_valid {a:Asn} (h:a.valid=true) {k:Nat} (hk:k<a.atoms.length):a.atoms[k].valid=true:=by
 simp only[Asn.valid,Bool.and_eq_true] at h;exact List.all_eq_true.1 h.2.2 _ (List.getElem_mem hk)
theorem c_impl_partOf {lo hi lo' hi':Nat} (v v':Value) (s:Ste) (a:Asn) (w:World) (h:StateV w lo hi v s) (h':AsnV w lo' hi' v' a) :
  Calls Tryz.prog 223 #[v,v'] w fun e w'=>e=.returned (.tuple #[.int .u16 (bitsOf ((partOf s a).getD [])),.bool (partOf s a).isSome])∧Below w.heap.size w w':=by
 have hV:=ax h;have hV':=ax h';obtain ⟨A1,c1,A2,c2,rfl,h1,h2⟩:=h;obtain ⟨A3,c3,A4,c4,rfl,h3,h4⟩:=h';have hl4:=h4.le;have HP:aJ (partOf s a=if s.valid&&a.valid&&factsHold a.facts s.values then partAtoms s [] a.atoms else none):=rfl;(go_enter Tryz.func223,Tryz.ntmps223);(go_wp2_with fail);refine (c_impl_StateValid _ s _ (hV.o.bz bel)).mono ?_;rintro e w1 ⟨rfl,hB1⟩;have hB:=bgo (w:=w) bel hB1;have hK:=Blk.nz (g:=w.heap.size) blks hB1;have hK2:=Blk.nz (g:=w.heap.size+1) (by rw[←World.size_alloc];exact Blk.new (w.alloc _) _ _) hB1;have q:=hK.cell;have q2:=hK2.cell;cases hs:s.valid
 ·(go_wp2_with fail);go_ret2;exact ⟨by rw[HP.o,hs];rfl,hB⟩
 (go_wp2_with fail);refine (c_impl_AssertionValid _ a _ (hV'.o.bz hB)).mono ?_;rintro e w2 ⟨rfl,hB2⟩;have hBw2:=bgo hB hB2;have hL:=hK.nz hB2;have hL2:=hK2.nz hB2;clear q q2 hK hK2;have q:=hL.cell;have q2:=hL2.cell;cases ha:a.valid
 ·(go_wp2_with fail);go_ret2;exact ⟨by rw[HP.o,hs,ha];rfl,hBw2⟩
 (go_wp2_with fail);refine (c_impl_FactsHold A3 A1 c3 c1 a.facts s.values _ (h3.bz hBw2) (h1.bz hBw2)).mono ?_;rintro e w3 ⟨rfl,hB3⟩;have hBw3:=bgo hBw2 hB3;have hM:=hL.nz hB3;have hM2:=hL2.nz hB3;clear q q2 hL hL2;have q:=hM.cell;have q2:=hM2.cell;cases hf:factsHold a.facts s.values
 ·(go_wp2_with fail);go_ret2;exact ⟨by rw[HP.o,hs,ha,hf];rfl,hBw3⟩
 (go_wp2_with fail);have HP2:aJ (partOf s a=partAtoms s [] a.atoms):=by show _=_;rw[HP.o,hs,ha,hf];rfl
 have HS:=ax hs;have HV:=ax ha;clear hs ha hf q q2 HP hB1 hB2 hB3 hB hBw2
 go_loopw [6,32] (fun S i wr=>∃ (k:Nat) (seen:List Int),k≤a.atoms.length∧i=.int .i64 k∧S=.int .u16 (bitsOf seen)∧aJ (∀ c∈seen,addrB c=true)∧aJ (partOf s a=partAtoms s seen (a.atoms.drop k))∧
   Blk wr w.heap.size 79 #[.slice A1 s.values.length c1,.slice A2 s.heap.length c2]∧Below w.heap.size w wr) (fun _ i _=>a.atoms.length - (intOf i).toNat)
 case atStart=>exact ⟨0,[],Nat.zero_le _,rfl,rfl,(by intro c hc;cases hc),HP2.o,hM,hBw3⟩
 case round=>
  clear hM hM2 hBw3;obtain ⟨k,seen,hk,rfl,rfl,HSN,HA,hK,hB⟩:=hrel;have q:=hK.cell;by_cases hlt:k<a.atoms.length
  ·obtain ⟨b,off,rfl,g0,g1,g2⟩:=(h4.bz hB).at hlt;have HST:=ax (partAtoms_step s seen a.atoms k hlt);have hKl:=hK.lt;(go_wp2_with fail);refine (c_impl_AtomCells _ s a.atoms[k] _ (hV.o.bz (bbox hB _)) HS.o (atoms_valid HV.o hlt)).mono ?_;rintro e w4 ⟨r,rfl,hO,hB4⟩;have hBw4:=bgo (bbox hB _) hB4;have hK4:=(hK.alloc _).nz hB4;obtain ⟨B,d,rfl,hR⟩:=hO.reads;clear q
   cases hac:atomCells s a.atoms[k] with
   | none=>
    have HAC:=ax hac;clear hac;(go_wp2_with fail);go_ret2;exact ⟨by rw[HA.o,HST.o,HAC.o];rfl,hBw4⟩
   | some cs=>
    have hcs:=atomCells_addr HS.o hac;have HCS:=ax hcs.2;have hcl:=hcs.1;have HAC:=ax hac;rw[HAC.o] at hR;simp only[Option.getD_some] at hR;simp only[Option.getD_some,Option.isSome_some];clear hac hcs hO;(go_wp2_with fail);obtain ⟨wo,hwo⟩:∃ wo:World,wo=w4:=⟨_,rfl⟩
    go_loop [6,46] (fun S i=>∃ (j:Nat) (sn:List Int),j≤cs.length∧i=.int .i64 j∧S=.int .u16 (bitsOf sn)∧aJ (∀ c∈sn,addrB c=true)∧aJ (addAll seen cs=addAll sn (cs.drop j))) (fun _ i=>cs.length - (intOf i).toNat)
    case atStart=>exact ⟨0,seen,Nat.zero_le _,rfl,rfl,HSN,by simp[aJ]⟩
    case round=>
     obtain ⟨j,sn,hj,rfl,rfl,HN2,HA2⟩:=hrel;by_cases hjl:j<cs.length
     ·obtain ⟨b2,off2,rfl,c0⟩:=hR.at hjl;have HD:=ax (addAll_step sn cs j hjl);have had:=(HCS.o _ (List.getElem_mem hjl)).1;have hab:=addrB_iff.1 had;obtain ⟨m,hm⟩:=Int.eq_ofNat_of_zero_le (show 0≤cs[j] by omega);have hbit:=ax (seen_bit HN2.o (show 0≤cs[j] by omega));have HAD:=ax had;have hs5:=seen_lt HN2.o;have HM:=ax hm;clear had hm hab;by_cases hmem:cs[j]∈sn
      ·have HMM:=ax hmem;clear hmem;(go_wp2_with fail);refine (c_impl_cellHas (bitsOf sn) _ _ (by omega)).mono ?_;rintro e w' ⟨rfl,rfl⟩;rw[HAD.o,hbit.o,decide_eq_true HMM.o];(go_wp2_with fail);go_ret2;exact ⟨by rw[HA.o,HST.o,HAC.o];simp[HA2.o,HD.o,HMM.o];rfl,hBw4⟩
      ·have HMM:=ax hmem;clear hmem;(go_wp2_with fail);refine (c_impl_cellHas (bitsOf sn) _ _ (by omega)).mono ?_;rintro e w' ⟨rfl,rfl⟩;rw[HAD.o,hbit.o,decide_eq_false HMM.o];have hm8:cs[j]≤8:=(addrB_iff.1 HAD.o).2;have hm1:1≤cs[j]:=(addrB_iff.1 HAD.o).1;(go_wp2_with fail)
       go_round
       case rel=>
        refine ⟨j+1,sn++[cs[j]],by omega,by go_num,?_,?_,?_⟩
        ·rw[bitsOf_snoc]
         congr 1
         exact bit_or _ _ (by omega) (by omega)
        ·intro c hc;rcases List.mem_append.1 hc with hc|hc
         ·exact HN2.o c hc
         ·obtain rfl:c=cs[j]:=by simpa using hc
          exact HAD.o
        ·show _=_;rw[HA2.o,HD.o,if_neg HMM.o]
       case measure=>simp[intOf];omega
     ·obtain rfl:j=cs.length:=by omega
      go_wp2_with fail
      go_round
      case rel=>
       refine ⟨k+1,sn,by omega,by go_num,rfl,HN2,?_,hK4,hBw4⟩;show _=_;rw[HA.o,HST.o,HAC.o];simp only[Option.bind_some,HA2.o,List.drop_length,addAll]
      case measure=>simp[intOf];omega
  ·obtain rfl:k=a.atoms.length:=by omega
   go_wp2;go_ret2;exact ⟨by rw[HA.o,List.drop_length];rfl,hB⟩
def flagsOf (S:Nat):List Bool:=(List.range 9).map fun i=>S.testBit i
theorem flagsOf_length (S:Nat):(flagsOf S).length=9:=by simp[flagsOf]
theorem flagsOf_get (S k:Nat) (hk:k<9):(flagsOf S)[k]? = some (S.testBit k):=by simp[flagsOf,hk]
theorem flagsOf_set (S n:Nat):(flagsOf S).set n true=flagsOf (S|||1 <<< n):=by
 apply List.ext_getElem?;intro j;simp only[flagsOf,List.getElem?_set,List.getElem?_map,List.length_map,List.length_range];by_cases hj:j<9
 ·rw[List.getElem?_range hj];simp only[Option.map_some,Nat.testBit_or,Nat.one_shiftLeft,Nat.testBit_two_pow];by_cases e:n=j
  ·subst e;simp[hj]
  ·simp[e]
 ·rw[List.getElem?_eq_none (by simp;omega)];by_cases e:n=j
  ·subst e;simp[hj]
  ·simp[e]
theorem flags_cell (S:Nat) (cs:Array Value) (he:cs=(encB (flagsOf S)).toArray) {k:Nat} (hk:k<9):cs[k]? = some (.bool (S.testBit k)):=by
 subst he;simp[encB,flagsOf_get S k hk]
theorem flags_upd (S n:Nat):((encB (flagsOf S)).toArray).setIfInBounds n (.bool true)=(encB (flagsOf (S|||1 <<< n))).toArray:=by
 rw[←flagsOf_set,encB,encB,List.map_set];simp
end
end Go.Proofs.YtgdfdmjnadnlnaaGreat
