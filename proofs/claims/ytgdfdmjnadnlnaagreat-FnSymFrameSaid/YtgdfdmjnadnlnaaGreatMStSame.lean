/- Sets of terms as flags: the spec's contracts. -/
import Derived.Test.YtgdfdmjnadnlnaaGreatHolds
import Derived.Test.YtgdfdmjnadnlnaaGreatDrawE
import Derived.Laws.CopyOwn
set_option linter.unusedSimpArgs false
set_option linter.unusedVariables false
set_option maxRecDepth 100000
set_option maxHeartbeats 25600000
namespace Go.Proofs.YtgdfdmjnadnlnaaGreat
section
open Go Go.RowKit Go.Proofs
attribute [local go_sem ↓] Go.wp_at_zero Go.wp_at_succ
theorem termsL_ok {a:Asn} (h:a.valid=true):∀ t∈termsL a,isTermB t=true:=by
 simp only[Asn.valid,factsValid,Bool.and_eq_true,List.all_eq_true] at h;intro t ht;simp only[termsL,List.mem_append,List.mem_flatMap] at ht;rcases ht with ⟨f,hf,ht⟩|⟨f,hf,ht⟩
 ·have:=h.1.2 f hf;simp only[Fct.valid,Bool.and_eq_true] at this;simp only[factT,List.mem_cons,List.not_mem_nil,or_false] at ht;rcases ht with rfl|rfl
  ·exact this.1
  ·exact this.2
 ·have:=h.2.2 f hf;simp only[Atm.valid,Bool.and_eq_true] at this;simp only[atomT,List.mem_cons,List.not_mem_nil,or_false] at ht;rcases ht with rfl|rfl
  ·exact this.1.2
  ·exact this.2
theorem termsL_atoms {a:Asn} {k:Nat} (h:k<a.atoms.length):a.atoms[k].a∈termsL a∧a.atoms[k].b∈termsL a:=by
 simp only[termsL,List.mem_append,List.mem_flatMap];exact ⟨Or.inr ⟨_,List.getElem_mem h,by simp[atomT]⟩,Or.inr ⟨_,List.getElem_mem h,by simp[atomT]⟩⟩
theorem tins_flags (S m:Nat) (hm:m≤8):((encB (flagsOf S)).toArray).setIfInBounds m (.bool true)=(encB (flagsOf (tins S (m:Int)))).toArray:=by
 rw[flags_upd,tins,if_pos (isTermB_iff.2 (by omega)),Int.toNat_natCast]
theorem BoolsO.ofBlk {w:World} {g base S:Nat} (h:Blk w g tB (encB (flagsOf S)).toArray) (hb:base≤g):BoolsO w base (.slice (some ⟨g,0,none⟩) 9 9) (flagsOf S):=
 ⟨own_of_blk (n:=9) (cap:=9) h hb (by simp[flagsOf]) (by intro j hj;simp) (Nat.le_refl _) (by decide) (by simp[flagsOf]),by simp[flagsOf,Lim]⟩
theorem mkB9 (w:World):(Instr.makeSlice 116 (.int .i64 9) (.int .i64 9)).run Tryz.prog w=.ok (.slice (some ⟨w.heap.size,0,none⟩) 9 9) (w.alloc (.cells (encB (flagsOf 0)).toArray tB)):=
 (mkB 9 (by decide) w).trans (by rw[show (madeCells #[.bool false] (9 * 1))=(encB (flagsOf 0)).toArray from by kernel_rfl])
theorem flags_at {w:World} {lo hi b o K m:Nat} (h:BoolsV w lo hi (some ⟨b,o,none⟩) (flagsOf K)) (hm:m≤8):w.cell? ⟨b,o+m,none⟩=some (.bool (K.testBit m)):=by
 have:=h.cl (k:=m) (by rw[flagsOf_length];omega);rw[this];have e:=flagsOf_get K m (by omega);rw[List.getElem?_eq_getElem (by rw[flagsOf_length];omega)] at e;rw[Option.some.inj e]
theorem flags_addr {w:World} {lo hi K:Nat} {A:Option Addr} (h:BoolsV w lo hi A (flagsOf K)):∃ b o,A=some ⟨b,o,none⟩∧b<w.heap.size:=h.blt (k:=0) (by rw[flagsOf_length];omega)
theorem c_l3Swap (t x y:Int) (w:World):Calls Tryz.prog 165 #[.int .i64 t,.int .i64 x,.int .i64 y] w fun e w'=>e=.returned (.int .i64 (swp x y t))∧w=w':=by
 by_cases h:t=x
 ·have hb:(t == x)=true:=by simpa using h
  have HS:aJ (swp x y t=y):=by simp[aJ,swp,h]
  clear h;(go_enter Tryz.func165,Tryz.ntmps165);go_wp2;go_ret;exact ⟨ret_int HS.o.symm,rfl⟩
 ·have hb:(t == x)=false:=by simpa using h
  have HS:aJ (swp x y t=t):=by simp[aJ,swp,h]
  clear h;(go_enter Tryz.func165,Tryz.ntmps165);go_wp2;go_ret;exact ⟨ret_int HS.o.symm,rfl⟩
theorem c_spec_l10Busy {lo hi:Nat} (A:Option Addr) (c:Nat) (xs:List Int) (w:World) (h:IntsV w lo hi A xs):Calls Tryz.prog 81 #[.slice A xs.length c] w fun e w'=>∃ r,e=.returned r∧BoolsO w' w.heap.size r (flagsOf (tset xs))∧Below w.heap.size w w':=by
 have hl:=h.le;have hmk:=mkB9;have HT:aJ (tset xs=xs.foldl tins 0):=by show _=_;unfold tset;rfl
 (go_enter Tryz.func81,Tryz.ntmps81);go_wp2;clear hmk
 go_loopw [4] (fun i wr=>∃ (k T:Nat),k≤xs.length∧i=.int .i64 k∧aJ (tset xs=(xs.drop k).foldl tins T)∧Blk wr w.heap.size tB (encB (flagsOf T)).toArray∧Below w.heap.size w wr) (fun i _=>xs.length - (intOf i).toNat)
 case atStart=>exact ⟨0,0,Nat.zero_le _,rfl,HT.o,blks,bel⟩
 case round=>
  obtain ⟨k,T,hk,rfl,HA,k0,hB⟩:=hrel;by_cases hlt:k<xs.length
  ·obtain ⟨b,off,rfl,c0⟩:=(h.bz hB).at hlt;have HD:=ax (foldl_step tins T xs k hlt);have hne:=block_lt_of_cell c0;cases ht:isTermB xs[k]
   ·have HS:aJ (tins T xs[k]=T):=by simp[aJ,tins,ht]
    go_wp2_with (go_at_call 132;refine (c_spec_l1Is _ _).mono ?_;rintro e w' ⟨rfl,rfl⟩)
    go_round
    case rel=>exact ⟨k+1,T,by omega,by go_num,by show _=_;rw[HA.o,HD.o,HS.o],k0,hB⟩
    case measure=>simp[intOf];omega
   ·have hb:=isTermB_iff.1 ht;obtain ⟨m,hm⟩:=Int.eq_ofNat_of_zero_le hb.1;have HM:=ax hm;have m8:m≤8:=by omega
    have m8':(m:Int)<9:=by omega
    rw[hm] at c0 ht;have q3:wr.cell? ⟨w.heap.size,m,none⟩=some (.bool (T.testBit m)):=(k0.cell m).trans (flags_cell T _ rfl (by omega));have r3:=k0.frozen;clear hm hb;(go_wp2_with (go_at_call 132;refine (c_spec_l1Is _ _).mono ?_;rintro e w' ⟨rfl,rfl⟩))
    go_round
    case rel=>
     refine ⟨k+1,tins T xs[k],by omega,by go_num,by show _=_;rw[HA.o,HD.o],?_,bel⟩;rw[HM.o,←tins_flags _ _ m8];exact k0.set_ _ _
    case measure=>simp[intOf];omega
  ·obtain rfl:k=xs.length:=by omega
   go_wp2;go_ret;refine ⟨_,rfl,?_,hB⟩;rw[HA.o,List.drop_length];exact BoolsO.ofBlk k0 (Nat.le_refl _)
theorem flags2 (T m1 m2:Nat) (h1:m1≤8) (h2:m2≤8):(((encB (flagsOf T)).toArray).setIfInBounds m1 (.bool true)).setIfInBounds m2 (.bool true)=(encB (flagsOf (tins (tins T (m1:Int)) (m2:Int)))).toArray:=by
 rw[tins_flags _ _ h1,tins_flags _ _ h2]
theorem Blk.two {w:World} {g T m1 m2:Nat} (h:Blk w g tB (encB (flagsOf T)).toArray) (h1:m1≤8) (h2:m2≤8):Blk ((w.setCell ⟨g,m1,none⟩ (.bool true)).setCell ⟨g,m2,none⟩ (.bool true)) g tB (encB (flagsOf (tins (tins T (m1:Int)) (m2:Int)))).toArray:=by
 rw[←flags2 _ _ _ h1 h2];exact (h.set_ _ _).set_ _ _
theorem Blk.twice {w:World} {g T m1:Nat} (h:Blk w g tB (encB (flagsOf T)).toArray) (h1:m1≤8):Blk (w.setCell ⟨g,m1,none⟩ (.bool true)) g tB (encB (flagsOf (tins (tins T (m1:Int)) (m1:Int)))).toArray:=by
 rw[←tins_flags _ _ h1,←tins_flags _ _ h1]
 have e:∀ (a:Array Value) (i:Nat) (u:Value),(a.setIfInBounds i u).setIfInBounds i u=a.setIfInBounds i u:=by
  intro a i u;apply Array.ext_getElem?;intro j;by_cases e:i=j
  ·subst e;rw[Array.getElem?_setIfInBounds_self,Array.size_setIfInBounds,Array.getElem?_setIfInBounds_self]
  ·rw[Array.getElem?_setIfInBounds_ne e]
 rw[e];exact h.set_ _ _
theorem c_spec_l3Terms {lo hi:Nat} (v:Value) (a:Asn) (w:World) (h:AsnV w lo hi v a) (hv:∀ t∈termsL a,isTermB t=true):Calls Tryz.prog 77 #[v] w fun e w'=>∃ r,e=.returned r∧BoolsO w' w.heap.size r (flagsOf (tset (termsL a)))∧Below w.heap.size w w':=by
 obtain ⟨A1,c1,A2,c2,rfl,h1,h2⟩:=h;have hl1:=h1.le;have hl2:=h2.le;have hmk:=mkB9;have HV:=ax hv;have HT:=ax (tset_terms a);clear hv;(go_enter Tryz.func77,Tryz.ntmps77);go_wp2;clear hmk
 go_loopw [4] (fun i wr=>∃ (k T:Nat),k≤a.facts.length∧i=.int .i64 k∧aJ (a.facts.foldl (fun S f=>tins (tins S f.a) f.b) 0=(a.facts.drop k).foldl (fun S f=>tins (tins S f.a) f.b) T)∧Blk wr w.heap.size 36 #[.slice A1 a.facts.length c1,.slice A2 a.atoms.length c2]∧Blk wr (w.heap.size+1) tB (encB (flagsOf T)).toArray∧Below w.heap.size w wr) (fun i _=>a.facts.length - (intOf i).toNat)
 case atStart=>exact ⟨0,0,Nat.zero_le _,rfl,rfl,blks,blks,bel⟩
 case round=>
  obtain ⟨k,T,hk,rfl,HA,k0,k1,hB⟩:=hrel;have qk0:=k0.cell;by_cases hlt:k<a.facts.length
  ·obtain ⟨b,off,rfl,hbl⟩:=h1.blt hlt;obtain ⟨g0,g1,g2⟩:=(h1.bz hB).cl hlt;have HD:=ax (foldl_step (fun S (f:Fct)=>tins (tins S f.a) f.b) T a.facts k hlt);have hm:=termsL_facts (List.getElem_mem hlt);have b1:=isTermB_iff.1 (HV.o _ hm.1);have b2:=isTermB_iff.1 (HV.o _ hm.2);obtain ⟨m1,e1⟩:=Int.eq_ofNat_of_zero_le b1.1;obtain ⟨m2,e2⟩:=Int.eq_ofNat_of_zero_le b2.1;have E1:=ax e1;have E2:=ax e2;rw[e1] at g1;rw[e2] at g2;have m18:(m1:Int)<9:=by omega
   have m28:(m2:Int)<9:=by omega
   have q1:wr.cell? ⟨w.heap.size+1,m1,none⟩=some (.bool (T.testBit m1)):=(k1.cell m1).trans (flags_cell T _ rfl (by omega));have q2:wr.cell? ⟨w.heap.size+1,m2,none⟩=some (.bool (T.testBit m2)):=(k1.cell m2).trans (flags_cell T _ rfl (by omega));have r3:=k1.frozen;clear e1 e2 hm b1 b2;by_cases he:m1=m2
   ·subst he;(go_wp2_with fail)
    go_round
    case rel=>
     refine ⟨k+1,tins (tins T (m1:Int)) (m1:Int),by omega,by go_num,by show _=_;rw[HA.o,HD.o,E1.o,E2.o],?_,?_,bel⟩
     ·first|exact k0.far (by simp) _|exact (k0.far (by simp) _).far (by simp) _
     ·first|exact k1.twice (by omega)|exact k1.two (by omega) (by omega)
    case measure=>simp[intOf];omega
   ·have he2:=Ne.symm he;(go_wp2_with fail)
    go_round
    case rel=>
     refine ⟨k+1,tins (tins T (m1:Int)) (m2:Int),by omega,by go_num,by show _=_;rw[HA.o,HD.o,E1.o,E2.o],(k0.far (by simp) _).far (by simp) _,k1.two (by omega) (by omega),bel⟩
    case measure=>simp[intOf];omega
  ·obtain rfl:k=a.facts.length:=by omega
   have HA2:=ax (show a.facts.foldl (fun S f=>tins (tins S f.a) f.b) 0=T by rw[HA.o,List.drop_length];rfl);(go_wp2_with fail)
   go_loopw [5] (fun i wx=>∃ (k T':Nat),k≤a.atoms.length∧i=.int .i64 k∧aJ (a.atoms.foldl (fun S f=>tins (tins S f.a) f.b) T=(a.atoms.drop k).foldl (fun S f=>tins (tins S f.a) f.b) T')∧Blk wx w.heap.size 36 #[.slice A1 a.facts.length c1,.slice A2 a.atoms.length c2]∧Blk wx (w.heap.size+1) tB (encB (flagsOf T')).toArray∧Below w.heap.size w wx) (fun i _=>a.atoms.length - (intOf i).toNat)
   case atStart=>exact ⟨0,T,Nat.zero_le _,rfl,rfl,k0,k1,hB⟩
   case round=>
    clear k0 qk0 k1 hB;obtain ⟨k,T',hk,rfl,HB,k0,k1,hB⟩:=hrel;have qk0:=k0.cell;by_cases hlt2:k<a.atoms.length
    ·obtain ⟨b,off,rfl,hbl⟩:=h2.blt hlt2;obtain ⟨g0,g1,g2⟩:=(h2.bz hB).cl hlt2;have HD:=ax (foldl_step (fun S (f:Atm)=>tins (tins S f.a) f.b) T' a.atoms k hlt2);have hm:=termsL_atoms hlt2;have b1:=isTermB_iff.1 (HV.o _ hm.1);have b2:=isTermB_iff.1 (HV.o _ hm.2);obtain ⟨m1,e1⟩:=Int.eq_ofNat_of_zero_le b1.1;obtain ⟨m2,e2⟩:=Int.eq_ofNat_of_zero_le b2.1;have E1:=ax e1;have E2:=ax e2;rw[e1] at g1;rw[e2] at g2;have m18:(m1:Int)<9:=by omega
     have m28:(m2:Int)<9:=by omega
     have q1:wr.cell? ⟨w.heap.size+1,m1,none⟩=some (.bool (T'.testBit m1)):=(k1.cell m1).trans (flags_cell T' _ rfl (by omega));have q2:wr.cell? ⟨w.heap.size+1,m2,none⟩=some (.bool (T'.testBit m2)):=(k1.cell m2).trans (flags_cell T' _ rfl (by omega));have r3:=k1.frozen;clear e1 e2 hm b1 b2;by_cases he:m1=m2
     ·subst he;(go_wp2_with fail)
      go_round
      case rel=>
       refine ⟨k+1,tins (tins T' (m1:Int)) (m1:Int),by omega,by go_num,by show _=_;rw[HB.o,HD.o,E1.o,E2.o],?_,?_,bel⟩
       ·first|exact k0.far (by simp) _|exact (k0.far (by simp) _).far (by simp) _
       ·first|exact k1.twice (by omega)|exact k1.two (by omega) (by omega)
      case measure=>simp[intOf];omega
     ·have he2:=Ne.symm he;(go_wp2_with fail)
      go_round
      case rel=>
       refine ⟨k+1,tins (tins T' (m1:Int)) (m2:Int),by omega,by go_num,by show _=_;rw[HB.o,HD.o,E1.o,E2.o],(k0.far (by simp) _).far (by simp) _,k1.two (by omega) (by omega),bel⟩
      case measure=>simp[intOf];omega
    ·obtain rfl:k=a.atoms.length:=by omega
     (go_wp2_with fail);go_ret;refine ⟨_,rfl,?_,hB⟩;rw[HT.o,HA2.o,HB.o,List.drop_length];exact BoolsO.ofBlk k1 (by omega)
end
section
open Go Go.RowKit Go.Proofs
theorem getD_of {α:Type} [Inhabited α] {xs:List α} {k:Nat} (h:k<xs.length):xs.getD k default=xs[k]:=by simp[List.getD,List.getElem?_eq_getElem h]
theorem c_l3Text {lo hi:Nat} (v:Value) (a:Asn) (w:World) (h:AsnV w lo hi v a):Calls Tryz.prog 247 #[v] w fun e w'=>e=.returned (sv (textA a))∧Below w.heap.size w w':=by
 obtain ⟨A1,c1,A2,c2,rfl,h1,h2⟩:=h;have hl1:=h1.le;have hl2:=h2.le;unfold Lim at hl1 hl2;have hlT:=ax (factsT_len a.facts);have HTT:=ax (show textA a=if a.atoms.length=0 then factsT a.facts++[32,124,32,101,109,112] else outX (factsT a.facts) a.atoms a.atoms.length from rfl);have H1:=ax h1;have H2:=ax h2;clear h1 h2;(go_enter Tryz.func247,Tryz.ntmps247);(go_wp2_with fail)
 go_loopw [3,4] (fun o i wr=>∃ (k:Nat) (X:Bs),k≤a.facts.length∧i=.int .i64 k∧o=sv X∧aJ (X=outF a.facts k)∧Blk wr w.heap.size 36 #[.slice A1 a.facts.length c1,.slice A2 a.atoms.length c2]∧aJ (Below w.heap.size w wr)) (fun _ i _=>a.facts.length - (intOf i).toNat)
 case atStart=>exact ⟨0,[],Nat.zero_le _,rfl,rfl,ax rfl,blks,bel⟩
 case round=>
  obtain ⟨k,X,hk,rfl,rfl,hX,k0,hB⟩:=hrel;have qk0:=k0.cell;have rk0:=k0.frozen;have lk0:=k0.lt;by_cases hlt:k<a.facts.length
  ·obtain ⟨b,off,rfl,hbl⟩:=H1.o.blt hlt;obtain ⟨g0,g1,g2⟩:=(H1.o.bz hB.o).cl hlt;have hXl:X.length≤k * 11:=by rw[hX.o];exact outF_len _ _
   have hFl:=fmtF_len a.facts[k];have hS:=ax (show outF a.facts (k+1)=(if 0<k then outF a.facts k++[32,38,32] else outF a.facts k)++fmtF (a.facts.getD k default) from rfl);have hD:=ax (getD_of hlt);obtain ⟨f,hf⟩:∃ f,f=a.facts[k]:=⟨_,rfl⟩;rw[←hf] at g0 g1 g2 hFl hD;obtain ⟨F,hF⟩:∃ F,F=fmtF f:=⟨_,rfl⟩;have hc:=c_l1Text f;rw[←hF] at hc hFl;replace hc:=ax hc;replace hF:=ax hF;clear hf;by_cases hz:k=0
   ·have hki:¬(0:Int)<(k:Int):=by omega
    have hz0:¬0<k:=by omega
    clear hz;obtain ⟨S2,e2,n2⟩:=addO (P:=Tryz.prog) X F (by omega);(go_wp2_with fail);refine (hc.o _).mono ?_;rintro e w2 ⟨rfl,hB2⟩;(go_wp2_with fail)
    go_round
    case rel=>exact ⟨k+1,S2,by omega,by go_num,rfl,ax (by rw[e2.o,hS.o,hD.o,hF.o,hX.o,if_neg hz0]),k0.nz hB2,bgo hB.o hB2⟩
    case measure=>simp[intOf];omega
   ·have hki:(0:Int)<(k:Int):=by omega
    obtain ⟨S1,e1,n1⟩:=addO (P:=Tryz.prog) X [32,38,32] (by simp;omega);have hS1:S1.length≤k * 11+3:=by rw[e1.o];simp;omega
    obtain ⟨S2,e2,n2⟩:=addO (P:=Tryz.prog) S1 F (by omega);have hz0:0<k:=by omega
    clear hS1 hXl;(go_wp2_with fail);refine (hc.o _).mono ?_;rintro e w2 ⟨rfl,hB2⟩;(go_wp2_with fail)
    go_round
    case rel=>exact ⟨k+1,S2,by omega,by go_num,rfl,ax (by rw[e2.o,e1.o,hS.o,hD.o,hF.o,hX.o,if_pos hz0]),k0.nz hB2,bgo hB.o hB2⟩
    case measure=>simp[intOf];omega
  ·obtain rfl:k=a.facts.length:=by omega
   by_cases hz:a.facts.length=0
   ·have hzi:((a.facts.length:Int) == 0)=true:=by simp[hz]
    have HTX:aJ (factsT a.facts=[116,114,117,101]):=ax (by unfold factsT;rw[if_pos hz]);clear hX hz;have hTT:aJ (factsT a.facts=[116,114,117,101]):=ax HTX.o;have hTl:([116,114,117,101]).length≤4+a.facts.length * 11:=by have h:=hlT.o;rw[hTT.o] at h;exact h
    obtain ⟨S0,e0,n0⟩:=addO (P:=Tryz.prog) [116,114,117,101] [32,124,32,101,109,112] (by first|omega|(simp;done)|(simp;omega));have HTT2:=ax (by have h:=HTT.o;rw[hTT.o] at h;exact h);by_cases hy:a.atoms.length=0
    ·have hyi:((a.atoms.length:Int) == 0)=true:=by simp[hy]
     have E1:=ax (HTT2.o.trans (if_pos hy));clear hy hTl;(go_wp2_with fail);go_ret;exact ⟨ret_str (by rw[E1.o,e0.o]),hB.o⟩
    ·have hyi:((a.atoms.length:Int) == 0)=false:=by simp[hy]
     have E1:=ax (HTT2.o.trans (if_neg hy));clear hy n0 e0;(go_wp2_with fail)
     go_loopw [3,5,6] (fun o i s wx=>∃ (k:Nat) (X:Bs),k≤a.atoms.length∧i=.int .i64 k∧o=sv X∧aJ (X=outX ([116,114,117,101]) a.atoms k)∧Blk wx w.heap.size 36 #[.slice A1 a.facts.length c1,.slice A2 a.atoms.length c2]∧aJ (Below w.heap.size w wx)) (fun _ i _ _=>a.atoms.length - (intOf i).toNat)
     case atStart=>exact ⟨0,[116,114,117,101],Nat.zero_le _,rfl,rfl,ax rfl,k0,hB⟩
     case round=>
      clear k0 qk0 rk0 lk0 hB;obtain ⟨k,X,hk,rfl,rfl,hX,k0,hB⟩:=hrel;have qk0:=k0.cell;have rk0:=k0.frozen;have lk0:=k0.lt;by_cases hlt:k<a.atoms.length
      ·obtain ⟨b,off,rfl,hbl⟩:=H2.o.blt hlt;obtain ⟨g0,g1,g2⟩:=(H2.o.bz hB.o).cl hlt;have hXl:X.length≤([116,114,117,101]).length+k * 10:=by rw[hX.o];exact outX_len _ _ _
       have hS:=ax (show outX ([116,114,117,101]) a.atoms (k+1)=(if k=0 then outX ([116,114,117,101]) a.atoms k++[32,124,32] else outX ([116,114,117,101]) a.atoms k++[32,42,32])++tnameL (a.atoms.getD k default).a++signX (a.atoms.getD k default)++tnameL (a.atoms.getD k default).b from rfl);have hD:=ax (getD_of hlt);obtain ⟨f,hf⟩:∃ f,f=a.atoms[k]:=⟨_,rfl⟩;rw[←hf] at g0 g1 g2 hD;clear hf;obtain ⟨kd,ta,tb⟩:=f;simp only at g0 g1 g2;have la:=tnameL_len ta;have lb:=tnameL_len tb;have ca:=c_TermName ta;have cb:=c_TermName tb;obtain ⟨NA,hNA⟩:∃ N,N=tnameL ta:=⟨_,rfl⟩;obtain ⟨NB,hNB⟩:∃ N,N=tnameL tb:=⟨_,rfl⟩;rw[←hNA] at la ca;rw[←hNB] at lb cb;replace ca:=ax ca;replace cb:=ax cb;replace hNA:=ax hNA;replace hNB:=ax hNB;obtain ⟨sep,hsep⟩:∃ sep:Bs,sep=if k=0 then [32,124,32] else [32,42,32]:=⟨_,rfl⟩;have lsep:sep.length=3:=by rw[hsep];split<;>rfl
       obtain ⟨S1,e1,n1⟩:=addO (P:=Tryz.prog) X sep (by omega);have l1:S1.length=X.length+3:=by rw[e1.o,List.length_append,lsep]
       obtain ⟨S2,e2,n2⟩:=addO (P:=Tryz.prog) S1 NA (by omega);have l2:S2.length≤X.length+6:=by rw[e2.o,List.length_append];omega
       obtain ⟨sg,hsg⟩:∃ sg,sg=signX ⟨kd,ta,tb⟩:=⟨_,rfl⟩;have lsg:sg.length=1:=by rw[hsg];unfold signX;split<;>rfl
       obtain ⟨S3,e3,n3⟩:=addO (P:=Tryz.prog) S2 sg (by omega);have l3:S3.length≤X.length+7:=by rw[e3.o,List.length_append];omega
       obtain ⟨S4,e4,n4⟩:=addO (P:=Tryz.prog) S3 NB (by omega)
       have hEnd:aJ (S4=outX ([116,114,117,101]) a.atoms (k+1)):=ax (by
        rw[hS.o,hD.o,e4.o,e3.o,e2.o,e1.o,hX.o,hNA.o,hNB.o,hsg,hsep]
        split<;>rfl)
       clear l1 l2 l3 lsep hXl la lb;have hb1:aJ (Below w.heap.size w wr):=hB;have tokA:True:=trivial;have tokB:True:=trivial;by_cases hk2:kd=2
       ·subst hk2;have hsg2:sg=[126]:=hsg;subst hsg2;clear hsg lsg;by_cases hz0:k=0
        ·subst hz0;have hsep2:sep=[32,124,32]:=hsep;subst hsep2;clear hsep;have h0l:(0:Int)<(a.atoms.length:Int):=by omega
         simp only[Nat.zero_mul,Nat.add_zero,Nat.zero_add] at g0 g1 g2;(go_wp2_with fail)
         go_region_held3 (fun w'=>(∀ i,w'.cell? ⟨w.heap.size,i,none⟩=#[.slice A1 a.facts.length c1,.slice (some ⟨b,off,none⟩) a.atoms.length c2][i]?)∧w'.cell? ⟨b,off+1,none⟩=some (.int .i64 ta)∧w'.cell? ⟨b,off+2,none⟩=some (.int .i64 tb))
          (exact ⟨qk0,g1,g2⟩)
          (first
           | (have _t:=tokA;clear _t tokA;go_at_call 267;refine (ca.o _).mono ?_;rintro e w' ⟨rfl,rfl⟩)
           | (have _t:=tokB;clear _t tokB;go_at_call 267;refine (cb.o _).mono ?_;rintro e w' ⟨rfl,rfl⟩))
         all_goals
          go_wp2_with fail
          go_round
          case rel=>exact ⟨0+1,S4,by omega,by go_num,rfl,hEnd,k0,ax hB.o.drew⟩
          case measure=>simp[intOf];omega
        ·have hki:((k:Int) == 0)=false:=by simp;omega
         have hsep2:sep=[32,42,32]:=by rw[hsep,if_neg hz0]
         subst hsep2;clear hsep hz0;(go_wp2_with fail)
         go_region_held3 (fun w'=>(∀ i,w'.cell? ⟨w.heap.size,i,none⟩=#[.slice A1 a.facts.length c1,.slice (some ⟨b,off,none⟩) a.atoms.length c2][i]?)∧w'.cell? ⟨b,off+k * 3+1,none⟩=some (.int .i64 ta)∧w'.cell? ⟨b,off+k * 3+2,none⟩=some (.int .i64 tb))
          (exact ⟨qk0,g1,g2⟩)
          (first
           | (have _t:=tokA;clear _t tokA;go_at_call 267;refine (ca.o _).mono ?_;rintro e w' ⟨rfl,rfl⟩)
           | (have _t:=tokB;clear _t tokB;go_at_call 267;refine (cb.o _).mono ?_;rintro e w' ⟨rfl,rfl⟩))
         all_goals
          go_wp2_with fail
          go_round
          case rel=>exact ⟨k+1,S4,by omega,by go_num,rfl,hEnd,k0,ax hB.o.drew⟩
          case measure=>simp[intOf];omega
       ·have hk2b:(kd == 2)=false:=by simpa using hk2
        have hsg2:sg=[62]:=by rw[hsg];unfold signX;rw[if_neg hk2]
        subst hsg2;clear hsg lsg hk2;by_cases hz0:k=0
        ·subst hz0;have hsep2:sep=[32,124,32]:=hsep;subst hsep2;clear hsep;have h0l:(0:Int)<(a.atoms.length:Int):=by omega
         simp only[Nat.zero_mul,Nat.add_zero,Nat.zero_add] at g0 g1 g2;(go_wp2_with fail)
         go_region_held3 (fun w'=>(∀ i,w'.cell? ⟨w.heap.size,i,none⟩=#[.slice A1 a.facts.length c1,.slice (some ⟨b,off,none⟩) a.atoms.length c2][i]?)∧w'.cell? ⟨b,off+1,none⟩=some (.int .i64 ta)∧w'.cell? ⟨b,off+2,none⟩=some (.int .i64 tb))
          (exact ⟨qk0,g1,g2⟩)
          (first
           | (have _t:=tokA;clear _t tokA;go_at_call 267;refine (ca.o _).mono ?_;rintro e w' ⟨rfl,rfl⟩)
           | (have _t:=tokB;clear _t tokB;go_at_call 267;refine (cb.o _).mono ?_;rintro e w' ⟨rfl,rfl⟩))
         all_goals
          go_wp2_with fail
          go_round
          case rel=>exact ⟨0+1,S4,by omega,by go_num,rfl,hEnd,k0,ax hB.o.drew⟩
          case measure=>simp[intOf];omega
        ·have hki:((k:Int) == 0)=false:=by simp;omega
         have hsep2:sep=[32,42,32]:=by rw[hsep,if_neg hz0]
         subst hsep2;clear hsep hz0;(go_wp2_with fail)
         go_region_held3 (fun w'=>(∀ i,w'.cell? ⟨w.heap.size,i,none⟩=#[.slice A1 a.facts.length c1,.slice (some ⟨b,off,none⟩) a.atoms.length c2][i]?)∧w'.cell? ⟨b,off+k * 3+1,none⟩=some (.int .i64 ta)∧w'.cell? ⟨b,off+k * 3+2,none⟩=some (.int .i64 tb))
          (exact ⟨qk0,g1,g2⟩)
          (first
           | (have _t:=tokA;clear _t tokA;go_at_call 267;refine (ca.o _).mono ?_;rintro e w' ⟨rfl,rfl⟩)
           | (have _t:=tokB;clear _t tokB;go_at_call 267;refine (cb.o _).mono ?_;rintro e w' ⟨rfl,rfl⟩))
         all_goals
          go_wp2_with fail
          go_round
          case rel=>exact ⟨k+1,S4,by omega,by go_num,rfl,hEnd,k0,ax hB.o.drew⟩
          case measure=>simp[intOf];omega
      ·obtain rfl:k=a.atoms.length:=by omega
       (go_wp2_with fail);go_ret;exact ⟨ret_str (by rw[E1.o,hX.o]),hB.o⟩
   ·have hzi:((a.facts.length:Int) == 0)=false:=by simp[hz]
    have HTX:aJ (factsT a.facts=X):=ax (by unfold factsT;rw[if_neg hz,hX.o]);clear hX hz;obtain ⟨XT,rfl⟩:∃ XT,XT=X:=⟨_,rfl⟩;have hTT:aJ (factsT a.facts=XT):=ax HTX.o;have hTl:(XT).length≤4+a.facts.length * 11:=by have h:=hlT.o;rw[hTT.o] at h;exact h
    obtain ⟨S0,e0,n0⟩:=addO (P:=Tryz.prog) XT [32,124,32,101,109,112] (by first|omega|(simp;done)|(simp;omega));have HTT2:=ax (by have h:=HTT.o;rw[hTT.o] at h;exact h);by_cases hy:a.atoms.length=0
    ·have hyi:((a.atoms.length:Int) == 0)=true:=by simp[hy]
     have E1:=ax (HTT2.o.trans (if_pos hy));clear hy hTl;(go_wp2_with fail);go_ret;exact ⟨ret_str (by rw[E1.o,e0.o]),hB.o⟩
    ·have hyi:((a.atoms.length:Int) == 0)=false:=by simp[hy]
     have E1:=ax (HTT2.o.trans (if_neg hy));clear hy n0 e0;(go_wp2_with fail)
     go_loopw [3,5,6] (fun o i s wx=>∃ (k:Nat) (X:Bs),k≤a.atoms.length∧i=.int .i64 k∧o=sv X∧aJ (X=outX (XT) a.atoms k)∧Blk wx w.heap.size 36 #[.slice A1 a.facts.length c1,.slice A2 a.atoms.length c2]∧aJ (Below w.heap.size w wx)) (fun _ i _ _=>a.atoms.length - (intOf i).toNat)
     case atStart=>exact ⟨0,XT,Nat.zero_le _,rfl,rfl,ax rfl,k0,hB⟩
     case round=>
      clear k0 qk0 rk0 lk0 hB;obtain ⟨k,X,hk,rfl,rfl,hX,k0,hB⟩:=hrel;have qk0:=k0.cell;have rk0:=k0.frozen;have lk0:=k0.lt;by_cases hlt:k<a.atoms.length
      ·obtain ⟨b,off,rfl,hbl⟩:=H2.o.blt hlt;obtain ⟨g0,g1,g2⟩:=(H2.o.bz hB.o).cl hlt;have hXl:X.length≤(XT).length+k * 10:=by rw[hX.o];exact outX_len _ _ _
       have hS:=ax (show outX (XT) a.atoms (k+1)=(if k=0 then outX (XT) a.atoms k++[32,124,32] else outX (XT) a.atoms k++[32,42,32])++tnameL (a.atoms.getD k default).a++signX (a.atoms.getD k default)++tnameL (a.atoms.getD k default).b from rfl);have hD:=ax (getD_of hlt);obtain ⟨f,hf⟩:∃ f,f=a.atoms[k]:=⟨_,rfl⟩;rw[←hf] at g0 g1 g2 hD;clear hf;obtain ⟨kd,ta,tb⟩:=f;simp only at g0 g1 g2;have la:=tnameL_len ta;have lb:=tnameL_len tb;have ca:=c_TermName ta;have cb:=c_TermName tb;obtain ⟨NA,hNA⟩:∃ N,N=tnameL ta:=⟨_,rfl⟩;obtain ⟨NB,hNB⟩:∃ N,N=tnameL tb:=⟨_,rfl⟩;rw[←hNA] at la ca;rw[←hNB] at lb cb;replace ca:=ax ca;replace cb:=ax cb;replace hNA:=ax hNA;replace hNB:=ax hNB;obtain ⟨sep,hsep⟩:∃ sep:Bs,sep=if k=0 then [32,124,32] else [32,42,32]:=⟨_,rfl⟩;have lsep:sep.length=3:=by rw[hsep];split<;>rfl
       obtain ⟨S1,e1,n1⟩:=addO (P:=Tryz.prog) X sep (by omega);have l1:S1.length=X.length+3:=by rw[e1.o,List.length_append,lsep]
       obtain ⟨S2,e2,n2⟩:=addO (P:=Tryz.prog) S1 NA (by omega);have l2:S2.length≤X.length+6:=by rw[e2.o,List.length_append];omega
       obtain ⟨sg,hsg⟩:∃ sg,sg=signX ⟨kd,ta,tb⟩:=⟨_,rfl⟩;have lsg:sg.length=1:=by rw[hsg];unfold signX;split<;>rfl
       obtain ⟨S3,e3,n3⟩:=addO (P:=Tryz.prog) S2 sg (by omega);have l3:S3.length≤X.length+7:=by rw[e3.o,List.length_append];omega
       obtain ⟨S4,e4,n4⟩:=addO (P:=Tryz.prog) S3 NB (by omega)
       have hEnd:aJ (S4=outX (XT) a.atoms (k+1)):=ax (by
        rw[hS.o,hD.o,e4.o,e3.o,e2.o,e1.o,hX.o,hNA.o,hNB.o,hsg,hsep]
        split<;>rfl)
       clear l1 l2 l3 lsep hXl la lb;have hb1:aJ (Below w.heap.size w wr):=hB;have tokA:True:=trivial;have tokB:True:=trivial;by_cases hk2:kd=2
       ·subst hk2;have hsg2:sg=[126]:=hsg;subst hsg2;clear hsg lsg;by_cases hz0:k=0
        ·subst hz0;have hsep2:sep=[32,124,32]:=hsep;subst hsep2;clear hsep;have h0l:(0:Int)<(a.atoms.length:Int):=by omega
         simp only[Nat.zero_mul,Nat.add_zero,Nat.zero_add] at g0 g1 g2;(go_wp2_with fail)
         go_region_held3 (fun w'=>(∀ i,w'.cell? ⟨w.heap.size,i,none⟩=#[.slice A1 a.facts.length c1,.slice (some ⟨b,off,none⟩) a.atoms.length c2][i]?)∧w'.cell? ⟨b,off+1,none⟩=some (.int .i64 ta)∧w'.cell? ⟨b,off+2,none⟩=some (.int .i64 tb))
          (exact ⟨qk0,g1,g2⟩)
          (first
           | (have _t:=tokA;clear _t tokA;go_at_call 267;refine (ca.o _).mono ?_;rintro e w' ⟨rfl,rfl⟩)
           | (have _t:=tokB;clear _t tokB;go_at_call 267;refine (cb.o _).mono ?_;rintro e w' ⟨rfl,rfl⟩))
         all_goals
          go_wp2_with fail
          go_round
          case rel=>exact ⟨0+1,S4,by omega,by go_num,rfl,hEnd,k0,ax hB.o.drew⟩
          case measure=>simp[intOf];omega
        ·have hki:((k:Int) == 0)=false:=by simp;omega
         have hsep2:sep=[32,42,32]:=by rw[hsep,if_neg hz0]
         subst hsep2;clear hsep hz0;(go_wp2_with fail)
         go_region_held3 (fun w'=>(∀ i,w'.cell? ⟨w.heap.size,i,none⟩=#[.slice A1 a.facts.length c1,.slice (some ⟨b,off,none⟩) a.atoms.length c2][i]?)∧w'.cell? ⟨b,off+k * 3+1,none⟩=some (.int .i64 ta)∧w'.cell? ⟨b,off+k * 3+2,none⟩=some (.int .i64 tb))
          (exact ⟨qk0,g1,g2⟩)
          (first
           | (have _t:=tokA;clear _t tokA;go_at_call 267;refine (ca.o _).mono ?_;rintro e w' ⟨rfl,rfl⟩)
           | (have _t:=tokB;clear _t tokB;go_at_call 267;refine (cb.o _).mono ?_;rintro e w' ⟨rfl,rfl⟩))
         all_goals
          go_wp2_with fail
          go_round
          case rel=>exact ⟨k+1,S4,by omega,by go_num,rfl,hEnd,k0,ax hB.o.drew⟩
          case measure=>simp[intOf];omega
       ·have hk2b:(kd == 2)=false:=by simpa using hk2
        have hsg2:sg=[62]:=by rw[hsg];unfold signX;rw[if_neg hk2]
        subst hsg2;clear hsg lsg hk2;by_cases hz0:k=0
        ·subst hz0;have hsep2:sep=[32,124,32]:=hsep;subst hsep2;clear hsep;have h0l:(0:Int)<(a.atoms.length:Int):=by omega
         simp only[Nat.zero_mul,Nat.add_zero,Nat.zero_add] at g0 g1 g2;(go_wp2_with fail)
         go_region_held3 (fun w'=>(∀ i,w'.cell? ⟨w.heap.size,i,none⟩=#[.slice A1 a.facts.length c1,.slice (some ⟨b,off,none⟩) a.atoms.length c2][i]?)∧w'.cell? ⟨b,off+1,none⟩=some (.int .i64 ta)∧w'.cell? ⟨b,off+2,none⟩=some (.int .i64 tb))
          (exact ⟨qk0,g1,g2⟩)
          (first
           | (have _t:=tokA;clear _t tokA;go_at_call 267;refine (ca.o _).mono ?_;rintro e w' ⟨rfl,rfl⟩)
           | (have _t:=tokB;clear _t tokB;go_at_call 267;refine (cb.o _).mono ?_;rintro e w' ⟨rfl,rfl⟩))
         all_goals
          go_wp2_with fail
          go_round
          case rel=>exact ⟨0+1,S4,by omega,by go_num,rfl,hEnd,k0,ax hB.o.drew⟩
          case measure=>simp[intOf];omega
        ·have hki:((k:Int) == 0)=false:=by simp;omega
         have hsep2:sep=[32,42,32]:=by rw[hsep,if_neg hz0]
         subst hsep2;clear hsep hz0;(go_wp2_with fail)
         go_region_held3 (fun w'=>(∀ i,w'.cell? ⟨w.heap.size,i,none⟩=#[.slice A1 a.facts.length c1,.slice (some ⟨b,off,none⟩) a.atoms.length c2][i]?)∧w'.cell? ⟨b,off+k * 3+1,none⟩=some (.int .i64 ta)∧w'.cell? ⟨b,off+k * 3+2,none⟩=some (.int .i64 tb))
          (exact ⟨qk0,g1,g2⟩)
          (first
           | (have _t:=tokA;clear _t tokA;go_at_call 267;refine (ca.o _).mono ?_;rintro e w' ⟨rfl,rfl⟩)
           | (have _t:=tokB;clear _t tokB;go_at_call 267;refine (cb.o _).mono ?_;rintro e w' ⟨rfl,rfl⟩))
         all_goals
          go_wp2_with fail
          go_round
          case rel=>exact ⟨k+1,S4,by omega,by go_num,rfl,hEnd,k0,ax hB.o.drew⟩
          case measure=>simp[intOf];omega
      ·obtain rfl:k=a.atoms.length:=by omega
       (go_wp2_with fail);go_ret;exact ⟨ret_str (by rw[E1.o,hX.o]),hB.o⟩
theorem c_FormatAssertion {lo hi:Nat} (v:Value) (a:Asn) (w:World) (h:AsnV w lo hi v a):Calls Tryz.prog 207 #[v] w fun e w'=>e=.returned (sv (fmtA a))∧Below w.heap.size w w':=by
 obtain ⟨A1,c1,A2,c2,rfl,h1,h2⟩:=h;have HV:aJ (AsnV w lo hi (.agg #[.slice A1 a.facts.length c1,.slice A2 a.atoms.length c2]) a):=ax ⟨_,_,_,_,rfl,h1,h2⟩;clear h1 h2;(go_enter Tryz.func207,Tryz.ntmps207);have k0:Blk (w.alloc (.cells #[.slice A1 a.facts.length c1,.slice A2 a.atoms.length c2] 36)) w.heap.size 36 #[.slice A1 a.facts.length c1,.slice A2 a.atoms.length c2]:=blks;(go_wp2_with fail);refine (c_spec_AssertionValid _ a _ (HV.o.bz bel)).mono ?_;rintro e w1 ⟨rfl,hB1⟩;have k1:=k0.nz hB1;have hB:Below w.heap.size w w1:=bgo (w:=w) bel hB1;(replace qk1:=k1.z);cases hv:a.valid
 ·(go_wp2_with fail);go_ret;exact ⟨ret_str (by unfold fmtA;rw[hv];rfl),hB⟩
 ·(go_wp2_with fail);refine (c_l3Text _ a _ (HV.o.bz hB)).mono ?_;rintro e w2 ⟨rfl,hB2⟩;(go_wp2_with fail);go_ret;exact ⟨ret_str (by unfold fmtA;rw[hv];rfl),bgo hB hB2⟩
def nextB (ws:List Bs) (k:Nat):Bool:=decide (ws[k+1]? = some [124])
theorem readA_next {ws:List Bs} {k:Nat} {fs:List Fct} {xs:List Atm} {sb:Bool} {p:List Fct×List Atm} (hk:k<ws.length) (h:stepA (fs,xs,sb) ws[k]=some p):readA (ws.drop k) (fs,xs,sb)=readA (ws.drop (k+2)) (p.1,p.2,sb || nextB ws k):=by
 rw[List.drop_eq_getElem_cons hk];rcases Nat.lt_or_ge (k+1) ws.length with h1|h1
 ·rw[List.drop_eq_getElem_cons h1,readA,h];simp[nextB,List.getElem?_eq_getElem h1]
 ·rw[List.drop_eq_nil_of_le (show ws.length≤k+1 from h1),List.drop_eq_nil_of_le (show ws.length≤k+2 by omega),readA,readA,h];rfl
theorem readA_fail {ws:List Bs} {k:Nat} {st:List Fct×List Atm×Bool} (hk:k<ws.length) (h:stepA st ws[k]=none):readA (ws.drop k) st=none:=by
 rw[List.drop_eq_getElem_cons hk];rcases Nat.lt_or_ge (k+1) ws.length with h1|h1
 ·rw[List.drop_eq_getElem_cons h1,readA,h]
 ·rw[List.drop_eq_nil_of_le (show ws.length≤k+1 from h1),readA,h];rfl
theorem readA_end {ws:List Bs} {k:Nat} {fs:List Fct} {xs:List Atm} {sb:Bool} (hk:ws.length≤k):readA (ws.drop k) (fs,xs,sb)=some ⟨fs,xs⟩:=by
 rw[List.drop_eq_nil_of_le hk,readA]
theorem stepA_f {x:Bs} {f:Fct} {fs:List Fct} {xs:List Atm} (h:parseF x=some f):stepA (fs,xs,false) x=some (fs++[f],xs):=by
 unfold stepA;simp[h]
theorem stepA_x {x:Bs} {y:Atm} {fs:List Fct} {xs:List Atm} (h:parseX x=some y):stepA (fs,xs,true) x=some (fs,xs++[y]):=by
 unfold stepA;simp[h]
theorem stepA_f0 {x:Bs} {fs:List Fct} {xs:List Atm} (h:parseF x=none):stepA (fs,xs,false) x=if x≠[116,114,117,101]∧x≠[101,109,112] then none else some (fs,xs):=by
 unfold stepA;simp[h]
theorem stepA_x0 {x:Bs} {fs:List Fct} {xs:List Atm} (h:parseX x=none):stepA (fs,xs,true) x=if x≠[116,114,117,101]∧x≠[101,109,112] then none else some (fs,xs):=by
 unfold stepA;simp[h]
theorem parseA_none1 {l:Bs} (h:readA (wordsL l) ([],[],false)=none):parseA l=none:=by
 unfold parseA;rw[h];split<;>rfl
theorem parseA_some {l:Bs} {a:Asn} (hl:l.length≤300) (h:readA (wordsL l) ([],[],false)=some a):parseA l=if fmtA a=l∧l≠[] then some a else none:=by
 unfold parseA;rw[if_neg (by omega),h]
theorem c_ParseAssertion (l:Bs) (w:World) (hl:l.length≤1049000):Calls Tryz.prog 148 #[sv l] w fun e w'=>∃ r,e=.returned (.tuple #[r,.bool (parseA l).isSome])∧AsnO w' w.heap.size r ((parseA l).getD ⟨[],[]⟩)∧Below w.heap.size w w':=by
 (go_enter Tryz.func148,Tryz.ntmps148);have k0:Blk (w.alloc (.cells #[.slice none 0 0,.slice none 0 0] 36)) w.heap.size 36 #[.slice none 0 0,.slice none 0 0]:=blks;(go_wp2_with fail);refine (c_l18Words l _ hl).mono ?_;rintro e w1 ⟨r1,rfl,o1,hB1⟩;obtain ⟨A1,d1,rfl,v1⟩:=o1.reads;replace k0:=k0.nz hB1;have z1:w.heap.size+1≤w1.heap.size:=by simpa using hB1.size
 have HW1:aJ (Below w.heap.size w w1):=ax (bgo (w:=w) bel hB1);have HP0:=ax (fun h=>parseA_none1 (l:=l) h);have HP1:=ax (fun a (h:l.length≤300)=>parseA_some (l:=l) (a:=a) h);have hwl:=wordsL_len l;obtain ⟨ws,hws⟩:∃ ws,ws=wordsL l:=⟨_,rfl⟩;rw[←hws] at v1 HP0 HP1 hwl ⊢;have HV:=ax v1;clear v1 o1 hB1 hws;(replace qk0:=k0.z);by_cases hl3':¬l.length≤300
 ·have hli:(300:Int)<(l.length:Int):=by omega
  have hN:=ax (show parseA l=none by unfold parseA;rw[if_pos (by omega)]);(go_wp2_with fail);have kz:=(((k0.set_ 0 (.slice none 0 0)).set_ 1 (.slice none 0 0)).alloc (.cells #[.slice none 0 0,.slice none 0 0] 36)).cell;refine bodyPost_ret (v:=.tuple #[.agg #[.slice none 0 0,.slice none 0 0],.bool false]) (by simp[results,Tryz.results148,go_sem,kz]) rfl ⟨_,by rw[hN.o];rfl,?_,?_⟩
  ·rw[hN.o];exact ⟨_,_,rfl,FactsO.nil _ _,AtomsO.nil _ _⟩
  ·have hb:=HW1.o;exact bel
 have hl3:l.length≤300:=by omega
 clear hl3';have hli:¬(300:Int)<(l.length:Int):=by omega
 go_wp2_with fail
 go_loopw [6,7] (fun s i wr=>∃ (k:Nat) (fs:List Fct) (xs:List Atm) (AF:Option Addr) (cF:Nat) (AA:Option Addr) (cA:Nat) (sb:Bool),s=.bool sb∧i=.int .i64 k∧k≤ws.length+1∧fs.length≤k∧xs.length≤k∧
  FactsO wr (w1.heap.size+1) (.slice AF fs.length cF) fs∧AtomsO wr (w1.heap.size+1) (.slice AA xs.length cA) xs∧aJ (readA (ws.drop k) (fs,xs,sb)=readA ws ([],[],false))∧
  Blk wr w1.heap.size 36 #[.slice AF fs.length cF,.slice AA xs.length cA]∧Blk wr w.heap.size 36 #[.slice none 0 0,.slice none 0 0]∧aJ (Below w1.heap.size w1 wr)) (fun _ i _=>ws.length+2 - (intOf i).toNat)
 case atStart=>exact ⟨0,[],[],none,0,none,0,false,rfl,rfl,by omega,Nat.le_refl _,Nat.le_refl _,FactsO.nil _ _,AtomsO.nil _ _,ax (by rw[List.drop_zero]),Blk.newE rfl,k0.alloc _,ax (bbox (Below.refl _ _) _)⟩
 case round=>
  clear k0 qk0;obtain ⟨k,fs,xs,AF,cF,AA,cA,sb,rfl,rfl,hk,hfl,hxl,hF,hX,hR,k1,k0,HB⟩:=hrel;have HF:=ax hF;have HX:=ax hX;have hz:w1.heap.size+1≤wr.heap.size:=by have:=k1.lt;omega
  clear hF hX;(replace qk0:=k0.z;replace qk1:=k1.z);by_cases hlt:k<ws.length
  ·have hki:(k:Int)<(ws.length:Int):=by omega
   obtain ⟨bw,ow,rfl,hc⟩:=(HV.o.bz HB.o).at hlt;have hbl:=block_lt_of_cell hc;have HS:=ax (fun p=>readA_next (p:=p) (fs:=fs) (xs:=xs) (sb:=sb) hlt);have HN:=ax (fun st=>readA_fail (st:=st) hlt);obtain ⟨x,hxx⟩:∃ x,x=ws[k]:=⟨_,rfl⟩;rw[←hxx] at hc HS HN;clear hxx;(go_wp2_with fail);refine (c_ParseFact x _).mono ?_;rintro e w2 ⟨rfl,hB2⟩;have HB2:=ax (bgo HB.o hB2);have HF2:=ax (HF.o.bz hB2);have HX2:=ax (HX.o.bz hB2);have hc2:=(bcell hB2).1 bw (ow+k) hbl;rw[hc] at hc2;have hbl2:=block_lt_of_cell hc2;replace k0:=k0.nz hB2;replace k1:=k1.nz hB2;have hz2:=Nat.le_trans hz hB2.size;clear hB2 HF HX hc qk0 qk1 hz hbl;(replace qk0:=k0.z;replace qk1:=k1.z);obtain ⟨fe,fa,fb,hfv⟩:∃ fe fa fb,((parseF x).getD fct0)=⟨fe,fa,fb⟩:=⟨_,_,_,rfl⟩;have hfv2:((parseF x).getD fct0).val=.agg #[.bool fe,.int .i64 fa,.int .i64 fb]:=by rw[hfv]
   rw[hfv2];obtain ⟨pf,hpf⟩:∃ pf,pf=(parseF x).isSome:=⟨_,rfl⟩;rw[←hpf];replace hfv:=ax hfv;replace hpf:=ax hpf;clear hfv2;have k2:Blk (w2.alloc (.cells #[.bool fe,.int .i64 fa,.int .i64 fb] tF)) w2.heap.size tF #[.bool fe,.int .i64 fa,.int .i64 fb]:=blks;(go_wp2_with fail);refine (c_ParseAtom x _).mono ?_;rintro e w3 ⟨⟨yk,ya,yb⟩,rfl,hyz,hB3⟩;have z3:w2.heap.size+1≤w3.heap.size:=by simpa using hB3.size
   have hB23:Below w2.heap.size w2 w3:=bgo (w:=w2) bel hB3;have HB3:=ax (bgo HB2.o hB23);have HF3:=ax (HF2.o.bz hB23);have HX3:=ax (HX2.o.bz hB23);have hc3:=(bcell hB23).1 bw (ow+k) hbl2;rw[hc2] at hc3;have hbl3:=block_lt_of_cell hc3;replace k0:=k0.nz hB23;replace k1:=k1.nz hB23;replace k2:=k2.nz hB3;have hz3:w1.heap.size+1≤w3.heap.size:=by omega
   clear hB23 hB3 HF2 HX2 hc2 qk0 qk1 HB2 hz2 hbl2;(replace qk0:=k0.z;replace qk1:=k1.z;replace qk2:=k2.z);obtain ⟨px,hpx⟩:∃ px,px=(parseX x).isSome:=⟨_,rfl⟩;rw[←hpx];replace hpx:=ax hpx;replace hyz:=ax hyz;simp only
   have hbw:bw<w1.heap.size:=by
    obtain ⟨b',o',e,-,h2,-⟩:=HV.o.raw.2 (by omega);injection e with e;injection e with e1;omega
   have hd4:aJ (∀ (h:k+1<ws.length) W,Below w1.heap.size w1 W→W.cell? ⟨bw,ow+(k+1),none⟩=some (sv ws[k+1])):=ax fun h W hW=>by
    obtain ⟨b',o',e,hd⟩:=StrsV.at (Rd.keepB HV.o hW (Nat.le_refl _)) h;injection e with e;injection e with e1 e2;subst e1 e2;exact hd
   cases sb with
   | false=>
    cases hq:parseF x with
    | some f=>
     have hpF:aJ (parseF x=some ⟨fe,fa,fb⟩):=ax (by have h:=hfv.o;rw[hq] at h ⊢;exact congrArg some h);have hpt:pf=true:=by rw[hpf.o,hq];rfl
     subst hpt;clear hq;by_cases hn1:k+1<ws.length
     ·have hni:(k:Int)+1<(ws.length:Int):=by omega
      have hdc:=ax (fun W=>hd4.o hn1 W);obtain ⟨y,hyy⟩:∃ y,y=ws[k+1]:=⟨_,rfl⟩;have hnb:nextB ws k=decide (y=[124]):=by unfold nextB;rw[List.getElem?_eq_getElem hn1,←hyy,decide_eq_decide];simp
      rw[←hyy] at hdc;clear hyy;by_cases hy:y=[124]
      ·subst hy;have hnB:aJ (nextB ws k=true):=ax (by rw[hnb];rfl);clear hnb;(go_wp2_with (at_builtin;refine appFL rfl _ _ rfl (base:=w1.heap.size+1) (xs:=fs) rfl (HF3.o.bz bel) rfl (FactsV.one (f:=⟨fe,fa,fb⟩) (Blk.newE (by simp))) (by simp;omega) (by simp;omega) ?_;intro A' c' w4 of4 hg4 hB4;have z0:=Blk.grownO (g:=w.heap.size) (hg:=hg4) blks (FactsO.bz (w:=w3) HF3.o bel).1 (by decide);have z1b:=Blk.grownO (g:=w1.heap.size) (hg:=hg4) blks (FactsO.bz (w:=w3) HF3.o bel).1 (by decide);have z1c:=z1b.cell;have z1f:=z1b.frozen;have ox4:=AtomsO.grownF (AtomsO.bz (w:=w3) HX3.o bel) (FactsO.bz (w:=w3) HF3.o bel) hg4;have hB34:Below (w1.heap.size+1) w3 w4:=(((Below.refl _ w3).alloc hz3 _).alloc (by simp;omega) _).trans hB4;have hl4:=z1b.lt;clear hg4 hB4;have hdy:=hdc.o w4 (HB3.o.trans (hB34.mono (Nat.le_succ _)))))
       go_round
       case rel=>exact ⟨k+2,fs++[⟨fe,fa,fb⟩],xs,A',c',AA,cA,true,rfl,by go_num,by omega,by simp;omega,by omega,(of4.setT z1b (by decide) 0 _),(ox4.setT z1b (by decide) 0 _),ax (((HS.o _ (stepA_f hpF.o)).symm.trans hR.o |> fun h=>by rw[hnB.o] at h;exact h)),(by have h:=z1b.set_ 0 (.slice A' (fs.length+1) c');simpa using h),z0.far (by simp only[];omega) _,ax ((HB3.o.trans (hB34.mono (Nat.le_succ _))).setCell (Nat.le_refl _) _)⟩
       case measure=>simp[intOf];omega
      ·have hnB:aJ (nextB ws k=false):=ax (by rw[hnb];simpa using hy);have hyb:(y == [124])=false:=by rw[bytes_eq];simpa using hy
       clear hnb hy;(go_wp2_with (at_builtin;refine appFL rfl _ _ rfl (base:=w1.heap.size+1) (xs:=fs) rfl (HF3.o.bz bel) rfl (FactsV.one (f:=⟨fe,fa,fb⟩) (Blk.newE (by simp))) (by simp;omega) (by simp;omega) ?_;intro A' c' w4 of4 hg4 hB4;have z0:=Blk.grownO (g:=w.heap.size) (hg:=hg4) blks (FactsO.bz (w:=w3) HF3.o bel).1 (by decide);have z1b:=Blk.grownO (g:=w1.heap.size) (hg:=hg4) blks (FactsO.bz (w:=w3) HF3.o bel).1 (by decide);have z1c:=z1b.cell;have z1f:=z1b.frozen;have ox4:=AtomsO.grownF (AtomsO.bz (w:=w3) HX3.o bel) (FactsO.bz (w:=w3) HF3.o bel) hg4;have hB34:Below (w1.heap.size+1) w3 w4:=(((Below.refl _ w3).alloc hz3 _).alloc (by simp;omega) _).trans hB4;have hl4:=z1b.lt;clear hg4 hB4;have hdy:=hdc.o w4 (HB3.o.trans (hB34.mono (Nat.le_succ _)))))
       go_round
       case rel=>exact ⟨k+2,fs++[⟨fe,fa,fb⟩],xs,A',c',AA,cA,false,rfl,by go_num,by omega,by simp;omega,by omega,(of4.setT z1b (by decide) 0 _),(ox4.setT z1b (by decide) 0 _),ax (((HS.o _ (stepA_f hpF.o)).symm.trans hR.o |> fun h=>by rw[hnB.o] at h;exact h)),(by have h:=z1b.set_ 0 (.slice A' (fs.length+1) c');simpa using h),z0.far (by simp only[];omega) _,ax ((HB3.o.trans (hB34.mono (Nat.le_succ _))).setCell (Nat.le_refl _) _)⟩
       case measure=>simp[intOf];omega
     ·have hni:¬(k:Int)+1<(ws.length:Int):=by omega
      have hnB:aJ (nextB ws k=false):=ax (by unfold nextB;rw[List.getElem?_eq_none (by omega)];rfl);(go_wp2_with (at_builtin;refine appFL rfl _ _ rfl (base:=w1.heap.size+1) (xs:=fs) rfl (HF3.o.bz bel) rfl (FactsV.one (f:=⟨fe,fa,fb⟩) (Blk.newE (by simp))) (by simp;omega) (by simp;omega) ?_;intro A' c' w4 of4 hg4 hB4;have z0:=Blk.grownO (g:=w.heap.size) (hg:=hg4) blks (FactsO.bz (w:=w3) HF3.o bel).1 (by decide);have z1b:=Blk.grownO (g:=w1.heap.size) (hg:=hg4) blks (FactsO.bz (w:=w3) HF3.o bel).1 (by decide);have z1c:=z1b.cell;have z1f:=z1b.frozen;have ox4:=AtomsO.grownF (AtomsO.bz (w:=w3) HX3.o bel) (FactsO.bz (w:=w3) HF3.o bel) hg4;have hB34:Below (w1.heap.size+1) w3 w4:=(((Below.refl _ w3).alloc hz3 _).alloc (by simp;omega) _).trans hB4;have hl4:=z1b.lt;clear hg4 hB4))
      go_round
      case rel=>exact ⟨k+2,fs++[⟨fe,fa,fb⟩],xs,A',c',AA,cA,false,rfl,by go_num,by omega,by simp;omega,by omega,(of4.setT z1b (by decide) 0 _),(ox4.setT z1b (by decide) 0 _),ax (((HS.o _ (stepA_f hpF.o)).symm.trans hR.o |> fun h=>by rw[hnB.o] at h;exact h)),(by have h:=z1b.set_ 0 (.slice A' (fs.length+1) c');simpa using h),z0.far (by simp only[];omega) _,ax ((HB3.o.trans (hB34.mono (Nat.le_succ _))).setCell (Nat.le_refl _) _)⟩
      case measure=>simp[intOf];omega
    | none=>
     have hpO:aJ (parseF x=none):=ax hq;have hpt:pf=false:=by rw[hpf.o,hq];rfl
     subst hpt;clear hq;by_cases hx1:x=[116,114,117,101]
     ·subst hx1;have hst:aJ (stepA (fs,xs,false) [116,114,117,101]=some (fs,xs)):=ax (by rw[stepA_f0 hpO.o];rfl);clear hpO;by_cases hn1:k+1<ws.length
      ·have hni:(k:Int)+1<(ws.length:Int):=by omega
       have hdc:=ax (fun W=>hd4.o hn1 W);obtain ⟨y,hyy⟩:∃ y,y=ws[k+1]:=⟨_,rfl⟩;have hnb:nextB ws k=decide (y=[124]):=by unfold nextB;rw[List.getElem?_eq_getElem hn1,←hyy,decide_eq_decide];simp
       rw[←hyy] at hdc;clear hyy;by_cases hy:y=[124]
       ·subst hy;have hnB:aJ (nextB ws k=true):=ax (by rw[hnb];rfl);clear hnb;have hdy:=hdc.o w3 HB3.o;(go_wp2_with fail)
        go_round
        case rel=>exact ⟨k+2,fs,xs,AF,cF,AA,cA,true,rfl,by go_num,by omega,by omega,by omega,HF3.o.bz bel,HX3.o.bz bel,ax (((HS.o _ hst.o).symm.trans hR.o |> fun h=>by rw[hnB.o] at h;exact h)),k1.alloc _,k0.alloc _,ax (HB3.o.alloc (by omega) _)⟩
        case measure=>simp[intOf];omega
       ·have hnB:aJ (nextB ws k=false):=ax (by rw[hnb];simpa using hy);have hyb:(y == [124])=false:=by rw[bytes_eq];simpa using hy
        clear hnb hy;have hdy:=hdc.o w3 HB3.o;(go_wp2_with fail)
        go_round
        case rel=>exact ⟨k+2,fs,xs,AF,cF,AA,cA,false,rfl,by go_num,by omega,by omega,by omega,HF3.o.bz bel,HX3.o.bz bel,ax (((HS.o _ hst.o).symm.trans hR.o |> fun h=>by rw[hnB.o] at h;exact h)),k1.alloc _,k0.alloc _,ax (HB3.o.alloc (by omega) _)⟩
        case measure=>simp[intOf];omega
      ·have hni:¬(k:Int)+1<(ws.length:Int):=by omega
       have hnB:aJ (nextB ws k=false):=ax (by unfold nextB;rw[List.getElem?_eq_none (by omega)];rfl);(go_wp2_with fail)
       go_round
       case rel=>exact ⟨k+2,fs,xs,AF,cF,AA,cA,false,rfl,by go_num,by omega,by omega,by omega,HF3.o.bz bel,HX3.o.bz bel,ax (((HS.o _ hst.o).symm.trans hR.o |> fun h=>by rw[hnB.o] at h;exact h)),k1.alloc _,k0.alloc _,ax (HB3.o.alloc (by omega) _)⟩
       case measure=>simp[intOf];omega
     ·have hx1b:(x == [116,114,117,101])=false:=by rw[bytes_eq];simpa using hx1
      by_cases hx2:x=[101,109,112]
      ·subst hx2;have hst:aJ (stepA (fs,xs,false) [101,109,112]=some (fs,xs)):=ax (by rw[stepA_f0 hpO.o];rfl);clear hpO hx1 hx1b;by_cases hn1:k+1<ws.length
       ·have hni:(k:Int)+1<(ws.length:Int):=by omega
        have hdc:=ax (fun W=>hd4.o hn1 W);obtain ⟨y,hyy⟩:∃ y,y=ws[k+1]:=⟨_,rfl⟩;have hnb:nextB ws k=decide (y=[124]):=by unfold nextB;rw[List.getElem?_eq_getElem hn1,←hyy,decide_eq_decide];simp
        rw[←hyy] at hdc;clear hyy;by_cases hy:y=[124]
        ·subst hy;have hnB:aJ (nextB ws k=true):=ax (by rw[hnb];rfl);clear hnb;have hdy:=hdc.o w3 HB3.o;(go_wp2_with fail)
         go_round
         case rel=>exact ⟨k+2,fs,xs,AF,cF,AA,cA,true,rfl,by go_num,by omega,by omega,by omega,HF3.o.bz bel,HX3.o.bz bel,ax (((HS.o _ hst.o).symm.trans hR.o |> fun h=>by rw[hnB.o] at h;exact h)),k1.alloc _,k0.alloc _,ax (HB3.o.alloc (by omega) _)⟩
         case measure=>simp[intOf];omega
        ·have hnB:aJ (nextB ws k=false):=ax (by rw[hnb];simpa using hy);have hyb:(y == [124])=false:=by rw[bytes_eq];simpa using hy
         clear hnb hy;have hdy:=hdc.o w3 HB3.o;(go_wp2_with fail)
         go_round
         case rel=>exact ⟨k+2,fs,xs,AF,cF,AA,cA,false,rfl,by go_num,by omega,by omega,by omega,HF3.o.bz bel,HX3.o.bz bel,ax (((HS.o _ hst.o).symm.trans hR.o |> fun h=>by rw[hnB.o] at h;exact h)),k1.alloc _,k0.alloc _,ax (HB3.o.alloc (by omega) _)⟩
         case measure=>simp[intOf];omega
       ·have hni:¬(k:Int)+1<(ws.length:Int):=by omega
        have hnB:aJ (nextB ws k=false):=ax (by unfold nextB;rw[List.getElem?_eq_none (by omega)];rfl);(go_wp2_with fail)
        go_round
        case rel=>exact ⟨k+2,fs,xs,AF,cF,AA,cA,false,rfl,by go_num,by omega,by omega,by omega,HF3.o.bz bel,HX3.o.bz bel,ax (((HS.o _ hst.o).symm.trans hR.o |> fun h=>by rw[hnB.o] at h;exact h)),k1.alloc _,k0.alloc _,ax (HB3.o.alloc (by omega) _)⟩
        case measure=>simp[intOf];omega
      ·have hx2b:(x == [101,109,112])=false:=by rw[bytes_eq];simpa using hx2
       have hst:aJ (stepA (fs,xs,false) x=none):=ax (by rw[stepA_f0 hpO.o,if_pos ⟨hx1,hx2⟩]);clear hpO hx1 hx2;have hNo:aJ (parseA l=none):=ax (HP0.o (hR.o.symm.trans (HN.o _ hst.o)));(go_wp2_with fail);have kz:=(((k0.set_ 0 (.slice none 0 0)).set_ 1 (.slice none 0 0)).alloc (.cells #[.int .i64 yk,.int .i64 ya,.int .i64 yb] tA)).cell;refine bodyPost_ret (v:=.tuple #[.agg #[.slice none 0 0,.slice none 0 0],.bool false]) (by simp[results,Tryz.results148,go_sem,kz]) rfl ⟨_,by rw[hNo.o];rfl,?_,?_⟩
       ·rw[hNo.o];exact ⟨_,_,rfl,FactsO.nil _ _,AtomsO.nil _ _⟩
       ·have hb:=HW1.o.trans (HB3.o.mono (by omega:w.heap.size≤w1.heap.size));exact bel
   | true=>
    cases hq:parseX x with
    | some f=>
     have hpX:aJ (parseX x=some ⟨yk,ya,yb⟩):=ax (by rw[hq];exact congrArg some (hyz.o f hq).symm);have hpt:px=true:=by rw[hpx.o,hq];rfl
     subst hpt;clear hq;(go_wp2_with (at_builtin;refine appAL rfl _ _ rfl (base:=w1.heap.size+1) (xs:=xs) rfl (HX3.o.bz bel) rfl (AtomsV.one (f:=⟨yk,ya,yb⟩) (Blk.newE (by simp))) (by simp;omega) (by simp;omega) ?_;intro A' c' w4 of4 hg4 hB4;have z0:=Blk.grownO (g:=w.heap.size) (hg:=hg4) blks (AtomsO.bz (w:=w3) HX3.o bel).1 (by decide);have z1b:=Blk.grownO (g:=w1.heap.size) (hg:=hg4) blks (AtomsO.bz (w:=w3) HX3.o bel).1 (by decide);have z1c:=z1b.cell;have z1f:=z1b.frozen;have ox4:=FactsO.grownA (FactsO.bz (w:=w3) HF3.o bel) (AtomsO.bz (w:=w3) HX3.o bel) hg4;have hB34:Below (w1.heap.size+1) w3 w4:=(((Below.refl _ w3).alloc hz3 _).alloc (by simp;omega) _).trans hB4;have hl4:=z1b.lt;clear hg4 hB4))
     go_round
     case rel=>exact ⟨k+2,fs,xs++[⟨yk,ya,yb⟩],AF,cF,A',c',true,rfl,by go_num,by omega,by omega,by simp;omega,(ox4.setT z1b (by decide) 1 _),(of4.setT z1b (by decide) 1 _),ax ((HS.o _ (stepA_x hpX.o)).symm.trans hR.o),(by have h:=z1b.set_ 1 (.slice A' (xs.length+1) c');simpa using h),z0.far (by simp only[];omega) _,ax ((HB3.o.trans (hB34.mono (Nat.le_succ _))).setCell (Nat.le_refl _) _)⟩
     case measure=>simp[intOf];omega
    | none=>
     have hpO:aJ (parseX x=none):=ax hq;have hpt:px=false:=by rw[hpx.o,hq];rfl
     subst hpt;clear hq;by_cases hx1:x=[116,114,117,101]
     ·subst hx1;have hst:aJ (stepA (fs,xs,true) [116,114,117,101]=some (fs,xs)):=ax (by rw[stepA_x0 hpO.o];rfl);clear hpO;(go_wp2_with fail)
      go_round
      case rel=>exact ⟨k+2,fs,xs,AF,cF,AA,cA,true,rfl,by go_num,by omega,by omega,by omega,HF3.o.bz bel,HX3.o.bz bel,ax ((HS.o _ hst.o).symm.trans hR.o),k1.alloc _,k0.alloc _,ax (HB3.o.alloc (by omega) _)⟩
      case measure=>simp[intOf];omega
     ·have hx1b:(x == [116,114,117,101])=false:=by rw[bytes_eq];simpa using hx1
      by_cases hx2:x=[101,109,112]
      ·subst hx2;have hst:aJ (stepA (fs,xs,true) [101,109,112]=some (fs,xs)):=ax (by rw[stepA_x0 hpO.o];rfl);clear hpO hx1 hx1b;(go_wp2_with fail)
       go_round
       case rel=>exact ⟨k+2,fs,xs,AF,cF,AA,cA,true,rfl,by go_num,by omega,by omega,by omega,HF3.o.bz bel,HX3.o.bz bel,ax ((HS.o _ hst.o).symm.trans hR.o),k1.alloc _,k0.alloc _,ax (HB3.o.alloc (by omega) _)⟩
       case measure=>simp[intOf];omega
      ·have hx2b:(x == [101,109,112])=false:=by rw[bytes_eq];simpa using hx2
       have hst:aJ (stepA (fs,xs,true) x=none):=ax (by rw[stepA_x0 hpO.o,if_pos ⟨hx1,hx2⟩]);clear hpO hx1 hx2;have hNo:aJ (parseA l=none):=ax (HP0.o (hR.o.symm.trans (HN.o _ hst.o)));(go_wp2_with fail);have kz:=(((k0.set_ 0 (.slice none 0 0)).set_ 1 (.slice none 0 0)).alloc (.cells #[.int .i64 yk,.int .i64 ya,.int .i64 yb] tA)).cell;refine bodyPost_ret (v:=.tuple #[.agg #[.slice none 0 0,.slice none 0 0],.bool false]) (by simp[results,Tryz.results148,go_sem,kz]) rfl ⟨_,by rw[hNo.o];rfl,?_,?_⟩
       ·rw[hNo.o];exact ⟨_,_,rfl,FactsO.nil _ _,AtomsO.nil _ _⟩
       ·have hb:=HW1.o.trans (HB3.o.mono (by omega:w.heap.size≤w1.heap.size));exact bel
  ·have hki:¬(k:Int)<(ws.length:Int):=by omega
   have hE:=ax (HP1.o ⟨fs,xs⟩ hl3 (hR.o.symm.trans (readA_end (by omega))));have HA:aJ (AsnO wr (w1.heap.size+1) (.agg #[.slice AF fs.length cF,.slice AA xs.length cA]) ⟨fs,xs⟩):=ax ⟨_,_,rfl,HF.o,HX.o⟩;(go_wp2_with fail);refine (c_FormatAssertion _ ⟨fs,xs⟩ _ HA.o.reads).mono ?_;rintro e w5 ⟨rfl,hB5⟩;have HB5:=ax (bgo HB.o hB5);replace k0:=k0.nz hB5;replace k1:=k1.nz hB5;have HA5:=ax (HA.o.bz hB5);clear hB5 HA qk0 qk1;(replace qk0:=k0.z;replace qk1:=k1.z);obtain ⟨T,hT⟩:∃ T,T=fmtA ⟨fs,xs⟩:=⟨_,rfl⟩;rw[←hT] at hE ⊢;clear hT;by_cases ht:T=l
   ·subst ht;by_cases he:T=[]
    ·subst he;have hNo:aJ (parseA []=none):=ax (by rw[hE.o];rfl);clear hE;(go_wp2_with fail);have kz:=((k0.set_ 0 (.slice none 0 0)).set_ 1 (.slice none 0 0)).cell;refine bodyPost_ret (v:=.tuple #[.agg #[.slice none 0 0,.slice none 0 0],.bool false]) (by simp[results,Tryz.results148,go_sem,kz]) rfl ⟨_,by rw[hNo.o];rfl,?_,?_⟩
     ·rw[hNo.o];exact ⟨_,_,rfl,FactsO.nil _ _,AtomsO.nil _ _⟩
     ·have hb:=HW1.o.trans (HB5.o.mono (by omega:w.heap.size≤w1.heap.size));exact bel
    ·have heb:(T == [])=false:=by rw[bytes_eq];simpa using he
     have hYes:aJ (parseA T=some ⟨fs,xs⟩):=ax (by rw[hE.o,if_pos ⟨rfl,he⟩]);clear hE he;(go_wp2_with fail);have kz:=((k0.set_ 0 (.slice AF fs.length cF)).set_ 1 (.slice AA xs.length cA)).cell;refine bodyPost_ret (v:=.tuple #[.agg #[.slice AF fs.length cF,.slice AA xs.length cA],.bool true]) (by simp[results,Tryz.results148,go_sem,kz]) rfl ⟨_,by rw[hYes.o];rfl,?_,?_⟩
     ·rw[hYes.o];obtain ⟨fv,av,e,h1,h2⟩:=HA5.o;injection e with e;injection e with e;injection e with e1 e2;injection e2 with e2;subst e1 e2;exact ⟨_,_,rfl,((h1.setT k0 (by decide) 0 _).setT (k0.set_ _ _) (by decide) 1 _).lower (by omega),((h2.setT k0 (by decide) 0 _).setT (k0.set_ _ _) (by decide) 1 _).lower (by omega)⟩
     ·have hb:=HW1.o.trans (HB5.o.mono (by omega:w.heap.size≤w1.heap.size));exact bel
   ·have htb:(T == l)=false:=by rw[bytes_eq];simpa using ht
    have hNo:aJ (parseA l=none):=ax (by rw[hE.o,if_neg (fun h=>ht h.1)]);clear hE ht;(go_wp2_with fail);have kz:=((k0.set_ 0 (.slice none 0 0)).set_ 1 (.slice none 0 0)).cell;refine bodyPost_ret (v:=.tuple #[.agg #[.slice none 0 0,.slice none 0 0],.bool false]) (by simp[results,Tryz.results148,go_sem,kz]) rfl ⟨_,by rw[hNo.o];rfl,?_,?_⟩
    ·rw[hNo.o];exact ⟨_,_,rfl,FactsO.nil _ _,AtomsO.nil _ _⟩
    ·have hb:=HW1.o.trans (HB5.o.mono (by omega:w.heap.size≤w1.heap.size));exact bel
end
section
open Go Go.RowKit Go.Proofs
attribute [local go_sem ↓] Go.wp_at_zero Go.wp_at_succ
def strOfB:Value→Bs
 | .string s=>s.data.toList
 | _=>[]
theorem c_ofB {lo hi:Nat} (g p:Nat) (A:Option Addr) (c:Nat) (xs:List Bs) (w:World) (h:Rdr w g p) (hp:p≤1000000) (hx:StrsV w lo hi A xs) (hg:g<lo∨hi≤g) (hn:0<xs.length) :
  Calls Tryz.prog 147 #[.pointer (some ⟨g,0,none⟩),.slice A xs.length c] w fun e w'=>∃ m∈xs,e=.returned (sv m)∧Rdr w' g (p+1)∧Fr g w w':=by
 have H:=ax h;have HX:=ax hx;clear h hx;(go_enter Tryz.func147,Tryz.ntmps147);(go_wp2_with fail);refine (c_pick g p _ _ H.o hp).mono ?_;rintro e w1 ⟨m,rfl,hm,hR,hF⟩;have hlt:m<xs.length:=by omega
 obtain ⟨b,o,rfl,c0⟩:=StrsV.at (Rd.fr HX.o hF hg) hlt;have hmi:(m:Int)<(xs.length:Int):=by omega
 have HRF:=ax (And.intro hR hF);have hmem:=ax (List.getElem_mem hlt);obtain ⟨x,hxx⟩:∃ x,x=xs[m]:=⟨_,rfl⟩;rw[←hxx] at c0 hmem;clear hm hR hF hxx;(go_wp2_with fail);go_ret;exact ⟨x,hmem.o,rfl,HRF.o.1,HRF.o.2⟩
theorem c_ofLB (g p:Nat) (cs:Array Value) (x n:Nat) (w:World) (h:Rdr w g p) (hp:p≤1000000) (hk:Blk w x tS cs) (hcs:cs=(encS (cs.toList.map strOfB)).toArray) (hg:g<x) (hn:n=cs.size) (h0:0<cs.size) (hl:∀ u∈cs.toList.map strOfB,1≤u.length∧u.length≤4000) (hl1:cs.size≤100) :
  Calls Tryz.prog 147 #[.pointer (some ⟨g,0,none⟩),.slice (some ⟨x,0,none⟩) n n] w fun e w'=>∃ m:Bs,(1≤m.length∧m.length≤4000)∧e=.returned (sv m)∧Rdr w' g (p+1)∧Fr g w w':=by
 have e:n=(cs.toList.map strOfB).length:=by rw[hn];simp
 rw[e];refine (c_ofB (lo:=x) (hi:=x+1) g p _ _ (cs.toList.map strOfB) w h hp ⟨⟨by simp[encS],fun _=>⟨x,0,rfl,Nat.le_refl _,Nat.lt_succ_self _,fun j u hu=>?_⟩⟩,by unfold Lim;simp;omega⟩ (Or.inl hg) (by simpa using h0)).mono ?_
 ·rw[Nat.zero_add,hk.cell,hcs];simpa using hu
 ·rintro e w' ⟨m,hm,rfl,h1,h2⟩;exact ⟨m,hl m hm,rfl,h1,h2⟩
theorem c_l10Pre (g p:Nat) (w:World) (h:Rdr w g p) (hp:p≤900000) :
  Calls Tryz.prog 90 #[.pointer (some ⟨g,0,none⟩)] w fun e w'=>∃ r a q,e=.returned r∧AsnO w' w.heap.size r a∧(a.facts.length≤12∧a.atoms.length≤6)∧Rdr w' g q∧q≤p+40∧Fr g w w':=by
 have H:=ax h;have hlt:=h.lt;clear h;(go_enter Tryz.func90,Tryz.ntmps90);have k0:Blk (w.alloc (.cells #[.slice none 0 0,.slice none 0 0] 36)) w.heap.size 36 #[.slice none 0 0,.slice none 0 0]:=blks;have H0:=ax (H.o.bz (w':=w.alloc (.cells #[.slice none 0 0,.slice none 0 0] 36)) bel);have F0:aJ (Fr g w (w.alloc (.cells #[.slice none 0 0,.slice none 0 0] 36))):=ax ((Fr.refl g w).alloc _);have hs0:(w.alloc (.cells #[.slice none 0 0,.slice none 0 0] 36)).heap.size=w.heap.size+1:=by simp
 clear H;(go_wp2_with fail);generalize w.alloc (.cells #[.slice none 0 0,.slice none 0 0] 36)=W at k0 H0 F0 hs0 ⊢;refine (c_ofLB g p _ _ _ _ (H0.o.bz (bbox (Below.refl _ _) _)) (by omega) (Blk.newE (by omega)) (by rfl) (by omega) (by rfl) (by decide) (by decide) (by decide)).mono ?_;rintro e w1 ⟨l,hl,rfl,hR,hF⟩;have hFw:Fr g W w1:=((Fr.refl g W).alloc _).trans hF;replace k0:=k0.fr hFw (by omega);have hF1:aJ (Fr g w w1):=ax (F0.o.trans hFw);have HR1:=ax hR;have z1:=hF1.o.size;have hg1:g<w1.heap.size:=by omega
 clear hR hF H0 F0 hFw;obtain ⟨hl1,hl2⟩:=hl;have cP:=ax (fun W=>c_ParseAssertion l W (by omega))
 have hok:=ax (fun (h:(parseA l).isSome=true)=>(show ((parseA l).getD ⟨[],[]⟩).facts.length≤12∧((parseA l).getD ⟨[],[]⟩).atoms.length≤6 from by
  cases e:parseA l with
  | none=>rw[e] at h;cases h
  | some a=>exact valid_len (parseA_valid e).1))
 obtain ⟨ok,hk⟩:∃ ok,ok=(parseA l).isSome:=⟨_,rfl⟩;obtain ⟨a,ha⟩:∃ a,a=(parseA l).getD ⟨[],[]⟩:=⟨_,rfl⟩;rw[←hk,←ha] at cP hok;clear hk ha hl1 hl2;have hl0:=k0.lt;(go_wp2_with fail);refine (cP.o _).mono ?_;rintro e w2 ⟨v,rfl,N2,hB2⟩;obtain ⟨fv,av,rfl,n1,n2⟩:=N2;obtain ⟨F,e1,rfl,-⟩:=n1.reads;obtain ⟨G,e2,rfl,-⟩:=n2.reads;have hbx:=bbox hB2 (.cells #[.slice F a.facts.length e1,.slice G a.atoms.length e2] 36);have N1:=ax ((n1.bz (bbox (Below.refl _ _) (.cells #[.slice F a.facts.length e1,.slice G a.atoms.length e2] 36))).lower (base':=w.heap.size) z1);have N2:=ax ((n2.bz (bbox (Below.refl _ _) (.cells #[.slice F a.facts.length e1,.slice G a.atoms.length e2] 36))).lower (base':=w.heap.size) z1);have HF2:aJ (Fr g w (w2.alloc (.cells #[.slice F a.facts.length e1,.slice G a.atoms.length e2] 36))):=ax (hF1.o.trans (Fr.ofBelow hbx));have HR2:=ax (HR1.o.bz hbx);have kx:Blk (w2.alloc (.cells #[.slice F a.facts.length e1,.slice G a.atoms.length e2] 36)) w2.heap.size 36 #[.slice F a.facts.length e1,.slice G a.atoms.length e2]:=Blk.new _ _ _;replace k0:=k0.nz hbx;have hz2:=hB2.size;have hs2:(w2.alloc (.cells #[.slice F a.facts.length e1,.slice G a.atoms.length e2] 36)).heap.size=w2.heap.size+1:=by simp
 clear n1 n2 hB2 hF1 HR1 cP hbx;cases ok
 ·(go_wp2_with fail);generalize (w2.alloc (.cells #[.slice F a.facts.length e1,.slice G a.atoms.length e2] 36))=W2 at k0 kx N1 N2 HF2 HR2 hs2 ⊢;refine (c_l6Chains g _ _ HR2.o (by omega)).mono ?_;rintro e w3 ⟨r3,a3,q3,rfl,o3,hv3,hf3,hx3,hR,hq,hF⟩;replace k0:=k0.fr hF (by omega);have HF3:=ax (HF2.o.trans hF);have HR3:=ax hR;have HO3:=ax (o3.lower (base':=w.heap.size) (by omega));obtain ⟨fv,av,rfl,m1,m2⟩:=HO3.o;obtain ⟨F3,e3,rfl,-⟩:=m1.reads;obtain ⟨G3,e4,rfl,-⟩:=m2.reads;have M1:=ax m1;have M2:=ax m2;clear hR hF o3 HO3 m1 m2;(replace qk0:=k0.cell;replace rk0:=k0.frozen;replace lk0:=k0.lt);(go_wp2_with fail);refine bodyPost_ret (v:=.agg #[.slice F3 a3.facts.length e3,.slice G3 a3.atoms.length e4]) (by simp[results,Tryz.results90,go_sem,qk0,lk0]) rfl ⟨_,a3,q3,rfl,⟨_,_,rfl,?_,?_⟩,by omega,?_,by omega,?_⟩
  ·exact (M1.o.setT k0 (by decide) 0 _).setT (k0.set_ 0 _) (by decide) 1 _
  ·exact (M2.o.setT k0 (by decide) 0 _).setT (k0.set_ 0 _) (by decide) 1 _
  ·exact (HR3.o.set_ (q:=⟨w.heap.size,0,none⟩) (by simp only;omega) _).set_ (q:=⟨w.heap.size,1,none⟩) (by simp only;omega) _
  ·exact (HF3.o.set_ (p:=⟨w.heap.size,0,none⟩) (Or.inr (Nat.le_refl _)) _).set_ (p:=⟨w.heap.size,1,none⟩) (Or.inr (Nat.le_refl _)) _
 ·have HOK:=ax (hok.o rfl);have lkx:=kx.lt;(go_wp2_with fail);generalize (w2.alloc (.cells #[.slice F a.facts.length e1,.slice G a.atoms.length e2] 36))=W1 at k0 kx N1 N2 HF2 HR2 hs2 lkx ⊢;refine (c_pick g _ 4 _ HR2.o (by omega)).mono ?_;rintro e w4 ⟨m,rfl,-,hR,hF⟩;replace k0:=k0.fr hF (by omega);replace kx:=kx.fr hF (by omega);have hzF:=hF.size;have hgW:g<W1.heap.size:=HR2.o.lt;have P1:=ax (N1.o.fr hF (by omega));have P2:=ax (N2.o.fr hF (by omega));replace HF2:=ax (HF2.o.trans hF);replace HR2:=ax hR;clear hR hF N1 N2;by_cases hm:(0:Int)<(m:Int)
  ·(replace qk0:=k0.cell;replace rk0:=k0.frozen;replace lk0:=k0.lt;replace qkx:=kx.cell;replace rkx:=kx.frozen;replace lkx:=kx.lt);(go_wp2_with fail);refine bodyPost_ret (v:=.agg #[.slice F a.facts.length e1,.slice G a.atoms.length e2]) (by simp[results,Tryz.results90,go_sem,qk0,lk0]) rfl ⟨_,a,p+1+1,rfl,⟨_,_,rfl,?_,?_⟩,HOK.o,?_,by omega,?_⟩
   ·exact (P1.o.setT k0 (by decide) 0 _).setT (k0.set_ 0 _) (by decide) 1 _
   ·exact (P2.o.setT k0 (by decide) 0 _).setT (k0.set_ 0 _) (by decide) 1 _
   ·exact (HR2.o.set_ (q:=⟨w.heap.size,0,none⟩) (by simp only;omega) _).set_ (q:=⟨w.heap.size,1,none⟩) (by simp only;omega) _
   ·exact (HF2.o.set_ (p:=⟨w.heap.size,0,none⟩) (Or.inr (Nat.le_refl _)) _).set_ (p:=⟨w.heap.size,1,none⟩) (Or.inr (Nat.le_refl _)) _
  ·(go_wp2_with fail);refine (c_l6Chains g _ _ HR2.o (by omega)).mono ?_;rintro e w3 ⟨r3,a3,q3,rfl,o3,hv3,hf3,hx3,hR,hq,hF⟩;replace k0:=k0.fr hF (by omega);have HF3:=ax (HF2.o.trans hF);have HR3:=ax hR;have HO3:=ax (o3.lower (base':=w.heap.size) (by omega));obtain ⟨fv,av,rfl,m1,m2⟩:=HO3.o;obtain ⟨F3,e3,rfl,-⟩:=m1.reads;obtain ⟨G3,e4,rfl,-⟩:=m2.reads;have M1:=ax m1;have M2:=ax m2;clear hR hF o3 HO3 m1 m2;(replace qk0:=k0.cell;replace rk0:=k0.frozen;replace lk0:=k0.lt);(go_wp2_with fail);refine bodyPost_ret (v:=.agg #[.slice F3 a3.facts.length e3,.slice G3 a3.atoms.length e4]) (by simp[results,Tryz.results90,go_sem,qk0,lk0]) rfl ⟨_,a3,q3,rfl,⟨_,_,rfl,?_,?_⟩,by omega,?_,by omega,?_⟩
   ·exact (M1.o.setT k0 (by decide) 0 _).setT (k0.set_ 0 _) (by decide) 1 _
   ·exact (M2.o.setT k0 (by decide) 0 _).setT (k0.set_ 0 _) (by decide) 1 _
   ·exact (HR3.o.set_ (q:=⟨w.heap.size,0,none⟩) (by simp only;omega) _).set_ (q:=⟨w.heap.size,1,none⟩) (by simp only;omega) _
   ·exact (HF3.o.set_ (p:=⟨w.heap.size,0,none⟩) (Or.inr (Nat.le_refl _)) _).set_ (p:=⟨w.heap.size,1,none⟩) (Or.inr (Nat.le_refl _)) _
theorem c_impl_copyInts {lo hi:Nat} (A:Option Addr) (c:Nat) (xs:List Int) (w:World) (h:IntsV w lo hi A xs):Calls Tryz.prog 176 #[.slice A xs.length c] w fun e w'=>∃ r,e=.returned r∧IntsO w' w.heap.size r xs∧Below w.heap.size w w':=by
 have hl:=h.le;have hmk:=mkI xs.length h.lim;have hb0:Below w.heap.size w (w.alloc (.cells (madeCells #[.int .i64 0] (xs.length)) tI)):=bel;have hV:=ax (h.bz hb0);(go_enter Tryz.func176,Tryz.ntmps176);(go_wp2_with (with_reducible refine wpList_copy_splice rfl _ _ 27 27 rfl tI Tryz.underlying27 (by kernel_rfl) (some ⟨w.heap.size,0,none⟩) A xs.length xs.length xs.length c rfl rfl w.heap.size 0 (madeCells #[.int .i64 0] (xs.length)).toList tI ?c1 (encI xs) ?c2 ?c3 ?c4 (encI_one _) w.heap.size w hb0 (Nat.le_refl _) ?_))
 case c1=>simpa using heap_alloc_new w (.cells (madeCells #[.int .i64 0] xs.length) tI)
 case c2=>simp
 case c3=>
  intro h0;obtain ⟨b,o,rfl,_,_,hc⟩:=hV.o.raw.2 (by simpa using h0)
  exact ⟨_,rfl,fun j u hu=>by
   rw[show (⟨b,o,none⟩:Addr).add j=⟨b,o+j,none⟩ from by unfold Addr.add;split<;>simp_all]
   exact hc j _ (by rw[List.getElem?_map,hu];rfl)⟩
 case c4=>simp[size_madeCells]
 intro w' hH hB;clear hmk;go_wp2;go_ret;have hs:=hH.out;rw[show splice (madeCells #[Value.int .i64 0] (xs.length)).toList 0 (encI xs)=encI xs from by simp[splice,size_madeCells]] at hs;exact ⟨_,rfl,⟨own_of_blk (cap:=xs.length) hs (Nat.le_refl _) (by simp) (by intro j hj;simp) (Nat.le_refl _) (by unfold maxLen;omega) (by simp),h.lim⟩,hB⟩
end
section
open Go Go.RowKit Go.Proofs
theorem c_impl_copyState {lo hi:Nat} (v:Value) (s:Ste) (w:World) (h:StateV w lo hi v s):Calls Tryz.prog 108 #[v] w fun e w'=>∃ r,e=.returned r∧StateO w' w.heap.size r s∧Below w.heap.size w w':=by
 obtain ⟨A1,c1,A2,c2,rfl,h1,h2⟩:=h;have H1:=ax h1;have H2:=ax h2;clear h1 h2;(go_enter Tryz.func108,Tryz.ntmps108);have k0:Blk ((w.alloc (.cells #[.slice A1 s.values.length c1,.slice A2 s.heap.length c2] tSt)).alloc (.cells #[.slice none 0 0,.slice none 0 0] tSt)) w.heap.size tSt #[.slice A1 s.values.length c1,.slice A2 s.heap.length c2]:=blks;have kr:Blk ((w.alloc (.cells #[.slice A1 s.values.length c1,.slice A2 s.heap.length c2] tSt)).alloc (.cells #[.slice none 0 0,.slice none 0 0] tSt)) (w.heap.size+1) tSt #[.slice none 0 0,.slice none 0 0]:=blks;(go_wp2_with fail);refine wp_region_noPanic ?_;refine wp_region_held_drew (S:=(fun w'=>∀ i,w'.cell? ⟨w.heap.size,i,none⟩=#[.slice A1 s.values.length c1,.slice A2 s.heap.length c2][i]?)) (by kernel_rfl) (Blk.cell blks) (fun hHeld=>?_);refine tk2 0 rfl hHeld (h:=tk2 1 rfl hHeld (h:=tk2 3 rfl hHeld (h:=?_)));(try simp only[zz]);refine tk2 4 rfl hHeld (h:=?_);refine rdc 2 rfl fun K hK=>?_;(try simp only[zz]);(go_simp;refine (c_impl_copyInts A1 c1 s.values _ (H1.o.bz bel)).mono ?_;rintro e w1 ⟨r1,rfl,o1,hB1⟩;have hB:=bgo (w:=w) bel hB1;replace k0:=Blk.nz (g:=w.heap.size) blks hB1;replace kr:=Blk.nz (g:=w.heap.size+1) blks hB1);refine hK.out _ _ (k0.cell) ?_;clear hHeld hK K;intro hHeld;refine rdc 5 rfl fun K hK=>?_;(try simp only[zz]);(go_simp;refine (c_impl_copyInts A2 c2 s.heap _ (H2.o.bz hB)).mono ?_;rintro e w2 ⟨r2,rfl,o2,hB2⟩;have hBB:=bgo hB hB2;have hz1:=hB.size;replace k0:=k0.nz hB2;replace kr:=kr.nz hB2);refine hK.out _ _ (k0.cell) ?_;clear hHeld hK K;intro hHeld;(try simp only[zz])
 have HD:=ax (show ∀ g,r1.ownBlock=some g→r2.ownBlock≠some g from fun g hg e=>by
  have:=(o1.1.lt g hg).2;have:=(o2.1.lt g e).1
  omega)
 have HO1:=ax ((o1.bz hB2).lower (base':=w.heap.size) (by (try simp)<;>omega));have HO2:=ax (o2.lower (base':=w.heap.size) hz1);obtain ⟨F,e1,rfl,-⟩:=o1.reads;obtain ⟨G,e2,rfl,-⟩:=o2.reads;clear o1 o2 hB1 hB2;(replace qkr:=kr.cell;replace rkr:=kr.frozen;replace lkr:=kr.lt);refine tk2 6 rfl hHeld (h:=?_);refine rdc 7 rfl fun K hK=>?_;(try simp only[zz]);go_simp;refine hK.out _ _ (Blk.cell blks) ?_;clear hHeld hK K;intro hHeld;(try simp only[zz]);refine dn1 ?_;(go_wp2_with fail);refine bodyPost_ret (v:=.agg #[.slice F s.values.length e1,.slice G s.heap.length e2]) (by simp[results,Tryz.results108,go_sem,qkr]) rfl ⟨_,rfl,⟨_,_,rfl,?_,?_,HD.o⟩,bel⟩
 ·exact (HO1.o.setT kr (by decide) 0 _).setT (kr.set_ 0 _) (by decide) 1 _
 ·exact (HO2.o.setT kr (by decide) 0 _).setT (kr.set_ 0 _) (by decide) 1 _
def holdsF (s:Ste) (a:Asn):Bool:=(partOf s a).isSome&&(((bitsOf ((partOf s a).getD []):Nat):Int) == (bitsOf (usedL s.heap 8):Nat))
theorem partOf_len {s:Ste} {a:Asn} (h:(partOf s a).isSome=true):s.heap.length=8:=by
 unfold partOf at h
 split at h
 ·rename_i hv;simp only[Bool.and_eq_true] at hv;exact (Ste.valid_len hv.1.1).2
 ·cases h
theorem c_impl_Holds {lo hi lo' hi':Nat} (v v':Value) (s:Ste) (a:Asn) (w:World) (h:StateV w lo hi v s) (h':AsnV w lo' hi' v' a) :
  Calls Tryz.prog 180 #[v,v'] w fun e w'=>e=.returned (.bool (holdsF s a))∧Below w.heap.size w w':=by
 have hV:=ax h;have hV':=ax h';obtain ⟨A1,c1,A2,c2,rfl,-,-⟩:=h;obtain ⟨A3,c3,A4,c4,rfl,-,-⟩:=h';have HE:aJ (holdsF s a=((partOf s a).isSome&&(((bitsOf ((partOf s a).getD []):Nat):Int) == (bitsOf (usedL s.heap 8):Nat)))):=rfl;(go_enter Tryz.func180,Tryz.ntmps180);have k0:Blk ((w.alloc (.cells #[.slice A1 s.values.length c1,.slice A2 s.heap.length c2] tSt)).alloc (.cells #[.slice A3 a.facts.length c3,.slice A4 a.atoms.length c4] 36)) w.heap.size tSt #[.slice A1 s.values.length c1,.slice A2 s.heap.length c2]:=blks;(go_wp2_with fail);refine (c_impl_partOf _ _ s a _ (hV.o.bz bel) (hV'.o.bz bel)).mono ?_;rintro e w1 ⟨rfl,hB1⟩;have hB:=bgo (w:=w) bel hB1;replace k0:=k0.nz hB1;(replace qk0:=k0.z);clear hB1;cases hp:(partOf s a).isSome
 ·have E:aJ (holdsF s a=false):=by show _=_;rw[HE.o,hp];rfl
  clear hp;(go_wp2_with fail);go_ret;exact ⟨ret_bool E.o.symm,hB⟩
 ·have h8:=ax (partOf_len hp);have E:aJ (holdsF s a=(((bitsOf ((partOf s a).getD []):Nat):Int) == (bitsOf (usedL s.heap 8):Nat))):=by show _=_;rw[HE.o,hp];rfl
  clear hp HE;(go_wp2_with fail);refine (c_impl_usedIn _ s _ (hV.o.bz hB) h8.o).mono ?_;rintro e w2 ⟨rfl,hB2⟩;(go_wp2_with fail);go_ret;exact ⟨ret_bool E.o.symm,bgo hB hB2⟩
end
section
open Go Go.RowKit
theorem addAll_spec:∀ (cs seen out:List Int),addAll seen cs=some out→seen.Nodup→out.Nodup:=by
 intro cs
 induction cs with
 | nil=>intro seen out h hn;simp only[addAll,Option.some.injEq] at h;rw[←h];exact hn
 | cons c cs ih=>
  intro seen out h hn;simp only[addAll] at h
  split at h
  ·cases h
  ·rename_i hc;refine ih _ _ h ?_;rw[List.nodup_append];exact ⟨hn,by simp,fun x hx y hy e=>by rw[List.mem_singleton] at hy;exact hc (by rw[←hy,←e];exact hx)⟩
theorem addAll_some:∀ (cs seen:List Int),(seen++cs).Nodup→addAll seen cs=some (seen++cs):=by
 intro cs
 induction cs with
 | nil=>intro seen _;simp[addAll]
 | cons c cs ih=>
  intro seen h;simp only[addAll];rw[if_neg]
  ·rw[ih _ (by simpa using h)];simp
  ·intro hc;rw[List.nodup_append] at h;exact h.2.2 c hc c List.mem_cons_self rfl
theorem partAtoms_spec {s:Ste} (hs:s.valid=true):∀ (xs:List Atm) (seen out:List Int),partAtoms s seen xs=some out→seen.Nodup→out.Nodup∧∃ new,out=seen++new∧∀ c∈new,addrB c=true∧allocB s.heap c=true:=by
 intro xs
 induction xs with
 | nil=>intro seen out h hn;simp only[partAtoms,Option.some.injEq] at h;subst h;exact ⟨hn,[],by simp,by simp⟩
 | cons x xs ih=>
  intro seen out h hn;simp only[partAtoms,Option.bind_eq_some_iff] at h;obtain ⟨cs,h1,seen',h2,h3⟩:=h;have hn':=addAll_spec _ _ _ h2 hn;obtain ⟨g1,new,g2,g3⟩:=ih _ _ h3 hn';have e:=addAll_mem _ _ _ h2;refine ⟨g1,cs++new,by rw[g2,e,List.append_assoc],fun c hc=>?_⟩;rcases List.mem_append.1 hc with h|h
  ·exact (atomCells_addr hs h1).2 c h
  ·exact g3 c h
def Sub (h' h:List Int):Prop:=∀ x,allocB h' x=true→allocB h x=true∧cont h x=cont h' x
theorem walk_up {h' h:List Int} (H:Sub h' h):∀ (n:Nat) (x tz0:Int) (cs:List Int),walkF h' n x tz0=some cs→walkF h n x tz0=some cs:=by
 intro n
 induction n with
 | zero=>intro x tz0 cs hw;exact hw
 | succ n ih=>
  intro x tz0 cs hw;simp only[walkF] at hw ⊢
  split at hw
  ·rename_i e;rw[if_pos e];exact hw
  ·rename_i e;rw[if_neg e]
   split at hw
   ·rename_i ha;obtain ⟨g1,g2⟩:=H x ha;rw[if_pos g1,g2];obtain ⟨ds,hd,rfl⟩:=Option.map_eq_some_iff.1 hw;rw[ih _ _ _ hd];rfl
   ·cases hw
theorem walk_down {h' h:List Int} (H:Sub h' h):∀ (n:Nat) (x tz0:Int) (cs:List Int),walkF h n x tz0=some cs→(∀ c∈cs,allocB h' c=true)→walkF h' n x tz0=some cs:=by
 intro n
 induction n with
 | zero=>intro x tz0 cs hw _;exact hw
 | succ n ih=>
  intro x tz0 cs hw hc;simp only[walkF] at hw ⊢
  split at hw
  ·rename_i e;rw[if_pos e];exact hw
  ·rename_i e;rw[if_neg e]
   split at hw
   ·obtain ⟨ds,hd,rfl⟩:=Option.map_eq_some_iff.1 hw;have ha:=hc x List.mem_cons_self;rw[if_pos ha,←(H x ha).2,ih _ _ _ hd fun c h=>hc c (List.mem_cons_of_mem _ h)];rfl
   ·cases hw
theorem tval_val {s:Ste} (hs:s.valid=true) (t:Int):0≤tval s.values t:=by
 have hv:s.values.all valB=true:=by simp only[Ste.valid,Bool.and_eq_true] at hs;exact hs.2.1
 exact (tval_le hv t).1
theorem atom_up {s' s:Ste} (hs:s'.valid=true) (hv:s'.values=s.values) (H:Sub s'.heap s.heap) {x:Atm} {cs:List Int} (h:atomCells s' x=some cs):atomCells s x=some cs:=by
 unfold atomCells at h ⊢;rw[←hv]
 split at h
 ·rename_i hk;rw[if_pos hk];exact walk_up H _ _ _ _ h
 ·rename_i hk;rw[if_neg hk]
  split at h
  ·rename_i hc;have ha:allocB s'.heap (tval s'.values x.a)=true:=by simp only[allocB,decide_eq_true_eq];rw[hc];exact tval_val hs _
   rw[if_pos (by rw[(H _ ha).2];exact hc)];exact h
  ·cases h
theorem atom_down {s' s:Ste} (hv:s'.values=s.values) (H:Sub s'.heap s.heap) {x:Atm} {cs:List Int} (h:atomCells s x=some cs) (hc:∀ c∈cs,allocB s'.heap c=true):atomCells s' x=some cs:=by
 unfold atomCells at h ⊢;rw[hv]
 split at h
 ·rename_i hk;rw[if_pos hk];exact walk_down H _ _ _ _ h hc
 ·rename_i hk;rw[if_neg hk]
  split at h
  ·rename_i hcc;obtain rfl:=Option.some.inj h;have ha:=hc _ List.mem_cons_self;rw[if_pos (by rw[←(H _ ha).2];exact hcc)]
  ·cases h
/-! states -/
theorem partOf_some {s:Ste} {a:Asn} {out:List Int}:partOf s a=some out↔s.valid=true∧a.valid=true∧factsHold a.facts s.values=true∧partAtoms s [] a.atoms=some out:=by
 unfold partOf
 split
 ·rename_i h;simp only[Bool.and_eq_true] at h;exact ⟨fun e=>⟨h.1.1,h.1.2,h.2,e⟩,fun e=>e.2.2.2⟩
 ·rename_i h;constructor
  ·intro e;cases e
  ·rintro ⟨h1,h2,h3,-⟩;exact absurd (by rw[h1,h2,h3];rfl) h
theorem partOf_spec {s:Ste} {a:Asn} {out:List Int} (h:partOf s a=some out):out.Nodup∧∀ c∈out,addrB c=true∧allocB s.heap c=true:=by
 obtain ⟨h1,-,-,h4⟩:=partOf_some.1 h;obtain ⟨g1,new,g2,g3⟩:=partAtoms_spec h1 _ _ _ h4 List.nodup_nil;rw[List.nil_append] at g2;subst g2;exact ⟨g1,g3⟩
theorem holds_iff {s:Ste} {a:Asn}:holdsF s a=true↔∃ out,partOf s a=some out∧∀ c,allocB s.heap c=true→c∈out:=by
 unfold holdsF
 cases h:partOf s a with
 | none=>simp
 | some out=>
  have hsp:=partOf_spec h;have h1:∀ x∈out,0≤x:=fun x hx=>by have:=(hsp.2 x hx).1;simp[addrB] at this;omega
  have h2:∀ x∈usedL s.heap 8,0≤x:=fun x hx=>by have:=(usedL_mem _ _ _).1 hx;omega
  simp only[Option.isSome_some,Option.getD_some,Bool.true_and,beq_iff_eq,Int.natCast_inj,Option.some.injEq,exists_eq_left'];rw[bitsOf_eq h1 h2];constructor
  ·intro h3 c hc;have:=(cont_alloc hc).1;simp[addrB] at this;exact (h3 c).2 ((usedL_mem _ _ _).2 ⟨by omega,by omega,hc⟩)
  ·intro h3 x;rw[usedL_mem];constructor
   ·intro hx;have:=hsp.2 x hx;have h4:=this.1;simp[addrB] at h4;exact ⟨by omega,by omega,this.2⟩
   ·intro hx;exact h3 x hx.2.2
/-! the laws -/
theorem nodup_le:∀ {l m:List Int},l.Nodup→(∀ x∈l,x∈m)→l.length≤m.length:=by
 intro l
 induction l with
 | nil=>intro m _ _;simp
 | cons x l ih=>
  intro m hn h;rw[List.nodup_cons] at hn;have hx:=h x List.mem_cons_self;have:=ih (m:=m.erase x) hn.2 fun y hy=>(List.mem_erase_of_ne (fun (e:y=x)=>hn.1 (by rw[←e];exact hy))).2 (h y (List.mem_cons_of_mem _ hy));rw[List.length_erase_of_mem hx] at this;have:=List.length_pos_of_mem hx;rw[List.length_cons];omega
theorem Asn.valid_facts {a:Asn} (h:a.valid=true):factsValid a.facts=true:=by
 simp only[Asn.valid,Bool.and_eq_true] at h;exact h.1
end
section
open Go Go.RowKit Go.Proofs
end
section
open Go Go.RowKit Go.Proofs
attribute [local go_sem ↓] Go.wp_at_zero Go.wp_at_succ
end
end Go.Proofs.YtgdfdmjnadnlnaaGreat
