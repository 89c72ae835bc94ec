/- Sets of terms as flags: the spec's contracts. -/
import Derived.Test.YtjbboklnegfohaaGreatDoorMAlloc
import Derived.Test.YtjbboklnegfohaaGreatDoorHolds
import Derived.Test.YtjbboklnegfohaaGreatDoorMFmtP
import Derived.Test.YtjbboklnegfohaaGreatDoorMPrgM
import Derived.Test.YtjbboklnegfohaaGreatDoorMCmdV
import Derived.Deep.DeepCutAuto
set_option linter.unusedSimpArgs false
set_option linter.unusedVariables false
namespace Go.Proofs.YtjbboklnegfohaaGreatDoor
open Go Go.RowKit Go.Proofs
attribute [local go_sem ↓] Go.wp_at_zero Go.wp_at_succ
theorem tins_flags (S m:Nat) (hm:m≤8):((encB (flagsOf S)).toArray).setIfInBounds m (.bool true)=(encB (flagsOf (tins S (m:Int)))).toArray:=by
 rw[flags_upd,tins,if_pos (isTermB_iff.2 (by omega)),Int.toNat_natCast]
theorem flags2 (T m1 m2:Nat) (h1:m1≤8) (h2:m2≤8):(((encB (flagsOf T)).toArray).setIfInBounds m1 (.bool true)).setIfInBounds m2 (.bool true)=(encB (flagsOf (tins (tins T (m1:Int)) (m2:Int)))).toArray:=by
 rw[tins_flags _ _ h1,tins_flags _ _ h2]
theorem Blk.two {w:World} {g T m1 m2:Nat} (h:Blk w g tB (encB (flagsOf T)).toArray) (h1:m1≤8) (h2:m2≤8):Blk ((w.setCell ⟨g,m1,none⟩ (.bool true)).setCell ⟨g,m2,none⟩ (.bool true)) g tB (encB (flagsOf (tins (tins T (m1:Int)) (m2:Int)))).toArray:=by
 rw[←flags2 _ _ _ h1 h2];exact (h.set_ _ _).set_ _ _
theorem Blk.twice {w:World} {g T m1:Nat} (h:Blk w g tB (encB (flagsOf T)).toArray) (h1:m1≤8):Blk (w.setCell ⟨g,m1,none⟩ (.bool true)) g tB (encB (flagsOf (tins (tins T (m1:Int)) (m1:Int)))).toArray:=by
 rw[←tins_flags _ _ h1,←tins_flags _ _ h1]
 have e:∀ (a:Array Value) (i:Nat) (u:Value),(a.setIfInBounds i u).setIfInBounds i u=a.setIfInBounds i u:=by
  intro a i u;apply Array.ext_getElem?;intro j
  by_cases e:i=j
  ·subst e
   rw[Array.getElem?_setIfInBounds_self,Array.size_setIfInBounds,Array.getElem?_setIfInBounds_self]
  ·rw[Array.getElem?_setIfInBounds_ne e]
 rw[e]
 exact h.set_ _ _
end Go.Proofs.YtjbboklnegfohaaGreatDoor

/- Contracts: the text of an assertion (spec). -/
namespace Go.Proofs.YtjbboklnegfohaaGreatDoor
open Go Go.RowKit Go.Proofs
theorem getD_of {α:Type} [Inhabited α] {xs:List α} {k:Nat} (h:k<xs.length):xs.getD k default=xs[k]:=by simp[List.getD,List.getElem?_eq_getElem h]
set_option maxRecDepth 100000 in
set_option maxHeartbeats 6400000 in
theorem c_l3Text {lo hi:Nat} (v:Value) (a:Asn) (w:World) (h:AsnV w lo hi v a):Calls Tryz.prog 61 #[v] w fun e w'=>e=.returned (sv (textA a))∧Below w.heap.size w w':=by
 obtain ⟨A1,c1,A2,c2,rfl,h1,h2⟩:=h
 have hl1:=h1.le
 have hl2:=h2.le
 unfold Lim at hl1 hl2
 have hlT:=Lib.hid (factsT_len a.facts)
 have HTT:=Lib.hid (show textA a=if a.atoms.length=0 then factsT a.facts++[32,124,32,101,109,112] else outSX (factsT a.facts) a.atoms a.atoms.length from rfl)
 have H1:=Lib.hid h1
 have H2:=Lib.hid h2
 clear h1 h2
 go_enter Tryz.func61,Tryz.ntmps61
 go_wp2_with fail
 go_loopw [3,4] (fun o i wr=>∃ (k:Nat) (X:Bs),k≤a.facts.length∧i=.int .i64 k∧o=sv X∧Hid (X=outF a.facts k)∧Blk wr w.heap.size 49 #[.slice A1 a.facts.length c1,.slice A2 a.atoms.length c2]∧Hid (Below w.heap.size w wr)) (fun _ i _=>a.facts.length - (intOf i).toNat)
 case atStart=>exact ⟨0,[],Nat.zero_le _,rfl,rfl,Lib.hid rfl,blks,bel⟩
 case round=>
  obtain ⟨k,X,hk,rfl,rfl,hX,k0,hB⟩:=hrel
  have qk0:=k0.cell
  have rk0:=k0.frozen
  have lk0:=k0.lt
  by_cases hlt:k<a.facts.length
  ·obtain ⟨b,off,rfl,hbl⟩:=H1.out.blt hlt
   obtain ⟨g0,g1,g2⟩:=(H1.out.below hB.out).cl hlt
   have hXl:X.length≤k * 11:=by rw[hX.out];exact outF_len _ _
   have hFl:=fmtF_len a.facts[k]
   have hS:=Lib.hid (show outF a.facts (k+1)=(if 0<k then outF a.facts k++[32,38,32] else outF a.facts k)++fmtF (a.facts.getD k default) from rfl)
   have hD:=Lib.hid (getD_of hlt)
   obtain ⟨f,hf⟩:∃ f,f=a.facts[k]:=⟨_,rfl⟩
   rw[←hf] at g0 g1 g2 hFl hD
   obtain ⟨F,hF⟩:∃ F,F=fmtF f:=⟨_,rfl⟩
   have hc:=c_l1Text f
   rw[←hF] at hc hFl
   replace hc:=Lib.hid hc
   replace hF:=Lib.hid hF
   clear hf
   by_cases hz:k=0
   ·have hki:¬(0:Int)<(k:Int):=by omega
    have hz0:¬0<k:=by omega
    clear hz
    obtain ⟨S2,e2,n2⟩:=addO (P:=Tryz.prog) X F (by omega)
    go_wp2_with fail
    refine (hc.out _).mono ?_
    rintro e w2 ⟨rfl,hB2⟩
    go_wp2_with fail
    go_round
    case rel=>exact ⟨k+1,S2,by omega,by go_num,rfl,Lib.hid (by rw[e2.out,hS.out,hD.out,hF.out,hX.out,if_neg hz0]),k0.next hB2,bgo hB.out hB2⟩
    case measure=>simp[intOf];omega
   ·have hki:(0:Int)<(k:Int):=by omega
    obtain ⟨S1,e1,n1⟩:=addO (P:=Tryz.prog) X [32,38,32] (by simp;omega)
    have hS1:S1.length≤k * 11+3:=by rw[e1.out];simp;omega
    obtain ⟨S2,e2,n2⟩:=addO (P:=Tryz.prog) S1 F (by omega)
    have hz0:0<k:=by omega
    clear hS1 hXl
    go_wp2_with fail
    refine (hc.out _).mono ?_
    rintro e w2 ⟨rfl,hB2⟩
    go_wp2_with fail
    go_round
    case rel=>exact ⟨k+1,S2,by omega,by go_num,rfl,Lib.hid (by rw[e2.out,e1.out,hS.out,hD.out,hF.out,hX.out,if_pos hz0]),k0.next hB2,bgo hB.out hB2⟩
    case measure=>simp[intOf];omega
  ·obtain rfl:k=a.facts.length:=by omega
   by_cases hz:a.facts.length=0
   ·have hzi:((a.facts.length:Int) == 0)=true:=by simp[hz]
    have HTX:Hid (factsT a.facts=[116,114,117,101]):=Lib.hid (by unfold factsT;rw[if_pos hz])
    clear hX hz
    have hTT:Hid (factsT a.facts=[116,114,117,101]):=Lib.hid HTX.out
    have hTl:([116,114,117,101]).length≤4+a.facts.length * 11:=by have h:=hlT.out;rw[hTT.out] at h;exact h
    obtain ⟨S0,e0,n0⟩:=addO (P:=Tryz.prog) [116,114,117,101] [32,124,32,101,109,112] (by first|omega|(simp;done)|(simp;omega))
    have HTT2:=Lib.hid (by have h:=HTT.out;rw[hTT.out] at h;exact h)
    by_cases hy:a.atoms.length=0
    ·have hyi:((a.atoms.length:Int) == 0)=true:=by simp[hy]
     have E1:=Lib.hid (HTT2.out.trans (if_pos hy))
     clear hy hTl
     go_wp2_with fail
     go_ret
     exact ⟨ret_str (by rw[E1.out,e0.out]),hB.out⟩
    ·have hyi:((a.atoms.length:Int) == 0)=false:=by simp[hy]
     have E1:=Lib.hid (HTT2.out.trans (if_neg hy))
     clear hy n0 e0
     go_wp2_with fail
     go_loopw [3,5,6] (fun o i s wx=>∃ (k:Nat) (X:Bs),k≤a.atoms.length∧i=.int .i64 k∧o=sv X∧Hid (X=outSX ([116,114,117,101]) a.atoms k)∧Blk wx w.heap.size 49 #[.slice A1 a.facts.length c1,.slice A2 a.atoms.length c2]∧Hid (Below w.heap.size w wx)) (fun _ i _ _=>a.atoms.length - (intOf i).toNat)
     case atStart=>exact ⟨0,[116,114,117,101],Nat.zero_le _,rfl,rfl,Lib.hid rfl,k0,hB⟩
     case round=>
      clear k0 qk0 rk0 lk0 hB
      obtain ⟨k,X,hk,rfl,rfl,hX,k0,hB⟩:=hrel
      have qk0:=k0.cell
      have rk0:=k0.frozen
      have lk0:=k0.lt
      by_cases hlt:k<a.atoms.length
      ·obtain ⟨b,off,rfl,hbl⟩:=H2.out.blt hlt
       obtain ⟨g0,g1,g2⟩:=(H2.out.below hB.out).cl hlt
       have hXl:X.length≤([116,114,117,101]).length+k * 10:=by rw[hX.out];exact outX_len _ _ _
       have hS:=Lib.hid (show outSX ([116,114,117,101]) a.atoms (k+1)=(if k=0 then outSX ([116,114,117,101]) a.atoms k++[32,124,32] else outSX ([116,114,117,101]) a.atoms k++[32,42,32])++tnameL (a.atoms.getD k default).a++signX (a.atoms.getD k default)++tnameL (a.atoms.getD k default).b from rfl)
       have hD:=Lib.hid (getD_of hlt)
       obtain ⟨f,hf⟩:∃ f,f=a.atoms[k]:=⟨_,rfl⟩
       rw[←hf] at g0 g1 g2 hD
       clear hf
       obtain ⟨kd,ta,tb⟩:=f
       simp only at g0 g1 g2
       have la:=tnameL_len ta
       have lb:=tnameL_len tb
       have ca:=c_TermName ta
       have cb:=c_TermName tb
       obtain ⟨NA,hNA⟩:∃ N,N=tnameL ta:=⟨_,rfl⟩
       obtain ⟨NB,hNB⟩:∃ N,N=tnameL tb:=⟨_,rfl⟩
       rw[←hNA] at la ca
       rw[←hNB] at lb cb
       replace ca:=Lib.hid ca
       replace cb:=Lib.hid cb
       replace hNA:=Lib.hid hNA
       replace hNB:=Lib.hid hNB
       obtain ⟨sep,hsep⟩:∃ sep:Bs,sep=if k=0 then [32,124,32] else [32,42,32]:=⟨_,rfl⟩
       have lsep:sep.length=3:=by rw[hsep];split<;>rfl
       obtain ⟨S1,e1,n1⟩:=addO (P:=Tryz.prog) X sep (by omega)
       have l1:S1.length=X.length+3:=by rw[e1.out,List.length_append,lsep]
       obtain ⟨S2,e2,n2⟩:=addO (P:=Tryz.prog) S1 NA (by omega)
       have l2:S2.length≤X.length+6:=by rw[e2.out,List.length_append];omega
       obtain ⟨sg,hsg⟩:∃ sg,sg=signX ⟨kd,ta,tb⟩:=⟨_,rfl⟩
       have lsg:sg.length=1:=by rw[hsg];unfold signX;split<;>rfl
       obtain ⟨S3,e3,n3⟩:=addO (P:=Tryz.prog) S2 sg (by omega)
       have l3:S3.length≤X.length+7:=by rw[e3.out,List.length_append];omega
       obtain ⟨S4,e4,n4⟩:=addO (P:=Tryz.prog) S3 NB (by omega)
       have hEnd:Hid (S4=outSX ([116,114,117,101]) a.atoms (k+1)):=Lib.hid (by
        rw[hS.out,hD.out,e4.out,e3.out,e2.out,e1.out,hX.out,hNA.out,hNB.out,hsg,hsep]
        split<;>rfl)
       clear l1 l2 l3 lsep hXl la lb
       have hb1:Hid (Below w.heap.size w wr):=hB
       have tokA:True:=trivial
       have tokB:True:=trivial
       by_cases hk2:kd=2
       ·subst hk2
        have hsg2:sg=[126]:=hsg
        subst hsg2
        clear hsg lsg
        by_cases hz0:k=0
        ·subst hz0
         have hsep2:sep=[32,124,32]:=hsep
         subst hsep2
         clear hsep
         have h0l:(0:Int)<(a.atoms.length:Int):=by omega
         simp only[Nat.zero_mul,Nat.add_zero,Nat.zero_add] at g0 g1 g2
         go_wp2_with fail
         go_region_held3 (fun w'=>(∀ i,w'.cell? ⟨w.heap.size,i,none⟩=#[.slice A1 a.facts.length c1,.slice (some ⟨b,off,none⟩) a.atoms.length c2][i]?)∧w'.cell? ⟨b,off+1,none⟩=some (.int .i64 ta)∧w'.cell? ⟨b,off+2,none⟩=some (.int .i64 tb))
          (exact ⟨qk0,g1,g2⟩)
          (first
           | (have _t:=tokA;clear _t tokA;go_at_call 59;refine (ca.out _).mono ?_;rintro e w' ⟨rfl,rfl⟩)
           | (have _t:=tokB;clear _t tokB;go_at_call 59;refine (cb.out _).mono ?_;rintro e w' ⟨rfl,rfl⟩))
         all_goals
          go_wp2_with fail
          go_round
          case rel=>exact ⟨0+1,S4,by omega,by go_num,rfl,hEnd,k0,Lib.hid hB.out.drew⟩
          case measure=>simp[intOf];omega
        ·have hki:((k:Int) == 0)=false:=by simp;omega
         have hsep2:sep=[32,42,32]:=by rw[hsep,if_neg hz0]
         subst hsep2
         clear hsep hz0
         go_wp2_with fail
         go_region_held3 (fun w'=>(∀ i,w'.cell? ⟨w.heap.size,i,none⟩=#[.slice A1 a.facts.length c1,.slice (some ⟨b,off,none⟩) a.atoms.length c2][i]?)∧w'.cell? ⟨b,off+k * 3+1,none⟩=some (.int .i64 ta)∧w'.cell? ⟨b,off+k * 3+2,none⟩=some (.int .i64 tb))
          (exact ⟨qk0,g1,g2⟩)
          (first
           | (have _t:=tokA;clear _t tokA;go_at_call 59;refine (ca.out _).mono ?_;rintro e w' ⟨rfl,rfl⟩)
           | (have _t:=tokB;clear _t tokB;go_at_call 59;refine (cb.out _).mono ?_;rintro e w' ⟨rfl,rfl⟩))
         all_goals
          go_wp2_with fail
          go_round
          case rel=>exact ⟨k+1,S4,by omega,by go_num,rfl,hEnd,k0,Lib.hid hB.out.drew⟩
          case measure=>simp[intOf];omega
       ·have hk2b:(kd == 2)=false:=by simpa using hk2
        have hsg2:sg=[62]:=by rw[hsg];unfold signX;rw[if_neg hk2]
        subst hsg2
        clear hsg lsg hk2
        by_cases hz0:k=0
        ·subst hz0
         have hsep2:sep=[32,124,32]:=hsep
         subst hsep2
         clear hsep
         have h0l:(0:Int)<(a.atoms.length:Int):=by omega
         simp only[Nat.zero_mul,Nat.add_zero,Nat.zero_add] at g0 g1 g2
         go_wp2_with fail
         go_region_held3 (fun w'=>(∀ i,w'.cell? ⟨w.heap.size,i,none⟩=#[.slice A1 a.facts.length c1,.slice (some ⟨b,off,none⟩) a.atoms.length c2][i]?)∧w'.cell? ⟨b,off+1,none⟩=some (.int .i64 ta)∧w'.cell? ⟨b,off+2,none⟩=some (.int .i64 tb))
          (exact ⟨qk0,g1,g2⟩)
          (first
           | (have _t:=tokA;clear _t tokA;go_at_call 59;refine (ca.out _).mono ?_;rintro e w' ⟨rfl,rfl⟩)
           | (have _t:=tokB;clear _t tokB;go_at_call 59;refine (cb.out _).mono ?_;rintro e w' ⟨rfl,rfl⟩))
         all_goals
          go_wp2_with fail
          go_round
          case rel=>exact ⟨0+1,S4,by omega,by go_num,rfl,hEnd,k0,Lib.hid hB.out.drew⟩
          case measure=>simp[intOf];omega
        ·have hki:((k:Int) == 0)=false:=by simp;omega
         have hsep2:sep=[32,42,32]:=by rw[hsep,if_neg hz0]
         subst hsep2
         clear hsep hz0
         go_wp2_with fail
         go_region_held3 (fun w'=>(∀ i,w'.cell? ⟨w.heap.size,i,none⟩=#[.slice A1 a.facts.length c1,.slice (some ⟨b,off,none⟩) a.atoms.length c2][i]?)∧w'.cell? ⟨b,off+k * 3+1,none⟩=some (.int .i64 ta)∧w'.cell? ⟨b,off+k * 3+2,none⟩=some (.int .i64 tb))
          (exact ⟨qk0,g1,g2⟩)
          (first
           | (have _t:=tokA;clear _t tokA;go_at_call 59;refine (ca.out _).mono ?_;rintro e w' ⟨rfl,rfl⟩)
           | (have _t:=tokB;clear _t tokB;go_at_call 59;refine (cb.out _).mono ?_;rintro e w' ⟨rfl,rfl⟩))
         all_goals
          go_wp2_with fail
          go_round
          case rel=>exact ⟨k+1,S4,by omega,by go_num,rfl,hEnd,k0,Lib.hid hB.out.drew⟩
          case measure=>simp[intOf];omega
      ·obtain rfl:k=a.atoms.length:=by omega
       go_wp2_with fail
       go_ret
       exact ⟨ret_str (by rw[E1.out,hX.out]),hB.out⟩
   ·have hzi:((a.facts.length:Int) == 0)=false:=by simp[hz]
    have HTX:Hid (factsT a.facts=X):=Lib.hid (by unfold factsT;rw[if_neg hz,hX.out])
    clear hX hz
    obtain ⟨XT,rfl⟩:∃ XT,XT=X:=⟨_,rfl⟩
    have hTT:Hid (factsT a.facts=XT):=Lib.hid HTX.out
    have hTl:(XT).length≤4+a.facts.length * 11:=by have h:=hlT.out;rw[hTT.out] at h;exact h
    obtain ⟨S0,e0,n0⟩:=addO (P:=Tryz.prog) XT [32,124,32,101,109,112] (by first|omega|(simp;done)|(simp;omega))
    have HTT2:=Lib.hid (by have h:=HTT.out;rw[hTT.out] at h;exact h)
    by_cases hy:a.atoms.length=0
    ·have hyi:((a.atoms.length:Int) == 0)=true:=by simp[hy]
     have E1:=Lib.hid (HTT2.out.trans (if_pos hy))
     clear hy hTl
     go_wp2_with fail
     go_ret
     exact ⟨ret_str (by rw[E1.out,e0.out]),hB.out⟩
    ·have hyi:((a.atoms.length:Int) == 0)=false:=by simp[hy]
     have E1:=Lib.hid (HTT2.out.trans (if_neg hy))
     clear hy n0 e0
     go_wp2_with fail
     go_loopw [3,5,6] (fun o i s wx=>∃ (k:Nat) (X:Bs),k≤a.atoms.length∧i=.int .i64 k∧o=sv X∧Hid (X=outSX (XT) a.atoms k)∧Blk wx w.heap.size 49 #[.slice A1 a.facts.length c1,.slice A2 a.atoms.length c2]∧Hid (Below w.heap.size w wx)) (fun _ i _ _=>a.atoms.length - (intOf i).toNat)
     case atStart=>exact ⟨0,XT,Nat.zero_le _,rfl,rfl,Lib.hid rfl,k0,hB⟩
     case round=>
      clear k0 qk0 rk0 lk0 hB
      obtain ⟨k,X,hk,rfl,rfl,hX,k0,hB⟩:=hrel
      have qk0:=k0.cell
      have rk0:=k0.frozen
      have lk0:=k0.lt
      by_cases hlt:k<a.atoms.length
      ·obtain ⟨b,off,rfl,hbl⟩:=H2.out.blt hlt
       obtain ⟨g0,g1,g2⟩:=(H2.out.below hB.out).cl hlt
       have hXl:X.length≤(XT).length+k * 10:=by rw[hX.out];exact outX_len _ _ _
       have hS:=Lib.hid (show outSX (XT) a.atoms (k+1)=(if k=0 then outSX (XT) a.atoms k++[32,124,32] else outSX (XT) a.atoms k++[32,42,32])++tnameL (a.atoms.getD k default).a++signX (a.atoms.getD k default)++tnameL (a.atoms.getD k default).b from rfl)
       have hD:=Lib.hid (getD_of hlt)
       obtain ⟨f,hf⟩:∃ f,f=a.atoms[k]:=⟨_,rfl⟩
       rw[←hf] at g0 g1 g2 hD
       clear hf
       obtain ⟨kd,ta,tb⟩:=f
       simp only at g0 g1 g2
       have la:=tnameL_len ta
       have lb:=tnameL_len tb
       have ca:=c_TermName ta
       have cb:=c_TermName tb
       obtain ⟨NA,hNA⟩:∃ N,N=tnameL ta:=⟨_,rfl⟩
       obtain ⟨NB,hNB⟩:∃ N,N=tnameL tb:=⟨_,rfl⟩
       rw[←hNA] at la ca
       rw[←hNB] at lb cb
       replace ca:=Lib.hid ca
       replace cb:=Lib.hid cb
       replace hNA:=Lib.hid hNA
       replace hNB:=Lib.hid hNB
       obtain ⟨sep,hsep⟩:∃ sep:Bs,sep=if k=0 then [32,124,32] else [32,42,32]:=⟨_,rfl⟩
       have lsep:sep.length=3:=by rw[hsep];split<;>rfl
       obtain ⟨S1,e1,n1⟩:=addO (P:=Tryz.prog) X sep (by omega)
       have l1:S1.length=X.length+3:=by rw[e1.out,List.length_append,lsep]
       obtain ⟨S2,e2,n2⟩:=addO (P:=Tryz.prog) S1 NA (by omega)
       have l2:S2.length≤X.length+6:=by rw[e2.out,List.length_append];omega
       obtain ⟨sg,hsg⟩:∃ sg,sg=signX ⟨kd,ta,tb⟩:=⟨_,rfl⟩
       have lsg:sg.length=1:=by rw[hsg];unfold signX;split<;>rfl
       obtain ⟨S3,e3,n3⟩:=addO (P:=Tryz.prog) S2 sg (by omega)
       have l3:S3.length≤X.length+7:=by rw[e3.out,List.length_append];omega
       obtain ⟨S4,e4,n4⟩:=addO (P:=Tryz.prog) S3 NB (by omega)
       have hEnd:Hid (S4=outSX (XT) a.atoms (k+1)):=Lib.hid (by
        rw[hS.out,hD.out,e4.out,e3.out,e2.out,e1.out,hX.out,hNA.out,hNB.out,hsg,hsep]
        split<;>rfl)
       clear l1 l2 l3 lsep hXl la lb
       have hb1:Hid (Below w.heap.size w wr):=hB
       have tokA:True:=trivial
       have tokB:True:=trivial
       by_cases hk2:kd=2
       ·subst hk2
        have hsg2:sg=[126]:=hsg
        subst hsg2
        clear hsg lsg
        by_cases hz0:k=0
        ·subst hz0
         have hsep2:sep=[32,124,32]:=hsep
         subst hsep2
         clear hsep
         have h0l:(0:Int)<(a.atoms.length:Int):=by omega
         simp only[Nat.zero_mul,Nat.add_zero,Nat.zero_add] at g0 g1 g2
         go_wp2_with fail
         go_region_held3 (fun w'=>(∀ i,w'.cell? ⟨w.heap.size,i,none⟩=#[.slice A1 a.facts.length c1,.slice (some ⟨b,off,none⟩) a.atoms.length c2][i]?)∧w'.cell? ⟨b,off+1,none⟩=some (.int .i64 ta)∧w'.cell? ⟨b,off+2,none⟩=some (.int .i64 tb))
          (exact ⟨qk0,g1,g2⟩)
          (first
           | (have _t:=tokA;clear _t tokA;go_at_call 59;refine (ca.out _).mono ?_;rintro e w' ⟨rfl,rfl⟩)
           | (have _t:=tokB;clear _t tokB;go_at_call 59;refine (cb.out _).mono ?_;rintro e w' ⟨rfl,rfl⟩))
         all_goals
          go_wp2_with fail
          go_round
          case rel=>exact ⟨0+1,S4,by omega,by go_num,rfl,hEnd,k0,Lib.hid hB.out.drew⟩
          case measure=>simp[intOf];omega
        ·have hki:((k:Int) == 0)=false:=by simp;omega
         have hsep2:sep=[32,42,32]:=by rw[hsep,if_neg hz0]
         subst hsep2
         clear hsep hz0
         go_wp2_with fail
         go_region_held3 (fun w'=>(∀ i,w'.cell? ⟨w.heap.size,i,none⟩=#[.slice A1 a.facts.length c1,.slice (some ⟨b,off,none⟩) a.atoms.length c2][i]?)∧w'.cell? ⟨b,off+k * 3+1,none⟩=some (.int .i64 ta)∧w'.cell? ⟨b,off+k * 3+2,none⟩=some (.int .i64 tb))
          (exact ⟨qk0,g1,g2⟩)
          (first
           | (have _t:=tokA;clear _t tokA;go_at_call 59;refine (ca.out _).mono ?_;rintro e w' ⟨rfl,rfl⟩)
           | (have _t:=tokB;clear _t tokB;go_at_call 59;refine (cb.out _).mono ?_;rintro e w' ⟨rfl,rfl⟩))
         all_goals
          go_wp2_with fail
          go_round
          case rel=>exact ⟨k+1,S4,by omega,by go_num,rfl,hEnd,k0,Lib.hid hB.out.drew⟩
          case measure=>simp[intOf];omega
       ·have hk2b:(kd == 2)=false:=by simpa using hk2
        have hsg2:sg=[62]:=by rw[hsg];unfold signX;rw[if_neg hk2]
        subst hsg2
        clear hsg lsg hk2
        by_cases hz0:k=0
        ·subst hz0
         have hsep2:sep=[32,124,32]:=hsep
         subst hsep2
         clear hsep
         have h0l:(0:Int)<(a.atoms.length:Int):=by omega
         simp only[Nat.zero_mul,Nat.add_zero,Nat.zero_add] at g0 g1 g2
         go_wp2_with fail
         go_region_held3 (fun w'=>(∀ i,w'.cell? ⟨w.heap.size,i,none⟩=#[.slice A1 a.facts.length c1,.slice (some ⟨b,off,none⟩) a.atoms.length c2][i]?)∧w'.cell? ⟨b,off+1,none⟩=some (.int .i64 ta)∧w'.cell? ⟨b,off+2,none⟩=some (.int .i64 tb))
          (exact ⟨qk0,g1,g2⟩)
          (first
           | (have _t:=tokA;clear _t tokA;go_at_call 59;refine (ca.out _).mono ?_;rintro e w' ⟨rfl,rfl⟩)
           | (have _t:=tokB;clear _t tokB;go_at_call 59;refine (cb.out _).mono ?_;rintro e w' ⟨rfl,rfl⟩))
         all_goals
          go_wp2_with fail
          go_round
          case rel=>exact ⟨0+1,S4,by omega,by go_num,rfl,hEnd,k0,Lib.hid hB.out.drew⟩
          case measure=>simp[intOf];omega
        ·have hki:((k:Int) == 0)=false:=by simp;omega
         have hsep2:sep=[32,42,32]:=by rw[hsep,if_neg hz0]
         subst hsep2
         clear hsep hz0
         go_wp2_with fail
         go_region_held3 (fun w'=>(∀ i,w'.cell? ⟨w.heap.size,i,none⟩=#[.slice A1 a.facts.length c1,.slice (some ⟨b,off,none⟩) a.atoms.length c2][i]?)∧w'.cell? ⟨b,off+k * 3+1,none⟩=some (.int .i64 ta)∧w'.cell? ⟨b,off+k * 3+2,none⟩=some (.int .i64 tb))
          (exact ⟨qk0,g1,g2⟩)
          (first
           | (have _t:=tokA;clear _t tokA;go_at_call 59;refine (ca.out _).mono ?_;rintro e w' ⟨rfl,rfl⟩)
           | (have _t:=tokB;clear _t tokB;go_at_call 59;refine (cb.out _).mono ?_;rintro e w' ⟨rfl,rfl⟩))
         all_goals
          go_wp2_with fail
          go_round
          case rel=>exact ⟨k+1,S4,by omega,by go_num,rfl,hEnd,k0,Lib.hid hB.out.drew⟩
          case measure=>simp[intOf];omega
      ·obtain rfl:k=a.atoms.length:=by omega
       go_wp2_with fail
       go_ret
       exact ⟨ret_str (by rw[E1.out,hX.out]),hB.out⟩
set_option maxRecDepth 100000 in
set_option maxHeartbeats 1600000 in
theorem c_FormatAssertion {lo hi:Nat} (v:Value) (a:Asn) (w:World) (h:AsnV w lo hi v a):Calls Tryz.prog 97 #[v] w fun e w'=>e=.returned (sv (fmtA a))∧Below w.heap.size w w':=by
 obtain ⟨A1,c1,A2,c2,rfl,h1,h2⟩:=h
 have HV:Hid (AsnV w lo hi (.agg #[.slice A1 a.facts.length c1,.slice A2 a.atoms.length c2]) a):=Lib.hid ⟨_,_,_,_,rfl,h1,h2⟩
 clear h1 h2
 go_enter Tryz.func97,Tryz.ntmps97
 have k0:Blk (w.alloc (.cells #[.slice A1 a.facts.length c1,.slice A2 a.atoms.length c2] 49)) w.heap.size 49 #[.slice A1 a.facts.length c1,.slice A2 a.atoms.length c2]:=blks
 go_wp2_with fail
 refine (c_spec_AssertionValid _ a _ (HV.out.below bel)).mono ?_
 rintro e w1 ⟨rfl,hB1⟩
 have k1:=k0.next hB1
 have hB:Below w.heap.size w w1:=bgo (w:=w) bel hB1
 (replace qk1:=k1.cell;replace rk1:=k1.frozen;replace lk1:=k1.lt)
 cases hv:a.valid
 ·go_wp2_with fail
  go_ret
  exact ⟨ret_str (by unfold fmtA;rw[hv];rfl),hB⟩
 ·go_wp2_with fail
  refine (c_l3Text _ a _ (HV.out.below hB)).mono ?_
  rintro e w2 ⟨rfl,hB2⟩
  go_wp2_with fail
  go_ret
  exact ⟨ret_str (by unfold fmtA;rw[hv];rfl),bgo hB hB2⟩
end Go.Proofs.YtjbboklnegfohaaGreatDoor

/- Contracts: assertions from texts (spec). -/
namespace Go.Proofs.YtjbboklnegfohaaGreatDoor
open Go Go.RowKit Go.Proofs
def nextB (ws:List Bs) (k:Nat):Bool:=decide (ws[k+1]? = some [124])
theorem readA_next {ws:List Bs} {k:Nat} {fs:List Fct} {xs:List Atm} {sb:Bool} {p:List Fct×List Atm} (hk:k<ws.length) (h:stepA (fs,xs,sb) ws[k]=some p):readA (ws.drop k) (fs,xs,sb)=readA (ws.drop (k+2)) (p.1,p.2,sb || nextB ws k):=by
 rw[List.drop_eq_getElem_cons hk]
 rcases Nat.lt_or_ge (k+1) ws.length with h1|h1
 ·rw[List.drop_eq_getElem_cons h1,readA,h]
  simp[nextB,List.getElem?_eq_getElem h1]
 ·rw[List.drop_eq_nil_of_le (show ws.length≤k+1 from h1),List.drop_eq_nil_of_le (show ws.length≤k+2 by omega),readA,readA,h]
  rfl
theorem readA_fail {ws:List Bs} {k:Nat} {st:List Fct×List Atm×Bool} (hk:k<ws.length) (h:stepA st ws[k]=none):readA (ws.drop k) st=none:=by
 rw[List.drop_eq_getElem_cons hk]
 rcases Nat.lt_or_ge (k+1) ws.length with h1|h1
 ·rw[List.drop_eq_getElem_cons h1,readA,h]
 ·rw[List.drop_eq_nil_of_le (show ws.length≤k+1 from h1),readA,h]
  rfl
theorem readA_end {ws:List Bs} {k:Nat} {fs:List Fct} {xs:List Atm} {sb:Bool} (hk:ws.length≤k):readA (ws.drop k) (fs,xs,sb)=some ⟨fs,xs⟩:=by
 rw[List.drop_eq_nil_of_le hk,readA]
theorem stepA_f {x:Bs} {f:Fct} {fs:List Fct} {xs:List Atm} (h:parseF x=some f):stepA (fs,xs,false) x=some (fs++[f],xs):=by
 unfold stepA;simp[h]
theorem stepA_x {x:Bs} {y:Atm} {fs:List Fct} {xs:List Atm} (h:parseX x=some y):stepA (fs,xs,true) x=some (fs,xs++[y]):=by
 unfold stepA;simp[h]
theorem stepA_f0 {x:Bs} {fs:List Fct} {xs:List Atm} (h:parseF x=none):stepA (fs,xs,false) x=if x≠[116,114,117,101]∧x≠[101,109,112] then none else some (fs,xs):=by
 unfold stepA;simp[h]
theorem stepA_x0 {x:Bs} {fs:List Fct} {xs:List Atm} (h:parseX x=none):stepA (fs,xs,true) x=if x≠[116,114,117,101]∧x≠[101,109,112] then none else some (fs,xs):=by
 unfold stepA;simp[h]
theorem parseA_none1 {l:Bs} (h:readA (wordsL l) ([],[],false)=none):parseA l=none:=by
 unfold parseA;rw[h];split<;>rfl
theorem parseA_some {l:Bs} {a:Asn} (hl:l.length≤300) (h:readA (wordsL l) ([],[],false)=some a):parseA l=if fmtA a=l∧l≠[] then some a else none:=by
 unfold parseA;rw[if_neg (by omega),h]
set_option maxRecDepth 100000 in
set_option maxHeartbeats 12800000 in
theorem c_ParseAssertion (l:Bs) (w:World) (hl:l.length≤1049000):Calls Tryz.prog 80 #[sv l] w fun e w'=>∃ r,e=.returned (.tuple #[r,.bool (parseA l).isSome])∧AsnO w' w.heap.size r ((parseA l).getD ⟨[],[]⟩)∧Below w.heap.size w w':=by
 go_enter Tryz.func80,Tryz.ntmps80
 have k0:Blk (w.alloc (.cells #[.slice none 0 0,.slice none 0 0] 49)) w.heap.size 49 #[.slice none 0 0,.slice none 0 0]:=blks
 go_wp2_with fail
 refine (c_l18Words l _ hl).mono ?_
 rintro e w1 ⟨r1,rfl,o1,hB1⟩
 obtain ⟨A1,d1,rfl,v1⟩:=o1.reads
 replace k0:=k0.next hB1
 have z1:w.heap.size+1≤w1.heap.size:=by simpa using hB1.size
 have HW1:Hid (Below w.heap.size w w1):=Lib.hid (bgo (w:=w) bel hB1)
 have HP0:=Lib.hid (fun h=>parseA_none1 (l:=l) h)
 have HP1:=Lib.hid (fun a (h:l.length≤300)=>parseA_some (l:=l) (a:=a) h)
 have hwl:=wordsL_len l
 obtain ⟨ws,hws⟩:∃ ws,ws=wordsL l:=⟨_,rfl⟩
 rw[←hws] at v1 HP0 HP1 hwl ⊢
 have HV:=Lib.hid v1
 clear v1 o1 hB1 hws
 (replace qk0:=k0.cell;replace rk0:=k0.frozen;replace lk0:=k0.lt)
 by_cases hl3':¬l.length≤300
 ·have hli:(300:Int)<(l.length:Int):=by omega
  have hN:=Lib.hid (show parseA l=none by unfold parseA;rw[if_pos (by omega)])
  go_wp2_with fail
  have kz:=(((k0.set_ 0 (.slice none 0 0)).set_ 1 (.slice none 0 0)).alloc (.cells #[.slice none 0 0,.slice none 0 0] 49)).cell
  refine bodyPost_ret (v:=.tuple #[.agg #[.slice none 0 0,.slice none 0 0],.bool false]) (by simp[results,Tryz.results80,go_sem,kz]) rfl ⟨_,by rw[hN.out];rfl,?_,?_⟩
  ·rw[hN.out];exact ⟨_,_,rfl,FactsO.nil _ _,AtomsO.nil _ _⟩
  ·have hb:=HW1.out;exact bel
 have hl3:l.length≤300:=by omega
 clear hl3'
 have hli:¬(300:Int)<(l.length:Int):=by omega
 go_wp2_with fail
 go_loopw [6,7] (fun s i wr=>∃ (k:Nat) (fs:List Fct) (xs:List Atm) (AF:Option Addr) (cF:Nat) (AA:Option Addr) (cA:Nat) (sb:Bool),s=.bool sb∧i=.int .i64 k∧k≤ws.length+1∧fs.length≤k∧xs.length≤k∧
  FactsO wr (w1.heap.size+1) (.slice AF fs.length cF) fs∧AtomsO wr (w1.heap.size+1) (.slice AA xs.length cA) xs∧Hid (readA (ws.drop k) (fs,xs,sb)=readA ws ([],[],false))∧
  Blk wr w1.heap.size 49 #[.slice AF fs.length cF,.slice AA xs.length cA]∧Blk wr w.heap.size 49 #[.slice none 0 0,.slice none 0 0]∧Hid (Below w1.heap.size w1 wr)) (fun _ i _=>ws.length+2 - (intOf i).toNat)
 case atStart=>exact ⟨0,[],[],none,0,none,0,false,rfl,rfl,by omega,Nat.le_refl _,Nat.le_refl _,FactsO.nil _ _,AtomsO.nil _ _,Lib.hid (by rw[List.drop_zero]),Blk.newE rfl,k0.alloc _,Lib.hid (bbox (Below.refl _ _) _)⟩
 case round=>
  clear k0 qk0 rk0 lk0
  obtain ⟨k,fs,xs,AF,cF,AA,cA,sb,rfl,rfl,hk,hfl,hxl,hF,hX,hR,k1,k0,HB⟩:=hrel
  have HF:=Lib.hid hF
  have HX:=Lib.hid hX
  have hz:w1.heap.size+1≤wr.heap.size:=by have:=k1.lt;omega
  clear hF hX
  (replace qk0:=k0.cell;replace rk0:=k0.frozen;replace lk0:=k0.lt;replace qk1:=k1.cell;replace rk1:=k1.frozen;replace lk1:=k1.lt)
  by_cases hlt:k<ws.length
  ·have hki:(k:Int)<(ws.length:Int):=by omega
   obtain ⟨bw,ow,rfl,hc⟩:=(HV.out.below HB.out).at hlt
   have hbl:=block_lt_of_cell hc
   have HS:=Lib.hid (fun p=>readA_next (p:=p) (fs:=fs) (xs:=xs) (sb:=sb) hlt)
   have HN:=Lib.hid (fun st=>readA_fail (st:=st) hlt)
   obtain ⟨x,hxx⟩:∃ x,x=ws[k]:=⟨_,rfl⟩
   rw[←hxx] at hc HS HN
   clear hxx
   go_wp2_with fail
   refine (c_ParseFact x _).mono ?_
   rintro e w2 ⟨rfl,hB2⟩
   have HB2:=Lib.hid (bgo HB.out hB2)
   have HF2:=Lib.hid (HF.out.below hB2)
   have HX2:=Lib.hid (HX.out.below hB2)
   have hc2:=(bcell hB2).1 bw (ow+k) hbl
   rw[hc] at hc2
   have hbl2:=block_lt_of_cell hc2
   replace k0:=k0.next hB2
   replace k1:=k1.next hB2
   have hz2:=Nat.le_trans hz hB2.size
   clear hB2 HF HX hc qk0 rk0 lk0 qk1 rk1 lk1 hz hbl
   (replace qk0:=k0.cell;replace rk0:=k0.frozen;replace lk0:=k0.lt;replace qk1:=k1.cell;replace rk1:=k1.frozen;replace lk1:=k1.lt)
   obtain ⟨fe,fa,fb,hfv⟩:∃ fe fa fb,((parseF x).getD fct0)=⟨fe,fa,fb⟩:=⟨_,_,_,rfl⟩
   have hfv2:((parseF x).getD fct0).val=.agg #[.bool fe,.int .i64 fa,.int .i64 fb]:=by rw[hfv]
   rw[hfv2]
   obtain ⟨pf,hpf⟩:∃ pf,pf=(parseF x).isSome:=⟨_,rfl⟩
   rw[←hpf]
   replace hfv:=Lib.hid hfv
   replace hpf:=Lib.hid hpf
   clear hfv2
   have k2:Blk (w2.alloc (.cells #[.bool fe,.int .i64 fa,.int .i64 fb] tF)) w2.heap.size tF #[.bool fe,.int .i64 fa,.int .i64 fb]:=blks
   go_wp2_with fail
   refine (c_ParseAtom x _).mono ?_
   rintro e w3 ⟨⟨yk,ya,yb⟩,rfl,hyz,hB3⟩
   have z3:w2.heap.size+1≤w3.heap.size:=by simpa using hB3.size
   have hB23:Below w2.heap.size w2 w3:=bgo (w:=w2) bel hB3
   have HB3:=Lib.hid (bgo HB2.out hB23)
   have HF3:=Lib.hid (HF2.out.below hB23)
   have HX3:=Lib.hid (HX2.out.below hB23)
   have hc3:=(bcell hB23).1 bw (ow+k) hbl2
   rw[hc2] at hc3
   have hbl3:=block_lt_of_cell hc3
   replace k0:=k0.next hB23
   replace k1:=k1.next hB23
   replace k2:=k2.next hB3
   have hz3:w1.heap.size+1≤w3.heap.size:=by omega
   clear hB23 hB3 HF2 HX2 hc2 qk0 rk0 lk0 qk1 rk1 lk1 HB2 hz2 hbl2
   (replace qk0:=k0.cell;replace rk0:=k0.frozen;replace lk0:=k0.lt;replace qk1:=k1.cell;replace rk1:=k1.frozen;replace lk1:=k1.lt;replace qk2:=k2.cell;replace rk2:=k2.frozen;replace lk2:=k2.lt)
   obtain ⟨px,hpx⟩:∃ px,px=(parseX x).isSome:=⟨_,rfl⟩
   rw[←hpx]
   replace hpx:=Lib.hid hpx
   replace hyz:=Lib.hid hyz
   simp only
   have hbw:bw<w1.heap.size:=by
    obtain ⟨b',o',e,-,h2,-⟩:=HV.out.raw.2 (by omega)
    injection e with e
    injection e with e1
    omega
   have hd4:Hid (∀ (h:k+1<ws.length) W,Below w1.heap.size w1 W→W.cell? ⟨bw,ow+(k+1),none⟩=some (sv ws[k+1])):=Lib.hid fun h W hW=>by
    obtain ⟨b',o',e,hd⟩:=StrsV.at (Rd.keepB HV.out hW (Nat.le_refl _)) h
    injection e with e
    injection e with e1 e2
    subst e1 e2
    exact hd
   cases sb with
   | false=>
    cases hq:parseF x with
    | some f=>
     have hpF:Hid (parseF x=some ⟨fe,fa,fb⟩):=Lib.hid (by have h:=hfv.out;rw[hq] at h ⊢;exact congrArg some h)
     have hpt:pf=true:=by rw[hpf.out,hq];rfl
     subst hpt
     clear hq
     by_cases hn1:k+1<ws.length
     ·have hni:(k:Int)+1<(ws.length:Int):=by omega
      have hdc:=Lib.hid (fun W=>hd4.out hn1 W)
      obtain ⟨y,hyy⟩:∃ y,y=ws[k+1]:=⟨_,rfl⟩
      have hnb:nextB ws k=decide (y=[124]):=by unfold nextB;rw[List.getElem?_eq_getElem hn1,←hyy,decide_eq_decide];simp
      rw[←hyy] at hdc
      clear hyy
      by_cases hy:y=[124]
      ·subst hy
       have hnB:Hid (nextB ws k=true):=Lib.hid (by rw[hnb];rfl)
       clear hnb
       go_wp2_with (at_builtin;refine appFL rfl _ _ rfl (base:=w1.heap.size+1) (xs:=fs) rfl (HF3.out.below bel) rfl (FactsV.one (f:=⟨fe,fa,fb⟩) (Blk.newE (by simp))) (by simp;omega) (by simp;omega) ?_;intro A' c' w4 of4 hg4 hB4;have z0:=Blk.grownO (g:=w.heap.size) (hg:=hg4) blks (FactsO.below (w:=w3) HF3.out bel).1 (by decide);have z1b:=Blk.grownO (g:=w1.heap.size) (hg:=hg4) blks (FactsO.below (w:=w3) HF3.out bel).1 (by decide);have z1c:=z1b.cell;have z1f:=z1b.frozen;have ox4:=AtomsO.grownF (AtomsO.below (w:=w3) HX3.out bel) (FactsO.below (w:=w3) HF3.out bel) hg4;have hB34:Below (w1.heap.size+1) w3 w4:=(((Below.refl _ w3).alloc hz3 _).alloc (by simp;omega) _).trans hB4;have hl4:=z1b.lt;clear hg4 hB4;have hdy:=hdc.out w4 (HB3.out.trans (hB34.mono (Nat.le_succ _))))
       go_round
       case rel=>exact ⟨k+2,fs++[⟨fe,fa,fb⟩],xs,A',c',AA,cA,true,rfl,by go_num,by omega,by simp;omega,by omega,(of4.setT z1b (by decide) 0 _),(ox4.setT z1b (by decide) 0 _),Lib.hid (((HS.out _ (stepA_f hpF.out)).symm.trans hR.out |> fun h=>by rw[hnB.out] at h;exact h)),(by have h:=z1b.set_ 0 (.slice A' (fs.length+1) c');simpa using h),z0.far (by simp only[];omega) _,Lib.hid ((HB3.out.trans (hB34.mono (Nat.le_succ _))).setCell (Nat.le_refl _) _)⟩
       case measure=>simp[intOf];omega
      ·have hnB:Hid (nextB ws k=false):=Lib.hid (by rw[hnb];simpa using hy)
       have hyb:(y == [124])=false:=by rw[bytes_eq];simpa using hy
       clear hnb hy
       go_wp2_with (at_builtin;refine appFL rfl _ _ rfl (base:=w1.heap.size+1) (xs:=fs) rfl (HF3.out.below bel) rfl (FactsV.one (f:=⟨fe,fa,fb⟩) (Blk.newE (by simp))) (by simp;omega) (by simp;omega) ?_;intro A' c' w4 of4 hg4 hB4;have z0:=Blk.grownO (g:=w.heap.size) (hg:=hg4) blks (FactsO.below (w:=w3) HF3.out bel).1 (by decide);have z1b:=Blk.grownO (g:=w1.heap.size) (hg:=hg4) blks (FactsO.below (w:=w3) HF3.out bel).1 (by decide);have z1c:=z1b.cell;have z1f:=z1b.frozen;have ox4:=AtomsO.grownF (AtomsO.below (w:=w3) HX3.out bel) (FactsO.below (w:=w3) HF3.out bel) hg4;have hB34:Below (w1.heap.size+1) w3 w4:=(((Below.refl _ w3).alloc hz3 _).alloc (by simp;omega) _).trans hB4;have hl4:=z1b.lt;clear hg4 hB4;have hdy:=hdc.out w4 (HB3.out.trans (hB34.mono (Nat.le_succ _))))
       go_round
       case rel=>exact ⟨k+2,fs++[⟨fe,fa,fb⟩],xs,A',c',AA,cA,false,rfl,by go_num,by omega,by simp;omega,by omega,(of4.setT z1b (by decide) 0 _),(ox4.setT z1b (by decide) 0 _),Lib.hid (((HS.out _ (stepA_f hpF.out)).symm.trans hR.out |> fun h=>by rw[hnB.out] at h;exact h)),(by have h:=z1b.set_ 0 (.slice A' (fs.length+1) c');simpa using h),z0.far (by simp only[];omega) _,Lib.hid ((HB3.out.trans (hB34.mono (Nat.le_succ _))).setCell (Nat.le_refl _) _)⟩
       case measure=>simp[intOf];omega
     ·have hni:¬(k:Int)+1<(ws.length:Int):=by omega
      have hnB:Hid (nextB ws k=false):=Lib.hid (by unfold nextB;rw[List.getElem?_eq_none (by omega)];rfl)
      go_wp2_with (at_builtin;refine appFL rfl _ _ rfl (base:=w1.heap.size+1) (xs:=fs) rfl (HF3.out.below bel) rfl (FactsV.one (f:=⟨fe,fa,fb⟩) (Blk.newE (by simp))) (by simp;omega) (by simp;omega) ?_;intro A' c' w4 of4 hg4 hB4;have z0:=Blk.grownO (g:=w.heap.size) (hg:=hg4) blks (FactsO.below (w:=w3) HF3.out bel).1 (by decide);have z1b:=Blk.grownO (g:=w1.heap.size) (hg:=hg4) blks (FactsO.below (w:=w3) HF3.out bel).1 (by decide);have z1c:=z1b.cell;have z1f:=z1b.frozen;have ox4:=AtomsO.grownF (AtomsO.below (w:=w3) HX3.out bel) (FactsO.below (w:=w3) HF3.out bel) hg4;have hB34:Below (w1.heap.size+1) w3 w4:=(((Below.refl _ w3).alloc hz3 _).alloc (by simp;omega) _).trans hB4;have hl4:=z1b.lt;clear hg4 hB4)
      go_round
      case rel=>exact ⟨k+2,fs++[⟨fe,fa,fb⟩],xs,A',c',AA,cA,false,rfl,by go_num,by omega,by simp;omega,by omega,(of4.setT z1b (by decide) 0 _),(ox4.setT z1b (by decide) 0 _),Lib.hid (((HS.out _ (stepA_f hpF.out)).symm.trans hR.out |> fun h=>by rw[hnB.out] at h;exact h)),(by have h:=z1b.set_ 0 (.slice A' (fs.length+1) c');simpa using h),z0.far (by simp only[];omega) _,Lib.hid ((HB3.out.trans (hB34.mono (Nat.le_succ _))).setCell (Nat.le_refl _) _)⟩
      case measure=>simp[intOf];omega
    | none=>
     have hpO:Hid (parseF x=none):=Lib.hid hq
     have hpt:pf=false:=by rw[hpf.out,hq];rfl
     subst hpt
     clear hq
     by_cases hx1:x=[116,114,117,101]
     ·subst hx1
      have hst:Hid (stepA (fs,xs,false) [116,114,117,101]=some (fs,xs)):=Lib.hid (by rw[stepA_f0 hpO.out];rfl)
      clear hpO
      by_cases hn1:k+1<ws.length
      ·have hni:(k:Int)+1<(ws.length:Int):=by omega
       have hdc:=Lib.hid (fun W=>hd4.out hn1 W)
       obtain ⟨y,hyy⟩:∃ y,y=ws[k+1]:=⟨_,rfl⟩
       have hnb:nextB ws k=decide (y=[124]):=by unfold nextB;rw[List.getElem?_eq_getElem hn1,←hyy,decide_eq_decide];simp
       rw[←hyy] at hdc
       clear hyy
       by_cases hy:y=[124]
       ·subst hy
        have hnB:Hid (nextB ws k=true):=Lib.hid (by rw[hnb];rfl)
        clear hnb
        have hdy:=hdc.out w3 HB3.out
        go_wp2_with fail
        go_round
        case rel=>exact ⟨k+2,fs,xs,AF,cF,AA,cA,true,rfl,by go_num,by omega,by omega,by omega,HF3.out.below bel,HX3.out.below bel,Lib.hid (((HS.out _ hst.out).symm.trans hR.out |> fun h=>by rw[hnB.out] at h;exact h)),k1.alloc _,k0.alloc _,Lib.hid (HB3.out.alloc (by omega) _)⟩
        case measure=>simp[intOf];omega
       ·have hnB:Hid (nextB ws k=false):=Lib.hid (by rw[hnb];simpa using hy)
        have hyb:(y == [124])=false:=by rw[bytes_eq];simpa using hy
        clear hnb hy
        have hdy:=hdc.out w3 HB3.out
        go_wp2_with fail
        go_round
        case rel=>exact ⟨k+2,fs,xs,AF,cF,AA,cA,false,rfl,by go_num,by omega,by omega,by omega,HF3.out.below bel,HX3.out.below bel,Lib.hid (((HS.out _ hst.out).symm.trans hR.out |> fun h=>by rw[hnB.out] at h;exact h)),k1.alloc _,k0.alloc _,Lib.hid (HB3.out.alloc (by omega) _)⟩
        case measure=>simp[intOf];omega
      ·have hni:¬(k:Int)+1<(ws.length:Int):=by omega
       have hnB:Hid (nextB ws k=false):=Lib.hid (by unfold nextB;rw[List.getElem?_eq_none (by omega)];rfl)
       go_wp2_with fail
       go_round
       case rel=>exact ⟨k+2,fs,xs,AF,cF,AA,cA,false,rfl,by go_num,by omega,by omega,by omega,HF3.out.below bel,HX3.out.below bel,Lib.hid (((HS.out _ hst.out).symm.trans hR.out |> fun h=>by rw[hnB.out] at h;exact h)),k1.alloc _,k0.alloc _,Lib.hid (HB3.out.alloc (by omega) _)⟩
       case measure=>simp[intOf];omega
     ·have hx1b:(x == [116,114,117,101])=false:=by rw[bytes_eq];simpa using hx1
      by_cases hx2:x=[101,109,112]
      ·subst hx2
       have hst:Hid (stepA (fs,xs,false) [101,109,112]=some (fs,xs)):=Lib.hid (by rw[stepA_f0 hpO.out];rfl)
       clear hpO hx1 hx1b
       by_cases hn1:k+1<ws.length
       ·have hni:(k:Int)+1<(ws.length:Int):=by omega
        have hdc:=Lib.hid (fun W=>hd4.out hn1 W)
        obtain ⟨y,hyy⟩:∃ y,y=ws[k+1]:=⟨_,rfl⟩
        have hnb:nextB ws k=decide (y=[124]):=by unfold nextB;rw[List.getElem?_eq_getElem hn1,←hyy,decide_eq_decide];simp
        rw[←hyy] at hdc
        clear hyy
        by_cases hy:y=[124]
        ·subst hy
         have hnB:Hid (nextB ws k=true):=Lib.hid (by rw[hnb];rfl)
         clear hnb
         have hdy:=hdc.out w3 HB3.out
         go_wp2_with fail
         go_round
         case rel=>exact ⟨k+2,fs,xs,AF,cF,AA,cA,true,rfl,by go_num,by omega,by omega,by omega,HF3.out.below bel,HX3.out.below bel,Lib.hid (((HS.out _ hst.out).symm.trans hR.out |> fun h=>by rw[hnB.out] at h;exact h)),k1.alloc _,k0.alloc _,Lib.hid (HB3.out.alloc (by omega) _)⟩
         case measure=>simp[intOf];omega
        ·have hnB:Hid (nextB ws k=false):=Lib.hid (by rw[hnb];simpa using hy)
         have hyb:(y == [124])=false:=by rw[bytes_eq];simpa using hy
         clear hnb hy
         have hdy:=hdc.out w3 HB3.out
         go_wp2_with fail
         go_round
         case rel=>exact ⟨k+2,fs,xs,AF,cF,AA,cA,false,rfl,by go_num,by omega,by omega,by omega,HF3.out.below bel,HX3.out.below bel,Lib.hid (((HS.out _ hst.out).symm.trans hR.out |> fun h=>by rw[hnB.out] at h;exact h)),k1.alloc _,k0.alloc _,Lib.hid (HB3.out.alloc (by omega) _)⟩
         case measure=>simp[intOf];omega
       ·have hni:¬(k:Int)+1<(ws.length:Int):=by omega
        have hnB:Hid (nextB ws k=false):=Lib.hid (by unfold nextB;rw[List.getElem?_eq_none (by omega)];rfl)
        go_wp2_with fail
        go_round
        case rel=>exact ⟨k+2,fs,xs,AF,cF,AA,cA,false,rfl,by go_num,by omega,by omega,by omega,HF3.out.below bel,HX3.out.below bel,Lib.hid (((HS.out _ hst.out).symm.trans hR.out |> fun h=>by rw[hnB.out] at h;exact h)),k1.alloc _,k0.alloc _,Lib.hid (HB3.out.alloc (by omega) _)⟩
        case measure=>simp[intOf];omega
      ·have hx2b:(x == [101,109,112])=false:=by rw[bytes_eq];simpa using hx2
       have hst:Hid (stepA (fs,xs,false) x=none):=Lib.hid (by rw[stepA_f0 hpO.out,if_pos ⟨hx1,hx2⟩])
       clear hpO hx1 hx2
       have hNo:Hid (parseA l=none):=Lib.hid (HP0.out (hR.out.symm.trans (HN.out _ hst.out)))
       go_wp2_with fail
       have kz:=(((k0.set_ 0 (.slice none 0 0)).set_ 1 (.slice none 0 0)).alloc (.cells #[.int .i64 yk,.int .i64 ya,.int .i64 yb] tA)).cell
       refine bodyPost_ret (v:=.tuple #[.agg #[.slice none 0 0,.slice none 0 0],.bool false]) (by simp[results,Tryz.results80,go_sem,kz]) rfl ⟨_,by rw[hNo.out];rfl,?_,?_⟩
       ·rw[hNo.out];exact ⟨_,_,rfl,FactsO.nil _ _,AtomsO.nil _ _⟩
       ·have hb:=HW1.out.trans (HB3.out.mono (by omega:w.heap.size≤w1.heap.size));exact bel
   | true=>
    cases hq:parseX x with
    | some f=>
     have hpX:Hid (parseX x=some ⟨yk,ya,yb⟩):=Lib.hid (by rw[hq];exact congrArg some (hyz.out f hq).symm)
     have hpt:px=true:=by rw[hpx.out,hq];rfl
     subst hpt
     clear hq
     go_wp2_with (at_builtin;refine appAL rfl _ _ rfl (base:=w1.heap.size+1) (xs:=xs) rfl (HX3.out.below bel) rfl (AtomsV.one (f:=⟨yk,ya,yb⟩) (Blk.newE (by simp))) (by simp;omega) (by simp;omega) ?_;intro A' c' w4 of4 hg4 hB4;have z0:=Blk.grownO (g:=w.heap.size) (hg:=hg4) blks (AtomsO.below (w:=w3) HX3.out bel).1 (by decide);have z1b:=Blk.grownO (g:=w1.heap.size) (hg:=hg4) blks (AtomsO.below (w:=w3) HX3.out bel).1 (by decide);have z1c:=z1b.cell;have z1f:=z1b.frozen;have ox4:=FactsO.grownA (FactsO.below (w:=w3) HF3.out bel) (AtomsO.below (w:=w3) HX3.out bel) hg4;have hB34:Below (w1.heap.size+1) w3 w4:=(((Below.refl _ w3).alloc hz3 _).alloc (by simp;omega) _).trans hB4;have hl4:=z1b.lt;clear hg4 hB4)
     go_round
     case rel=>exact ⟨k+2,fs,xs++[⟨yk,ya,yb⟩],AF,cF,A',c',true,rfl,by go_num,by omega,by omega,by simp;omega,(ox4.setT z1b (by decide) 1 _),(of4.setT z1b (by decide) 1 _),Lib.hid ((HS.out _ (stepA_x hpX.out)).symm.trans hR.out),(by have h:=z1b.set_ 1 (.slice A' (xs.length+1) c');simpa using h),z0.far (by simp only[];omega) _,Lib.hid ((HB3.out.trans (hB34.mono (Nat.le_succ _))).setCell (Nat.le_refl _) _)⟩
     case measure=>simp[intOf];omega
    | none=>
     have hpO:Hid (parseX x=none):=Lib.hid hq
     have hpt:px=false:=by rw[hpx.out,hq];rfl
     subst hpt
     clear hq
     by_cases hx1:x=[116,114,117,101]
     ·subst hx1
      have hst:Hid (stepA (fs,xs,true) [116,114,117,101]=some (fs,xs)):=Lib.hid (by rw[stepA_x0 hpO.out];rfl)
      clear hpO
      go_wp2_with fail
      go_round
      case rel=>exact ⟨k+2,fs,xs,AF,cF,AA,cA,true,rfl,by go_num,by omega,by omega,by omega,HF3.out.below bel,HX3.out.below bel,Lib.hid ((HS.out _ hst.out).symm.trans hR.out),k1.alloc _,k0.alloc _,Lib.hid (HB3.out.alloc (by omega) _)⟩
      case measure=>simp[intOf];omega
     ·have hx1b:(x == [116,114,117,101])=false:=by rw[bytes_eq];simpa using hx1
      by_cases hx2:x=[101,109,112]
      ·subst hx2
       have hst:Hid (stepA (fs,xs,true) [101,109,112]=some (fs,xs)):=Lib.hid (by rw[stepA_x0 hpO.out];rfl)
       clear hpO hx1 hx1b
       go_wp2_with fail
       go_round
       case rel=>exact ⟨k+2,fs,xs,AF,cF,AA,cA,true,rfl,by go_num,by omega,by omega,by omega,HF3.out.below bel,HX3.out.below bel,Lib.hid ((HS.out _ hst.out).symm.trans hR.out),k1.alloc _,k0.alloc _,Lib.hid (HB3.out.alloc (by omega) _)⟩
       case measure=>simp[intOf];omega
      ·have hx2b:(x == [101,109,112])=false:=by rw[bytes_eq];simpa using hx2
       have hst:Hid (stepA (fs,xs,true) x=none):=Lib.hid (by rw[stepA_x0 hpO.out,if_pos ⟨hx1,hx2⟩])
       clear hpO hx1 hx2
       have hNo:Hid (parseA l=none):=Lib.hid (HP0.out (hR.out.symm.trans (HN.out _ hst.out)))
       go_wp2_with fail
       have kz:=(((k0.set_ 0 (.slice none 0 0)).set_ 1 (.slice none 0 0)).alloc (.cells #[.int .i64 yk,.int .i64 ya,.int .i64 yb] tA)).cell
       refine bodyPost_ret (v:=.tuple #[.agg #[.slice none 0 0,.slice none 0 0],.bool false]) (by simp[results,Tryz.results80,go_sem,kz]) rfl ⟨_,by rw[hNo.out];rfl,?_,?_⟩
       ·rw[hNo.out];exact ⟨_,_,rfl,FactsO.nil _ _,AtomsO.nil _ _⟩
       ·have hb:=HW1.out.trans (HB3.out.mono (by omega:w.heap.size≤w1.heap.size));exact bel
  ·have hki:¬(k:Int)<(ws.length:Int):=by omega
   have hE:=Lib.hid (HP1.out ⟨fs,xs⟩ hl3 (hR.out.symm.trans (readA_end (by omega))))
   have HA:Hid (AsnO wr (w1.heap.size+1) (.agg #[.slice AF fs.length cF,.slice AA xs.length cA]) ⟨fs,xs⟩):=Lib.hid ⟨_,_,rfl,HF.out,HX.out⟩
   go_wp2_with fail
   refine (c_FormatAssertion _ ⟨fs,xs⟩ _ HA.out.reads).mono ?_
   rintro e w5 ⟨rfl,hB5⟩
   have HB5:=Lib.hid (bgo HB.out hB5)
   replace k0:=k0.next hB5
   replace k1:=k1.next hB5
   have HA5:=Lib.hid (HA.out.below hB5)
   clear hB5 HA qk0 rk0 lk0 qk1 rk1 lk1
   (replace qk0:=k0.cell;replace rk0:=k0.frozen;replace lk0:=k0.lt;replace qk1:=k1.cell;replace rk1:=k1.frozen;replace lk1:=k1.lt)
   obtain ⟨T,hT⟩:∃ T,T=fmtA ⟨fs,xs⟩:=⟨_,rfl⟩
   rw[←hT] at hE ⊢
   clear hT
   by_cases ht:T=l
   ·subst ht
    by_cases he:T=[]
    ·subst he
     have hNo:Hid (parseA []=none):=Lib.hid (by rw[hE.out];rfl)
     clear hE
     go_wp2_with fail
     have kz:=((k0.set_ 0 (.slice none 0 0)).set_ 1 (.slice none 0 0)).cell
     refine bodyPost_ret (v:=.tuple #[.agg #[.slice none 0 0,.slice none 0 0],.bool false]) (by simp[results,Tryz.results80,go_sem,kz]) rfl ⟨_,by rw[hNo.out];rfl,?_,?_⟩
     ·rw[hNo.out];exact ⟨_,_,rfl,FactsO.nil _ _,AtomsO.nil _ _⟩
     ·have hb:=HW1.out.trans (HB5.out.mono (by omega:w.heap.size≤w1.heap.size));exact bel
    ·have heb:(T == [])=false:=by rw[bytes_eq];simpa using he
     have hYes:Hid (parseA T=some ⟨fs,xs⟩):=Lib.hid (by rw[hE.out,if_pos ⟨rfl,he⟩])
     clear hE he
     go_wp2_with fail
     have kz:=((k0.set_ 0 (.slice AF fs.length cF)).set_ 1 (.slice AA xs.length cA)).cell
     refine bodyPost_ret (v:=.tuple #[.agg #[.slice AF fs.length cF,.slice AA xs.length cA],.bool true]) (by simp[results,Tryz.results80,go_sem,kz]) rfl ⟨_,by rw[hYes.out];rfl,?_,?_⟩
     ·rw[hYes.out]
      obtain ⟨fv,av,e,h1,h2⟩:=HA5.out
      injection e with e;injection e with e;injection e with e1 e2;injection e2 with e2;subst e1 e2
      exact ⟨_,_,rfl,((h1.setT k0 (by decide) 0 _).setT (k0.set_ _ _) (by decide) 1 _).lower (by omega),((h2.setT k0 (by decide) 0 _).setT (k0.set_ _ _) (by decide) 1 _).lower (by omega)⟩
     ·have hb:=HW1.out.trans (HB5.out.mono (by omega:w.heap.size≤w1.heap.size));exact bel
   ·have htb:(T == l)=false:=by rw[bytes_eq];simpa using ht
    have hNo:Hid (parseA l=none):=Lib.hid (by rw[hE.out,if_neg (fun h=>ht h.1)])
    clear hE ht
    go_wp2_with fail
    have kz:=((k0.set_ 0 (.slice none 0 0)).set_ 1 (.slice none 0 0)).cell
    refine bodyPost_ret (v:=.tuple #[.agg #[.slice none 0 0,.slice none 0 0],.bool false]) (by simp[results,Tryz.results80,go_sem,kz]) rfl ⟨_,by rw[hNo.out];rfl,?_,?_⟩
    ·rw[hNo.out];exact ⟨_,_,rfl,FactsO.nil _ _,AtomsO.nil _ _⟩
    ·have hb:=HW1.out.trans (HB5.out.mono (by omega:w.heap.size≤w1.heap.size));exact bel
end Go.Proofs.YtjbboklnegfohaaGreatDoor

/- Contracts: a command's first line from a text (spec). -/
namespace Go.Proofs.YtjbboklnegfohaaGreatDoor
open Go Go.RowKit Go.Proofs
theorem sliceLH (l:Bs) (i j:Nat) (ii jj:Int) (hi:ii=i) (hj:jj=j) (hij:i≤j) (hjl:j≤l.length) (w:World):(Instr.slice 9 (sv l) (some (.int .i64 ii)) (some (.int .i64 jj)) none).run Tryz.prog w=.ok (sv ((l.drop i).take (j - i))) w:=by
 subst hi hj
 rw[run_slice_string w 9 _ .i64 .i64 _ _ Tryz.underlying9 (by omega) (by omega) (by simp[ByteArray.size];omega)]
 simp only[Int.toNat_natCast,bext]
theorem sliceH (l:Bs) (j:Nat) (jj:Int) (hj:jj=j) (hjl:j≤l.length) (w:World):(Instr.slice 9 (sv l) none (some (.int .i64 jj)) none).run Tryz.prog w=.ok (sv (l.take j)) w:=by
 subst hj
 rw[run_slice_string_h w 9 _ Tryz.underlying9 .i64 _ (by omega) (by simp[ByteArray.size];omega)]
 simp only[Int.toNat_natCast,bext,List.drop_zero,Nat.sub_zero]
theorem sliceL (l:Bs) (i:Nat) (ii:Int) (hi:ii=i) (hil:i≤l.length) (w:World):(Instr.slice 9 (sv l) (some (.int .i64 ii)) none none).run Tryz.prog w=.ok (sv (l.drop i)) w:=by
 subst hi
 rw[run_slice_string_l w 9 _ Tryz.underlying9 .i64 _ (by omega) (by simp[ByteArray.size];omega)]
 simp only[Int.toNat_natCast,bext]
 rw[List.take_of_length_le (by simp[ByteArray.size])]
set_option maxRecDepth 100000 in
set_option maxHeartbeats 3200000 in
theorem c_l8Split (l m:Bs) (w:World) (hl:l.length≤2000000) (hm:m.length≤100):Calls Tryz.prog 76 #[sv l,sv m] w fun e w'=>e=.returned (.tuple #[sv (splitM l m).1,sv (splitM l m).2.1,.bool (splitM l m).2.2])∧Below w.heap.size w w':=by
 go_enter Tryz.func76,Tryz.ntmps76
 go_wp2_with fail
 go_loopw [7] (fun i wr=>∃ k:Nat,k≤l.length+1∧i=.int .i64 k∧Hid (∀ j:Nat,j<k→isMark l m j=false)∧wr=w) (fun i _=>l.length+2 - (intOf i).toNat)
 case atStart=>exact ⟨0,by omega,rfl,Lib.hid fun j h=>by omega,rfl⟩
 case round=>
  obtain ⟨k,hk,rfl,HN,rfl⟩:=hrel
  by_cases hle:k+m.length≤l.length
  ·have hki:(k:Int)+(m.length:Int)≤(l.length:Int):=by omega
   cases he:isMark l m k
   ·obtain ⟨z,hz⟩:∃ z,z=(l.drop k).take m.length:=⟨_,rfl⟩
    have hsl:=fun W:World=>sliceLH l k (k+m.length) (k:Int) ((k:Int)+(m.length:Int)) rfl (by omega) (by omega) hle W
    rw[Nat.add_sub_cancel_left,←hz] at hsl
    have hzm:(z == m)=false:=by
     unfold isMark at he
     rw[bytes_eq,hz];exact he
    have HM:Hid (∀ j:Nat,j<k+1→isMark l m j=false):=Lib.hid fun j hj=>by
     by_cases e:j=k
     ·subst e;exact he
     ·exact HN.out j (by omega)
    clear he hz
    go_wp2_with fail
    go_round
    case rel=>exact ⟨k+1,by omega,by go_num,HM,by first|rfl|trivial⟩
    case measure=>simp[intOf];omega
   ·have hsl:=fun W:World=>sliceLH l k (k+m.length) (k:Int) ((k:Int)+(m.length:Int)) rfl (by omega) (by omega) hle W
    rw[Nat.add_sub_cancel_left,show (l.drop k).take m.length=m from of_decide_eq_true he] at hsl
    have hs2:=fun W:World=>sliceH l k (k:Int) rfl (by omega) W
    have hs3:=fun W:World=>sliceL l (k+m.length) ((k:Int)+(m.length:Int)) (by omega) (by omega) W
    have HR:=Lib.hid (findM_some hle he HN.out)
    have hS:Hid (splitM l m=(l.take k,l.drop (k+m.length),true)):=Lib.hid (by unfold splitM;rw[HR.out])
    clear he HR
    go_wp2_with fail
    go_quiet (fail)
    go_wp2_with fail
    refine bodyPost_ret (v:=.tuple #[sv (l.take k),sv (l.drop (k+m.length)),.bool true]) (by simp[results,Tryz.results76,go_sem]) rfl ⟨by rw[hS.out],bel⟩
  ·have hki:¬(k:Int)+(m.length:Int)≤(l.length:Int):=by omega
   have hS:Hid (splitM l m=(l,[],false)):=Lib.hid (by unfold splitM;rw[findM_none (fun j hj=>HN.out j (by omega))])
   go_wp2_with fail
   refine bodyPost_ret (v:=.tuple #[sv l,sv [],.bool false]) (by simp[results,Tryz.results76,go_sem]) rfl ⟨by rw[hS.out],bel⟩
theorem bare_no {l:Bs} (h:l.length<2∨l.head?≠some 91∨l.getLast?≠some 93):bareL l=(l,false):=by unfold bareL;rw[if_pos h]
theorem bare_yes {l:Bs} (h:2≤l.length) (h1:l[0]'(by omega)=91) (h2:l[l.length - 1]'(by omega)=93):bareL l=((l.drop 1).take (l.length - 2),true):=by
 unfold bareL
 rw[if_neg]
 rintro (h3|h3|h3)
 ·omega
 ·exact h3 (by rw[List.head?_eq_getElem?,List.getElem?_eq_getElem (by omega),h1])
 ·exact h3 (by rw[List.getLast?_eq_getElem?,List.getElem?_eq_getElem (by omega),h2])
set_option maxRecDepth 100000 in
set_option maxHeartbeats 3200000 in
theorem c_l8Bare (l:Bs) (w:World) (hl:l.length≤2000000):Calls Tryz.prog 94 #[sv l] w fun e w'=>e=.returned (.tuple #[sv (bareL l).1,.bool (bareL l).2])∧Below w.heap.size w w':=by
 by_cases h2:l.length<2
 ·have h2i:(l.length:Int)<2:=by omega
  have hR:=Lib.hid (bare_no (Or.inl h2))
  clear h2
  go_enter Tryz.func94,Tryz.ntmps94
  go_wp2_with fail
  refine bodyPost_ret (v:=.tuple #[sv l,.bool false]) (by simp[results,Tryz.results94,go_sem]) rfl ⟨by rw[hR.out],bel⟩
 ·have h2i:¬(l.length:Int)<2:=by omega
  have h0i:(0:Int)<(l.length:Int):=by omega
  obtain ⟨n,hn⟩:∃ n,n+1=l.length:=⟨l.length - 1,by omega⟩
  have hni:(l.length:Int) - 1=(n:Int):=by omega
  have hnl:(n:Int)<(l.length:Int):=by omega
  have hx:=bidx l 0 (by omega)
  have hy:=bidx l n (by omega)
  by_cases ha:l[0]'(by omega)=91
  ·by_cases hb:l[n]'(by omega)=93
   ·have hR:=Lib.hid (bare_yes (by omega) ha (by simpa[←hn] using hb))
    rw[ha] at hx
    rw[hb] at hy
    have h1n:(1:Int)≤(n:Int):=by omega
    have hnn:(n:Int)≤(l.length:Int):=by omega
    have hsl:=fun W:World=>sliceLH l 1 n 1 (n:Int) rfl rfl (by omega) (by omega) W
    rw[show n - 1=l.length - 2 by omega] at hsl
    clear ha hb
    go_enter Tryz.func94,Tryz.ntmps94
    go_wp2_with fail
    refine bodyPost_ret (v:=.tuple #[sv ((l.drop 1).take (l.length - 2)),.bool true]) (by simp[results,Tryz.results94,go_sem]) rfl ⟨by rw[hR.out],bel⟩
   ·have hR:=Lib.hid (bare_no (l:=l) (Or.inr (Or.inr (by rw[List.getLast?_eq_getElem?,←hn,Nat.add_sub_cancel,List.getElem?_eq_getElem (by omega)];simpa using hb))))
    rw[ha] at hx
    obtain ⟨c,hc⟩:∃ c,c=l[n]'(by omega):=⟨_,rfl⟩
    rw[←hc] at hy hb
    have hb1:((c.toNat:Int) == 93)=false:=by rw[show (93:Int)=((93:Nat):Int) from rfl,u8_eq c 93 (by decide)];simpa using hb
    have hb2:¬((c.toNat:Int)=93):=by simpa using hb1
    clear hc hb ha
    go_enter Tryz.func94,Tryz.ntmps94
    go_wp2_with fail
    refine bodyPost_ret (v:=.tuple #[sv l,.bool false]) (by simp[results,Tryz.results94,go_sem]) rfl ⟨by rw[hR.out],bel⟩
  ·have hR:=Lib.hid (bare_no (l:=l) (Or.inr (Or.inl (by rw[List.head?_eq_getElem?,List.getElem?_eq_getElem (by omega)];simpa using ha))))
   obtain ⟨c,hc⟩:∃ c,c=l[0]'(by omega):=⟨_,rfl⟩
   rw[←hc] at hx ha
   have hb1:((c.toNat:Int) == 91)=false:=by rw[show (91:Int)=((91:Nat):Int) from rfl,u8_eq c 91 (by decide)];simpa using ha
   have hb2:¬((c.toNat:Int)=91):=by simpa using hb1
   clear hc ha
   go_enter Tryz.func94,Tryz.ntmps94
   go_wp2_with fail
   refine bodyPost_ret (v:=.tuple #[sv l,.bool false]) (by simp[results,Tryz.results94,go_sem]) rfl ⟨by rw[hR.out],bel⟩
end Go.Proofs.YtjbboklnegfohaaGreatDoor

/- Contracts: a command's head from its first line (spec). -/
namespace Go.Proofs.YtjbboklnegfohaaGreatDoor
open Go Go.RowKit Go.Proofs
theorem below_ten {a w:World} {cb:Nat} {v0 v1 v2 v3 v4 v5 v6 v7 v8 v9:Value} (h:Below a.heap.size a w) (hc:a.heap.size≤cb):Below a.heap.size a (((((((((((w).setCell ⟨cb,0,none⟩ v0).setCell ⟨cb,1,none⟩ v1).setCell ⟨cb,2,none⟩ v2).setCell ⟨cb,3,none⟩ v3).setCell ⟨cb,4,none⟩ v4).setCell ⟨cb,5,none⟩ v5).setCell ⟨cb,6,none⟩ v6).setCell ⟨cb,7,none⟩ v7).setCell ⟨cb,8,none⟩ v8).setCell ⟨cb,9,none⟩ v9):=by
 iterate 10 (refine Below.setCell ?_ (by simp only;exact hc) _)
 exact h
theorem own_ten {w:World} {cb base size n:Nat} {t e:TypeId} {v:Value} {xs:List Value} {cs:Array Value} {v0 v1 v2 v3 v4 v5 v6 v7 v8 v9:Value} (h:w.ownsRow base e size v n xs) (hk:Blk w cb t cs) (ht:t≠e):World.ownsRow (((((((((((w).setCell ⟨cb,0,none⟩ v0).setCell ⟨cb,1,none⟩ v1).setCell ⟨cb,2,none⟩ v2).setCell ⟨cb,3,none⟩ v3).setCell ⟨cb,4,none⟩ v4).setCell ⟨cb,5,none⟩ v5).setCell ⟨cb,6,none⟩ v6).setCell ⟨cb,7,none⟩ v7).setCell ⟨cb,8,none⟩ v8).setCell ⟨cb,9,none⟩ v9) base e size v n xs:=by
 refine own_keep h fun g hg _=>ten0_far fun e0=>?_
 obtain ⟨_,h2⟩:=h
 rcases h2 with ⟨rfl,_⟩|⟨g',cap,cur,rfl,_,hh,_⟩
 ·simp[Value.ownBlock] at hg
 ·simp only[Value.ownBlock,Option.some.injEq] at hg
  subst hg e0
  exact Blk.ne_ hk hh ht rfl
set_option maxRecDepth 100000 in
set_option maxHeartbeats 6400000 in
theorem c_l8Assign (x y:Bs) (w:World) (hx:x.length≤2000000) (hy:y.length≤2000000):Calls Tryz.prog 77 #[sv x,sv y] w fun e w'=>e=.returned (.agg (simC (asgnPF x y).k (asgnPF x y).a (asgnPF x y).b))∧Below w.heap.size w w':=by
 have c1:=Lib.hid (fun w=>c_l8Bare x w hx)
 have c2:=Lib.hid (fun w=>c_l8Bare y w hy)
 have hA:Hid (asgnPF x y=⟨if (bareL y).2 then 2 else if (bareL x).2 then 3 else 1,pT (bareL x).1,pT (bareL y).1,fctZ,⟨[],[]⟩⟩):=Lib.hid rfl
 have hta:=Lib.hid (show pT (bareL x).1=(((parseT (bareL x).1).getD 0:Nat):Int) from rfl)
 have htb:=Lib.hid (show pT (bareL y).1=(((parseT (bareL y).1).getD 0:Nat):Int) from rfl)
 obtain ⟨bx,hbx⟩:∃ b,b=(bareL x).2:=⟨_,rfl⟩
 obtain ⟨by',hby⟩:∃ b,b=(bareL y).2:=⟨_,rfl⟩
 obtain ⟨sx,hsx⟩:∃ b,b=(bareL x).1:=⟨_,rfl⟩
 obtain ⟨sy,hsy⟩:∃ b,b=(bareL y).1:=⟨_,rfl⟩
 rw[←hbx,←hsx] at c1
 rw[←hby,←hsy] at c2
 rw[←hbx,←hby,←hsx,←hsy] at hA
 rw[←hsx] at hta
 rw[←hsy] at htb
 clear hbx hby hsx hsy
 obtain ⟨ta,hta2⟩:∃ t:Int,t=pT sx:=⟨_,rfl⟩
 obtain ⟨tb,htb2⟩:∃ t:Int,t=pT sy:=⟨_,rfl⟩
 rw[←hta2] at hA hta
 rw[←htb2] at hA htb
 clear hta2 htb2
 have k0:Blk (w.alloc (.cells (simC 0 0 0) tC)) w.heap.size tC (simC 0 0 0):=Blk.new _ _ _
 go_enter Tryz.func77,Tryz.ntmps77
 go_wp2_with fail
 refine (c1.out _).mono ?_
 rintro e w1 ⟨rfl,hB1⟩
 replace k0:=k0.next hB1
 have HB1:=Lib.hid (bgo (w:=w) (bel:Below w.heap.size w (w.alloc (.cells (simC 0 0 0) tC))) hB1)
 clear hB1
 go_wp2_with fail
 refine (c2.out _).mono ?_
 rintro e w2 ⟨rfl,hB2⟩
 replace k0:=k0.next hB2
 have HB2:=Lib.hid (bgo HB1.out hB2)
 clear hB2 HB1
 go_wp2_with fail
 refine (c_ParseTerm sx _).mono ?_
 rintro e w3 ⟨rfl,rfl⟩
 rw[←hta.out]
 go_wp2_with fail
 refine (c_ParseTerm sy _).mono ?_
 rintro e w3 ⟨rfl,rfl⟩
 rw[←htb.out]
 have q0:=k0.cell
 have r0:=k0.frozen
 have l0:=k0.lt
 unfold simC at q0 k0
 cases by'
 ·cases bx
  ·go_wp2_with fail
   refine retW (D:=fun T=>Blk T w.heap.size tC (simC 1 ta tb)∧Below w.heap.size w T) ⟨ten0 k0,below_ten HB2.out (Nat.le_refl _)⟩ ?_
   rintro T ⟨kT,r1⟩
   have t:=kT.cell
   exact bodyPost_ret (v:=.agg (simC 1 ta tb)) (by simp[results,Tryz.results77,go_sem,simC,t]) rfl ⟨by rw[hA.out];rfl,r1⟩
  ·go_wp2_with fail
   refine retW (D:=fun T=>Blk T w.heap.size tC (simC 3 ta tb)∧Below w.heap.size w T) ⟨ten0 k0,below_ten HB2.out (Nat.le_refl _)⟩ ?_
   rintro T ⟨kT,r1⟩
   have t:=kT.cell
   exact bodyPost_ret (v:=.agg (simC 3 ta tb)) (by simp[results,Tryz.results77,go_sem,simC,t]) rfl ⟨by rw[hA.out];rfl,r1⟩
 ·cases bx
  ·go_wp2_with fail
   refine retW (D:=fun T=>Blk T w.heap.size tC (simC 2 ta tb)∧Below w.heap.size w T) ⟨ten0 k0,below_ten HB2.out (Nat.le_refl _)⟩ ?_
   rintro T ⟨kT,r1⟩
   have t:=kT.cell
   exact bodyPost_ret (v:=.agg (simC 2 ta tb)) (by simp[results,Tryz.results77,go_sem,simC,t]) rfl ⟨by rw[hA.out];rfl,r1⟩
  ·go_wp2_with fail
   refine retW (D:=fun T=>Blk T w.heap.size tC (simC 2 ta tb)∧Below w.heap.size w T) ⟨ten0 k0,below_ten HB2.out (Nat.le_refl _)⟩ ?_
   rintro T ⟨kT,r1⟩
   have t:=kT.cell
   exact bodyPost_ret (v:=.agg (simC 2 ta tb)) (by simp[results,Tryz.results77,go_sem,simC,t]) rfl ⟨by rw[hA.out];rfl,r1⟩
end Go.Proofs.YtjbboklnegfohaaGreatDoor

/- Contracts: a command's head (spec.l8Head). -/
namespace Go.Proofs.YtjbboklnegfohaaGreatDoor
open Go Go.RowKit Go.Proofs
def headV (h:Hd) (fv av:Value):Value:=.agg #[.int .i64 h.k,.int .i64 h.a,.int .i64 h.b,.bool h.t.eq,.int .i64 h.t.a,.int .i64 h.t.b,fv,av,.slice none 0 0,.slice none 0 0]
theorem head1 {l:Bs} (h:(splitM l [58,61]).2.2=true):headF l=asgnPF (splitM l [58,61]).1 (splitM l [58,61]).2.1:=by unfold headF;rw[if_pos h]
theorem headI0 {l:Bs} (h:(splitM l [58,61]).2.2=false):headF l=wordF (splitM l [32]).1 (splitM l [32]).2.1:=by unfold headF;rw[h];rfl
theorem word7 {word rest:Bs} (h1:word≠[110,101,119]) (h2:word≠[102,114,101,101]) (h3:word≠[105,102]) :
  wordF word rest=⟨7,0,0,pF (splitM rest [32,119,105,116,104,32]).1,pA (splitM rest [32,119,105,116,104,32]).2.1⟩:=by
 unfold wordF;rw[if_neg h1,if_neg h2,if_neg h3]
theorem headV_sim {h:Hd} (hi:h.i=⟨[],[]⟩) (ht:h.t=fctZ):Value.agg (simC h.k h.a h.b)=headV h (.slice none 0 0) (.slice none 0 0):=by
 obtain ⟨k,a,b,t,i⟩:=h
 simp only at hi ht
 subst hi ht
 rfl
set_option maxRecDepth 100000 in
set_option maxHeartbeats 6400000 in
theorem c_l8Head (l:Bs) (w:World) (hl:l.length≤1000000):Calls Tryz.prog 46 #[sv l] w fun e w'=>∃ fv av,e=.returned (headV (headF l) fv av)∧FactsO w' w.heap.size fv (headF l).i.facts∧AtomsO w' w.heap.size av (headF l).i.atoms∧Below w.heap.size w w':=by
 have k0:Blk (w.alloc (.cells (simC 0 0 0) tC)) w.heap.size tC (simC 0 0 0):=Blk.new _ _ _
 have s1:=splitM_len l [58,61]
 have s2:=splitM_len l [32]
 have H1:=Lib.hid (fun h=>head1 (l:=l) h)
 have H0:=Lib.hid (fun h=>headI0 (l:=l) h)
 have c1:=fun w=>c_l8Split l [58,61] w (by omega) (by simp)
 have c2:=fun w=>c_l8Split l [32] w (by omega) (by simp)
 obtain ⟨⟨le,ri,ok⟩,hs⟩:∃ s,s=splitM l [58,61]:=⟨_,rfl⟩
 obtain ⟨⟨wo,re,o2⟩,hs2⟩:∃ s,s=splitM l [32]:=⟨_,rfl⟩
 rw[←hs] at s1 H1 H0 c1
 rw[←hs2] at s2 H0 c2
 clear hs hs2
 simp only at s1 s2 c1 c2
 obtain ⟨l1,l2⟩:=s1
 obtain ⟨l3,l4⟩:=s2
 replace c1:=Lib.hid c1
 replace c2:=Lib.hid c2
 go_enter Tryz.func46,Tryz.ntmps46
 go_wp2_with fail
 refine (c1.out _).mono ?_
 rintro e w1 ⟨rfl,hB1⟩
 replace k0:=k0.next hB1
 have HB1:=Lib.hid (bgo (w:=w) (bel:Below w.heap.size w (w.alloc (.cells (simC 0 0 0) tC))) hB1)
 clear hB1 c1
 cases ok with
 | true=>
  have hH:=Lib.hid (H1.out rfl)
  clear H0 H1
  have q0:=k0.cell
  have r0:=k0.frozen
  have l0:=k0.lt
  go_wp2_with fail
  refine (c_l8Assign le ri _ (by omega) (by omega)).mono ?_
  rintro e w2 ⟨rfl,hB2⟩
  replace k0:=k0.next hB2
  have HB2:=Lib.hid (bgo HB1.out hB2)
  clear hB2 HB1 q0 r0 l0
  obtain ⟨ak,aa,ab,hak⟩:∃ k a b,k=(asgnPF le ri).k∧a=(asgnPF le ri).a∧b=(asgnPF le ri).b:=⟨_,_,_,rfl,rfl,rfl⟩
  have hv:Hid (Value.agg (simC ak aa ab)=headV (asgnPF le ri) (.slice none 0 0) (.slice none 0 0)):=Lib.hid (by rw[hak.1,hak.2.1,hak.2.2];exact headV_sim rfl rfl)
  rw[←hak.1,←hak.2.1,←hak.2.2]
  clear hak
  have q0:=k0.cell
  have r0:=k0.frozen
  have l0:=k0.lt
  unfold simC at q0 k0
  go_wp2_with fail
  unfold simC
  go_wp2_with fail
  refine retW (D:=fun T=>Blk T w.heap.size tC (simC ak aa ab)∧Below w.heap.size w T) ⟨ten0 k0,below_ten HB2.out (Nat.le_refl _)⟩ ?_
  rintro T ⟨kT,r1⟩
  have t:=kT.cell
  exact bodyPost_ret (v:=.agg (simC ak aa ab)) (by simp[results,Tryz.results46,go_sem,simC,t]) rfl ⟨_,_,by rw[hH.out,hv.out],by rw[hH.out];exact FactsO.nil _ _,by rw[hH.out];exact AtomsO.nil _ _,r1⟩
 | false=>
  have hH:=Lib.hid (H0.out rfl)
  clear H0 H1
  have q0:=k0.cell
  have r0:=k0.frozen
  have l0:=k0.lt
  go_wp2_with fail
  refine (c2.out _).mono ?_
  rintro e w2 ⟨rfl,hB2⟩
  replace k0:=k0.next hB2
  have HB2:=Lib.hid (bgo HB1.out hB2)
  clear hB2 HB1 q0 r0 l0
  have q0:=k0.cell
  have r0:=k0.frozen
  have l0:=k0.lt
  go_wp2_with fail
  refine (c_ParseTerm re _).mono ?_
  rintro e w3 ⟨rfl,rfl⟩
  obtain ⟨ta,hta⟩:∃ t:Int,t=pT re:=⟨_,rfl⟩
  rw[show (((parseT re).getD 0:Nat):Int)=ta from hta.symm]
  by_cases h1:wo=[110,101,119]
  ·subst h1
   have hH2:Hid (headF l=⟨4,ta,0,fctZ,⟨[],[]⟩⟩):=Lib.hid (by rw[hH.out,hta];rfl)
   clear hH hta
   unfold simC at q0 k0
   go_wp2_with fail
   refine retW (D:=fun T=>Blk T w.heap.size tC (simC 4 ta 0)∧Below w.heap.size w T) ⟨ten0 k0,below_ten HB2.out (Nat.le_refl _)⟩ ?_
   rintro T ⟨kT,r1⟩
   have t:=kT.cell
   exact bodyPost_ret (v:=.agg (simC 4 ta 0)) (by simp[results,Tryz.results46,go_sem,simC,t]) rfl ⟨_,_,by rw[hH2.out];rfl,by rw[hH2.out];exact FactsO.nil _ _,by rw[hH2.out];exact AtomsO.nil _ _,r1⟩
  have h1b:(wo == [110,101,119])=false:=by rw[bytes_eq];simpa using h1
  by_cases h2:wo=[102,114,101,101]
  ·subst h2
   have hH2:Hid (headF l=⟨5,ta,0,fctZ,⟨[],[]⟩⟩):=Lib.hid (by rw[hH.out,hta];rfl)
   clear hH hta h1 h1b
   unfold simC at q0 k0
   go_wp2_with fail
   refine retW (D:=fun T=>Blk T w.heap.size tC (simC 5 ta 0)∧Below w.heap.size w T) ⟨ten0 k0,below_ten HB2.out (Nat.le_refl _)⟩ ?_
   rintro T ⟨kT,r1⟩
   have t:=kT.cell
   exact bodyPost_ret (v:=.agg (simC 5 ta 0)) (by simp[results,Tryz.results46,go_sem,simC,t]) rfl ⟨_,_,by rw[hH2.out];rfl,by rw[hH2.out];exact FactsO.nil _ _,by rw[hH2.out];exact AtomsO.nil _ _,r1⟩
  have h2b:(wo == [102,114,101,101])=false:=by rw[bytes_eq];simpa using h2
  by_cases h3:wo=[105,102]
  ·subst h3
   have hH2:Hid (headF l=⟨6,0,0,pF re,⟨[],[]⟩⟩):=Lib.hid (by rw[hH.out];rfl)
   clear hH hta h1 h1b h2 h2b
   go_wp2_with fail
   refine (c_ParseFact re _).mono ?_
   rintro e w4 ⟨rfl,hB4⟩
   replace k0:=k0.next hB4
   have HB4:=Lib.hid (bgo HB2.out hB4)
   clear hB4 HB2 q0 r0 l0
   obtain ⟨fe,fa,fb,hfv⟩:∃ fe fa fb,((parseF re).getD fct0)=⟨fe,fa,fb⟩:=⟨_,_,_,rfl⟩
   have hfv2:((parseF re).getD fct0).val=.agg #[.bool fe,.int .i64 fa,.int .i64 fb]:=by rw[hfv]
   rw[hfv2]
   have hH3:Hid (headF l=⟨6,0,0,⟨fe,fa,fb⟩,⟨[],[]⟩⟩):=Lib.hid (by rw[hH2.out,←hfv];rfl)
   clear hfv hfv2 hH2
   have q0:=k0.cell
   have r0:=k0.frozen
   have l0:=k0.lt
   unfold simC at q0 k0
   go_wp2_with fail
   refine retW (D:=fun T=>Blk T w.heap.size tC #[.int .i64 6,.int .i64 0,.int .i64 0,.bool fe,.int .i64 fa,.int .i64 fb,.slice none 0 0,.slice none 0 0,.slice none 0 0,.slice none 0 0]∧Below w.heap.size w T) ⟨(ten0 k0).alloc _,(below_ten HB4.out (Nat.le_refl _)).alloc (by simp;omega) _⟩ ?_
   rintro T ⟨kT,r1⟩
   have t:=kT.cell
   exact bodyPost_ret (v:=headV ⟨6,0,0,⟨fe,fa,fb⟩,⟨[],[]⟩⟩ (.slice none 0 0) (.slice none 0 0)) (by simp[results,Tryz.results46,go_sem,headV,t]) rfl ⟨_,_,by rw[hH3.out],by rw[hH3.out];exact FactsO.nil _ _,by rw[hH3.out];exact AtomsO.nil _ _,r1⟩
  have h3b:(wo == [105,102])=false:=by rw[bytes_eq];simpa using h3
  have hH2:=Lib.hid (hH.out.trans (word7 h1 h2 h3))
  have s5:=splitM_len re [32,119,105,116,104,32]
  have c5:=fun w=>c_l8Split re [32,119,105,116,104,32] w (by omega) (by simp)
  obtain ⟨⟨te,iv,o3⟩,hs5⟩:∃ s,s=splitM re [32,119,105,116,104,32]:=⟨_,rfl⟩
  rw[←hs5] at s5 c5 hH2
  clear hs5 h1 h2 h3 hH hta
  simp only at s5 c5
  replace c5:=Lib.hid c5
  go_wp2_with fail
  refine (c5.out _).mono ?_
  rintro e w5 ⟨rfl,hB5⟩
  replace k0:=k0.next hB5
  have HB5:=Lib.hid (bgo HB2.out hB5)
  clear hB5 HB2 q0 r0 l0 c5
  have q0:=k0.cell
  have r0:=k0.frozen
  have l0:=k0.lt
  go_wp2_with fail
  refine (c_ParseFact te _).mono ?_
  rintro e w6 ⟨rfl,hB6⟩
  replace k0:=k0.next hB6
  have HB6:=Lib.hid (bgo HB5.out hB6)
  clear hB6 HB5 q0 r0 l0
  obtain ⟨fe,fa,fb,hfv⟩:∃ fe fa fb,((parseF te).getD fct0)=⟨fe,fa,fb⟩:=⟨_,_,_,rfl⟩
  have hfv2:((parseF te).getD fct0).val=.agg #[.bool fe,.int .i64 fa,.int .i64 fb]:=by rw[hfv]
  rw[hfv2]
  have hH3:Hid (headF l=⟨7,0,0,⟨fe,fa,fb⟩,pA iv⟩):=Lib.hid (by rw[hH2.out,←hfv];rfl)
  clear hfv hfv2 hH2
  have q0:=k0.cell
  have r0:=k0.frozen
  have l0:=k0.lt
  have hne:w.heap.size≠w6.heap.size:=by omega
  have k2:Blk (w6.alloc (.cells #[.bool fe,.int .i64 fa,.int .i64 fb] tF)) w6.heap.size tF #[.bool fe,.int .i64 fa,.int .i64 fb]:=blks
  go_wp2_with fail
  refine (c_ParseAssertion iv _ (by omega)).mono ?_
  rintro e w7 ⟨r7,rfl,o7,hB7⟩
  have z7:w6.heap.size+1≤w7.heap.size:=by simpa using hB7.size
  have hB67:Below w6.heap.size w6 w7:=bgo (w:=w6) bel hB7
  replace k0:=k0.next hB67
  replace k2:=k2.next hB7
  have HB7:=Lib.hid (bgo HB6.out hB67)
  have zz:=HB6.out.size
  have zw:w.heap.size≤(w6.alloc (.cells #[.bool fe,.int .i64 fa,.int .i64 fb] tF)).heap.size:=by simp;omega
  clear HB6 q0 r0 l0
  obtain ⟨i,hi⟩:∃ i,i=pA iv:=⟨_,rfl⟩
  rw[show (parseA iv).getD ⟨[],[]⟩=i from hi.symm] at o7
  rw[←hi] at hH3
  clear hi
  obtain ⟨fv,av,rfl,of,oa⟩:=o7
  obtain ⟨AF,cF,rfl,-⟩:=of.reads
  obtain ⟨AA,cA,rfl,-⟩:=oa.reads
  have HF:=Lib.hid (of.lower (base':=w.heap.size) zw)
  have HA:=Lib.hid (oa.lower (base':=w.heap.size) zw)
  clear of oa hB7 hB67
  obtain ⟨px,hpx⟩:∃ p,p=(parseA iv).isSome:=⟨_,rfl⟩
  rw[←hpx]
  clear hpx
  have q0:=k0.cell
  have r0:=k0.frozen
  have l0:=k0.lt
  have q2:=k2.cell
  have r2:=k2.frozen
  have l2':=k2.lt
  unfold simC at q0 k0
  go_wp2_with fail
  refine retW (D:=fun T=>Blk T w.heap.size tC #[.int .i64 7,.int .i64 0,.int .i64 0,.bool fe,.int .i64 fa,.int .i64 fb,.slice AF i.facts.length cF,.slice AA i.atoms.length cA,.slice none 0 0,.slice none 0 0]∧Below w.heap.size w T∧FactsO T w.heap.size (.slice AF i.facts.length cF) i.facts∧AtomsO T w.heap.size (.slice AA i.atoms.length cA) i.atoms) ⟨(ten0 k0).alloc _,(below_ten HB7.out (Nat.le_refl _)).alloc (by simp;omega) _,?_,?_⟩ ?_
  ·exact ⟨own_below (own_ten HF.out.1 k0 (by decide)) (bbox (Below.refl _ _) _),HF.out.2⟩
  ·exact ⟨own_below (own_ten HA.out.1 k0 (by decide)) (bbox (Below.refl _ _) _),HA.out.2⟩
  rintro T ⟨kT,r1,oF,oA⟩
  have t:=kT.cell
  exact bodyPost_ret (v:=headV ⟨7,0,0,⟨fe,fa,fb⟩,i⟩ (.slice AF i.facts.length cF) (.slice AA i.atoms.length cA)) (by simp[results,Tryz.results46,go_sem,headV,t]) rfl ⟨_,_,by rw[hH3.out],by rw[hH3.out];exact oF,by rw[hH3.out];exact oA,r1⟩
end Go.Proofs.YtjbboklnegfohaaGreatDoor

/- Contracts: commands from lines (spec.l8Block). -/
namespace Go.Proofs.YtjbboklnegfohaaGreatDoor
open Go Go.RowKit Go.Proofs
def atI:Option Nat→Int
 | some m=>(m:Int)
 | none=>-1
theorem app_assoc:∀ (A B C:Cms),(A.app B).app C=A.app (B.app C)
 | .nil,B,C=>rfl
 | .cons k a b t i body els r,B,C=>by simp only[Cms.app,app_assoc r B C]
theorem app_nil:∀ (A:Cms),A.app .nil=A
 | .nil=>rfl
 | .cons k a b t i body els r=>by simp only[Cms.app,app_nil r]
def blkSt (ls:List Bs) (d:Nat) (R:Cms×Option Nat) (acc:Cms):Option Nat→Prop
 | some p=>∃ n,ls.length≤n+p∧acc.app (blkF ls n p d).1=R.1∧(blkF ls n p d).2=R.2
 | none=>acc=R.1∧R.2=none
section
variable {ls:List Bs} {d p m:Nat} {R:Cms×Option Nat} {acc body els:Cms}
theorem blkSt.start (n:Nat) (h:ls.length≤n+p):blkSt ls d (blkF ls n p d) .nil (some p):=⟨n,h,rfl,rfl⟩
theorem blkSt.stop (h:blkSt ls d R acc (some p)) (hc:¬(p+1<ls.length∧ls.getD p []≠endL∧ls.getD p []≠elseL)):acc=R.1∧R.2=some p:=by
 obtain ⟨n,h1,h2,h3⟩:=h
 cases n with
 | zero=>exact ⟨by rw[←h2];exact (app_nil acc).symm,h3.symm⟩
 | succ n=>
  unfold blkF at h2 h3
  rw[if_neg hc] at h2 h3
  exact ⟨by rw[←h2];exact (app_nil acc).symm,h3.symm⟩
theorem blkSt.on (h:blkSt ls d R acc (some p)) (hp:p<ls.length):∃ m,ls.length≤m+(p+1)∧acc.app (blkF ls (m+1) p d).1=R.1∧(blkF ls (m+1) p d).2=R.2:=by
 obtain ⟨n,h1,h2,h3⟩:=h
 cases n with
 | zero=>omega
 | succ n=>exact ⟨n,by omega,h2,h3⟩
theorem blkSt.mk (hm:ls.length≤m+(p+1)) {F:Cms×Option Nat} (h2:acc.app F.1=R.1) (h3:F.2=R.2) {H:Hd} {q:Nat} (hq:p+1≤q) (e:F=(.one1 H body els (blkF ls m q d).1,(blkF ls m q d).2)):blkSt ls d R (acc.app (.one1 H body els .nil)) (some q):=by
 subst e
 exact ⟨m,by omega,by rw[app_assoc];exact h2,h3⟩
theorem blkSt.mk0 {F:Cms×Option Nat} (h2:acc.app F.1=R.1) (h3:F.2=R.2) {H:Hd} (e:F=(.one1 H body els .nil,none)):blkSt ls d R (acc.app (.one1 H body els .nil)) none:=by
 subst e
 exact ⟨h2,h3.symm⟩
theorem blk_basic (hc:p+1<ls.length∧ls.getD p []≠endL∧ls.getD p []≠elseL) (h:¬((headF (ls.getD p [])).k=6∨(headF (ls.getD p [])).k=7)) :
  blkF ls (m+1) p d=(.one1 (headF (ls.getD p [])) .nil .nil (blkF ls m (p+1) d).1,(blkF ls m (p+1) d).2):=by
 rw[blkF,if_pos hc,if_neg h]
theorem blk_zero (hc:p+1<ls.length∧ls.getD p []≠endL∧ls.getD p []≠elseL) (h:(headF (ls.getD p [])).k=6∨(headF (ls.getD p [])).k=7) (hd:d<1):blkF ls (m+1) p d=(.nil,none):=by
 rw[blkF,if_pos hc,if_pos h,if_pos hd]
theorem blk_none (hc:p+1<ls.length∧ls.getD p []≠endL∧ls.getD p []≠elseL) (h:(headF (ls.getD p [])).k=6∨(headF (ls.getD p [])).k=7) (hd:¬d<1) (hb:(blkF ls m (p+1) (d - 1)).2=none) :
  blkF ls (m+1) p d=(.one1 (headF (ls.getD p [])) (blkF ls m (p+1) (d - 1)).1 .nil .nil,none):=by
 rw[blkF,if_pos hc,if_pos h,if_neg hd]
 split
 ·rename_i b e;rw[e]
 ·rename_i b q e;rw[e] at hb;cases hb
theorem blk_noelse {q:Nat} (hc:p+1<ls.length∧ls.getD p []≠endL∧ls.getD p []≠elseL) (h:(headF (ls.getD p [])).k=6∨(headF (ls.getD p [])).k=7) (hd:¬d<1) (hb:(blkF ls m (p+1) (d - 1)).2=some q)
  (hq:¬(q<ls.length∧ls.getD q []=elseL)):blkF ls (m+1) p d=(.one1 (headF (ls.getD p [])) (blkF ls m (p+1) (d - 1)).1 .nil (blkF ls m (q+1) d).1,(blkF ls m (q+1) d).2):=by
 rw[blkF,if_pos hc,if_pos h,if_neg hd]
 split
 ·rename_i b e;rw[e] at hb;cases hb
 ·rename_i b q' e
  rw[e] at hb
  injection hb with hb
  subst hb
  rw[if_neg hq,e]
theorem blk_else0 {q:Nat} (hc:p+1<ls.length∧ls.getD p []≠endL∧ls.getD p []≠elseL) (h:(headF (ls.getD p [])).k=6∨(headF (ls.getD p [])).k=7) (hd:¬d<1) (hb:(blkF ls m (p+1) (d - 1)).2=some q)
  (hq:q<ls.length∧ls.getD q []=elseL) (he:(blkF ls m (q+1) (d - 1)).2=none):blkF ls (m+1) p d=(.one1 (headF (ls.getD p [])) (blkF ls m (p+1) (d - 1)).1 (blkF ls m (q+1) (d - 1)).1 .nil,none):=by
 rw[blkF,if_pos hc,if_pos h,if_neg hd]
 split
 ·rename_i b e;rw[e] at hb;cases hb
 ·rename_i b q' e
  rw[e] at hb
  injection hb with hb
  subst hb
  rw[if_pos hq,e]
  split
  ·rename_i b' e';rw[e']
  ·rename_i b' r e';rw[e'] at he;cases he
theorem blk_else {q r:Nat} (hc:p+1<ls.length∧ls.getD p []≠endL∧ls.getD p []≠elseL) (h:(headF (ls.getD p [])).k=6∨(headF (ls.getD p [])).k=7) (hd:¬d<1) (hb:(blkF ls m (p+1) (d - 1)).2=some q)
  (hq:q<ls.length∧ls.getD q []=elseL) (he:(blkF ls m (q+1) (d - 1)).2=some r):blkF ls (m+1) p d=(.one1 (headF (ls.getD p [])) (blkF ls m (p+1) (d - 1)).1 (blkF ls m (q+1) (d - 1)).1 (blkF ls m (r+1) d).1,(blkF ls m (r+1) d).2):=by
 rw[blkF,if_pos hc,if_pos h,if_neg hd]
 split
 ·rename_i b e;rw[e] at hb;cases hb
 ·rename_i b q' e
  rw[e] at hb
  injection hb with hb
  subst hb
  rw[if_pos hq,e]
  split
  ·rename_i b' e';rw[e'] at he;cases he
  ·rename_i b' r' e'
   rw[e'] at he
   injection he with he
   subst he
   rw[e']
end
end Go.Proofs.YtjbboklnegfohaaGreatDoor
