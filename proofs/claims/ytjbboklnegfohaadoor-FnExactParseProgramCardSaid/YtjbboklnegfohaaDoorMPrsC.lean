/- Sets of terms as flags: the spec's contracts. -/
import Derived.Test.YtjbboklnegfohaaDoorMAlloc
import Derived.Test.YtjbboklnegfohaaDoorHolds
import Derived.Test.YtjbboklnegfohaaDoorMPrsI
import Derived.Test.YtjbboklnegfohaaDoorMPrsX
import Derived.Test.YtjbboklnegfohaaDoorMBld
set_option linter.unusedSimpArgs false
set_option linter.unusedVariables false
namespace Go.Proofs.YtjbboklnegfohaaDoor
open Go Go.RowKit Go.Proofs
attribute [local go_sem ↓] Go.wp_at_zero Go.wp_at_succ
theorem tins_flags (S m:Nat) (hm:m≤8):((encB (flagsOf S)).toArray).setIfInBounds m (.bool true)=(encB (flagsOf (tins S (m:Int)))).toArray:=by
 rw[flags_upd,tins,if_pos (isTermB_iff.2 (by omega)),Int.toNat_natCast]
theorem flags2 (T m1 m2:Nat) (h1:m1≤8) (h2:m2≤8):(((encB (flagsOf T)).toArray).setIfInBounds m1 (.bool true)).setIfInBounds m2 (.bool true)=(encB (flagsOf (tins (tins T (m1:Int)) (m2:Int)))).toArray:=by
 rw[tins_flags _ _ h1,tins_flags _ _ h2]
theorem Blk.two {w:World} {g T m1 m2:Nat} (h:Blk w g tB (encB (flagsOf T)).toArray) (h1:m1≤8) (h2:m2≤8):Blk ((w.setCell ⟨g,m1,none⟩ (.bool true)).setCell ⟨g,m2,none⟩ (.bool true)) g tB (encB (flagsOf (tins (tins T (m1:Int)) (m2:Int)))).toArray:=by
 rw[←flags2 _ _ _ h1 h2];exact (h.set_ _ _).set_ _ _
end Go.Proofs.YtjbboklnegfohaaDoor

/- Contracts: the text of an assertion (spec). -/
namespace Go.Proofs.YtjbboklnegfohaaDoor
open Go Go.RowKit Go.Proofs
theorem getD_of {α:Type} [Inhabited α] {xs:List α} {k:Nat} (h:k<xs.length):xs.getD k default=xs[k]:=by simp[List.getD,List.getElem?_eq_getElem h]
set_option maxRecDepth 100000 in
set_option maxHeartbeats 6400000 in
theorem c_l3Text {lo hi:Nat} (v:Value) (a:Asn) (w:World) (h:AsnV w lo hi v a):Calls Tryd.prog 23 #[v] w fun e w'=>e=.returned (sv (textA a))∧Below w.heap.size w w':=by
 obtain ⟨A1,c1,A2,c2,rfl,h1,h2⟩:=h
 have hl1:=h1.le
 have hl2:=h2.le
 unfold Lim at hl1 hl2
 have hlT:=Lib.hid (factsT_len a.facts)
 have HTT:=Lib.hid (show textA a=if a.atoms.length=0 then factsT a.facts++[32,124,32,101,109,112] else outSX (factsT a.facts) a.atoms a.atoms.length from rfl)
 have H1:=Lib.hid h1
 have H2:=Lib.hid h2
 clear h1 h2
 go_enter Tryd.func23,Tryd.ntmps23
 go_wp2_with fail
 go_loopw [3,4] (fun o i wr=>∃ (k:Nat) (X:Bs),k≤a.facts.length∧i=.int .i64 k∧o=sv X∧Hid (X=outF a.facts k)∧Blk wr w.heap.size 34 #[.slice A1 a.facts.length c1,.slice A2 a.atoms.length c2]∧Hid (Below w.heap.size w wr)) (fun _ i _=>a.facts.length - (intOf i).toNat)
 case atStart=>exact ⟨0,[],Nat.zero_le _,rfl,rfl,Lib.hid rfl,blks,bel⟩
 case round=>
  obtain ⟨k,X,hk,rfl,rfl,hX,k0,hB⟩:=hrel
  have qk0:=k0.cell
  have rk0:=k0.frozen
  have lk0:=k0.lt
  by_cases hlt:k<a.facts.length
  ·obtain ⟨b,off,rfl,hbl⟩:=H1.out.blt hlt
   obtain ⟨g0,g1,g2⟩:=(H1.out.below hB.out).cl hlt
   have hXl:X.length≤k * 11:=by rw[hX.out];exact outF_len _ _
   have hFl:=fmtF_len a.facts[k]
   have hS:=Lib.hid (show outF a.facts (k+1)=(if 0<k then outF a.facts k++[32,38,32] else outF a.facts k)++fmtF (a.facts.getD k default) from rfl)
   have hD:=Lib.hid (getD_of hlt)
   obtain ⟨f,hf⟩:∃ f,f=a.facts[k]:=⟨_,rfl⟩
   rw[←hf] at g0 g1 g2 hFl hD
   obtain ⟨F,hF⟩:∃ F,F=fmtF f:=⟨_,rfl⟩
   have hc:=c_l1Text f
   rw[←hF] at hc hFl
   replace hc:=Lib.hid hc
   replace hF:=Lib.hid hF
   clear hf
   by_cases hz:k=0
   ·have hki:¬(0:Int)<(k:Int):=by omega
    have hz0:¬0<k:=by omega
    clear hz
    obtain ⟨S2,e2,n2⟩:=addO (P:=Tryd.prog) X F (by omega)
    go_wp2_with fail
    refine (hc.out _).mono ?_
    rintro e w2 ⟨rfl,hB2⟩
    go_wp2_with fail
    go_round
    case rel=>exact ⟨k+1,S2,by omega,by go_num,rfl,Lib.hid (by rw[e2.out,hS.out,hD.out,hF.out,hX.out,if_neg hz0]),k0.next hB2,bgo hB.out hB2⟩
    case measure=>simp[intOf];omega
   ·have hki:(0:Int)<(k:Int):=by omega
    obtain ⟨S1,e1,n1⟩:=addO (P:=Tryd.prog) X [32,38,32] (by simp;omega)
    have hS1:S1.length≤k * 11+3:=by rw[e1.out];simp;omega
    obtain ⟨S2,e2,n2⟩:=addO (P:=Tryd.prog) S1 F (by omega)
    have hz0:0<k:=by omega
    clear hS1 hXl
    go_wp2_with fail
    refine (hc.out _).mono ?_
    rintro e w2 ⟨rfl,hB2⟩
    go_wp2_with fail
    go_round
    case rel=>exact ⟨k+1,S2,by omega,by go_num,rfl,Lib.hid (by rw[e2.out,e1.out,hS.out,hD.out,hF.out,hX.out,if_pos hz0]),k0.next hB2,bgo hB.out hB2⟩
    case measure=>simp[intOf];omega
  ·obtain rfl:k=a.facts.length:=by omega
   by_cases hz:a.facts.length=0
   ·have hzi:((a.facts.length:Int) == 0)=true:=by simp[hz]
    have HTX:Hid (factsT a.facts=[116,114,117,101]):=Lib.hid (by unfold factsT;rw[if_pos hz])
    clear hX hz
    have hTT:Hid (factsT a.facts=[116,114,117,101]):=Lib.hid HTX.out
    have hTl:([116,114,117,101]).length≤4+a.facts.length * 11:=by have h:=hlT.out;rw[hTT.out] at h;exact h
    obtain ⟨S0,e0,n0⟩:=addO (P:=Tryd.prog) [116,114,117,101] [32,124,32,101,109,112] (by first|omega|(simp;done)|(simp;omega))
    have HTT2:=Lib.hid (by have h:=HTT.out;rw[hTT.out] at h;exact h)
    by_cases hy:a.atoms.length=0
    ·have hyi:((a.atoms.length:Int) == 0)=true:=by simp[hy]
     have E1:=Lib.hid (HTT2.out.trans (if_pos hy))
     clear hy hTl
     go_wp2_with fail
     go_ret
     exact ⟨ret_str (by rw[E1.out,e0.out]),hB.out⟩
    ·have hyi:((a.atoms.length:Int) == 0)=false:=by simp[hy]
     have E1:=Lib.hid (HTT2.out.trans (if_neg hy))
     clear hy n0 e0
     go_wp2_with fail
     go_loopw [3,5,6] (fun o i s wx=>∃ (k:Nat) (X:Bs),k≤a.atoms.length∧i=.int .i64 k∧o=sv X∧Hid (X=outSX ([116,114,117,101]) a.atoms k)∧Blk wx w.heap.size 34 #[.slice A1 a.facts.length c1,.slice A2 a.atoms.length c2]∧Hid (Below w.heap.size w wx)) (fun _ i _ _=>a.atoms.length - (intOf i).toNat)
     case atStart=>exact ⟨0,[116,114,117,101],Nat.zero_le _,rfl,rfl,Lib.hid rfl,k0,hB⟩
     case round=>
      clear k0 qk0 rk0 lk0 hB
      obtain ⟨k,X,hk,rfl,rfl,hX,k0,hB⟩:=hrel
      have qk0:=k0.cell
      have rk0:=k0.frozen
      have lk0:=k0.lt
      by_cases hlt:k<a.atoms.length
      ·obtain ⟨b,off,rfl,hbl⟩:=H2.out.blt hlt
       obtain ⟨g0,g1,g2⟩:=(H2.out.below hB.out).cl hlt
       have hXl:X.length≤([116,114,117,101]).length+k * 10:=by rw[hX.out];exact outX_len _ _ _
       have hS:=Lib.hid (show outSX ([116,114,117,101]) a.atoms (k+1)=(if k=0 then outSX ([116,114,117,101]) a.atoms k++[32,124,32] else outSX ([116,114,117,101]) a.atoms k++[32,42,32])++tnameL (a.atoms.getD k default).a++signX (a.atoms.getD k default)++tnameL (a.atoms.getD k default).b from rfl)
       have hD:=Lib.hid (getD_of hlt)
       obtain ⟨f,hf⟩:∃ f,f=a.atoms[k]:=⟨_,rfl⟩
       rw[←hf] at g0 g1 g2 hD
       clear hf
       obtain ⟨kd,ta,tb⟩:=f
       simp only at g0 g1 g2
       have la:=tnameL_len ta
       have lb:=tnameL_len tb
       have ca:=c_TermName ta
       have cb:=c_TermName tb
       obtain ⟨NA,hNA⟩:∃ N,N=tnameL ta:=⟨_,rfl⟩
       obtain ⟨NB,hNB⟩:∃ N,N=tnameL tb:=⟨_,rfl⟩
       rw[←hNA] at la ca
       rw[←hNB] at lb cb
       replace ca:=Lib.hid ca
       replace cb:=Lib.hid cb
       replace hNA:=Lib.hid hNA
       replace hNB:=Lib.hid hNB
       obtain ⟨sep,hsep⟩:∃ sep:Bs,sep=if k=0 then [32,124,32] else [32,42,32]:=⟨_,rfl⟩
       have lsep:sep.length=3:=by rw[hsep];split<;>rfl
       obtain ⟨S1,e1,n1⟩:=addO (P:=Tryd.prog) X sep (by omega)
       have l1:S1.length=X.length+3:=by rw[e1.out,List.length_append,lsep]
       obtain ⟨S2,e2,n2⟩:=addO (P:=Tryd.prog) S1 NA (by omega)
       have l2:S2.length≤X.length+6:=by rw[e2.out,List.length_append];omega
       obtain ⟨sg,hsg⟩:∃ sg,sg=signX ⟨kd,ta,tb⟩:=⟨_,rfl⟩
       have lsg:sg.length=1:=by rw[hsg];unfold signX;split<;>rfl
       obtain ⟨S3,e3,n3⟩:=addO (P:=Tryd.prog) S2 sg (by omega)
       have l3:S3.length≤X.length+7:=by rw[e3.out,List.length_append];omega
       obtain ⟨S4,e4,n4⟩:=addO (P:=Tryd.prog) S3 NB (by omega)
       have hEnd:Hid (S4=outSX ([116,114,117,101]) a.atoms (k+1)):=Lib.hid (by
        rw[hS.out,hD.out,e4.out,e3.out,e2.out,e1.out,hX.out,hNA.out,hNB.out,hsg,hsep]
        split<;>rfl)
       clear l1 l2 l3 lsep hXl la lb
       have hb1:Hid (Below w.heap.size w wr):=hB
       have tokA:True:=trivial
       have tokB:True:=trivial
       by_cases hk2:kd=2
       ·subst hk2
        have hsg2:sg=[126]:=hsg
        subst hsg2
        clear hsg lsg
        by_cases hz0:k=0
        ·subst hz0
         have hsep2:sep=[32,124,32]:=hsep
         subst hsep2
         clear hsep
         have h0l:(0:Int)<(a.atoms.length:Int):=by omega
         simp only[Nat.zero_mul,Nat.add_zero,Nat.zero_add] at g0 g1 g2
         go_wp2_with fail
         go_region_held3 (fun w'=>(∀ i,w'.cell? ⟨w.heap.size,i,none⟩=#[.slice A1 a.facts.length c1,.slice (some ⟨b,off,none⟩) a.atoms.length c2][i]?)∧w'.cell? ⟨b,off+1,none⟩=some (.int .i64 ta)∧w'.cell? ⟨b,off+2,none⟩=some (.int .i64 tb))
          (exact ⟨qk0,g1,g2⟩)
          (first
           | (have _t:=tokA;clear _t tokA;go_at_call 24;refine (ca.out _).mono ?_;rintro e w' ⟨rfl,rfl⟩)
           | (have _t:=tokB;clear _t tokB;go_at_call 24;refine (cb.out _).mono ?_;rintro e w' ⟨rfl,rfl⟩))
         all_goals
          go_wp2_with fail
          go_round
          case rel=>exact ⟨0+1,S4,by omega,by go_num,rfl,hEnd,k0,Lib.hid hB.out.drew⟩
          case measure=>simp[intOf];omega
        ·have hki:((k:Int) == 0)=false:=by simp;omega
         have hsep2:sep=[32,42,32]:=by rw[hsep,if_neg hz0]
         subst hsep2
         clear hsep hz0
         go_wp2_with fail
         go_region_held3 (fun w'=>(∀ i,w'.cell? ⟨w.heap.size,i,none⟩=#[.slice A1 a.facts.length c1,.slice (some ⟨b,off,none⟩) a.atoms.length c2][i]?)∧w'.cell? ⟨b,off+k * 3+1,none⟩=some (.int .i64 ta)∧w'.cell? ⟨b,off+k * 3+2,none⟩=some (.int .i64 tb))
          (exact ⟨qk0,g1,g2⟩)
          (first
           | (have _t:=tokA;clear _t tokA;go_at_call 24;refine (ca.out _).mono ?_;rintro e w' ⟨rfl,rfl⟩)
           | (have _t:=tokB;clear _t tokB;go_at_call 24;refine (cb.out _).mono ?_;rintro e w' ⟨rfl,rfl⟩))
         all_goals
          go_wp2_with fail
          go_round
          case rel=>exact ⟨k+1,S4,by omega,by go_num,rfl,hEnd,k0,Lib.hid hB.out.drew⟩
          case measure=>simp[intOf];omega
       ·have hk2b:(kd == 2)=false:=by simpa using hk2
        have hsg2:sg=[62]:=by rw[hsg];unfold signX;rw[if_neg hk2]
        subst hsg2
        clear hsg lsg hk2
        by_cases hz0:k=0
        ·subst hz0
         have hsep2:sep=[32,124,32]:=hsep
         subst hsep2
         clear hsep
         have h0l:(0:Int)<(a.atoms.length:Int):=by omega
         simp only[Nat.zero_mul,Nat.add_zero,Nat.zero_add] at g0 g1 g2
         go_wp2_with fail
         go_region_held3 (fun w'=>(∀ i,w'.cell? ⟨w.heap.size,i,none⟩=#[.slice A1 a.facts.length c1,.slice (some ⟨b,off,none⟩) a.atoms.length c2][i]?)∧w'.cell? ⟨b,off+1,none⟩=some (.int .i64 ta)∧w'.cell? ⟨b,off+2,none⟩=some (.int .i64 tb))
          (exact ⟨qk0,g1,g2⟩)
          (first
           | (have _t:=tokA;clear _t tokA;go_at_call 24;refine (ca.out _).mono ?_;rintro e w' ⟨rfl,rfl⟩)
           | (have _t:=tokB;clear _t tokB;go_at_call 24;refine (cb.out _).mono ?_;rintro e w' ⟨rfl,rfl⟩))
         all_goals
          go_wp2_with fail
          go_round
          case rel=>exact ⟨0+1,S4,by omega,by go_num,rfl,hEnd,k0,Lib.hid hB.out.drew⟩
          case measure=>simp[intOf];omega
        ·have hki:((k:Int) == 0)=false:=by simp;omega
         have hsep2:sep=[32,42,32]:=by rw[hsep,if_neg hz0]
         subst hsep2
         clear hsep hz0
         go_wp2_with fail
         go_region_held3 (fun w'=>(∀ i,w'.cell? ⟨w.heap.size,i,none⟩=#[.slice A1 a.facts.length c1,.slice (some ⟨b,off,none⟩) a.atoms.length c2][i]?)∧w'.cell? ⟨b,off+k * 3+1,none⟩=some (.int .i64 ta)∧w'.cell? ⟨b,off+k * 3+2,none⟩=some (.int .i64 tb))
          (exact ⟨qk0,g1,g2⟩)
          (first
           | (have _t:=tokA;clear _t tokA;go_at_call 24;refine (ca.out _).mono ?_;rintro e w' ⟨rfl,rfl⟩)
           | (have _t:=tokB;clear _t tokB;go_at_call 24;refine (cb.out _).mono ?_;rintro e w' ⟨rfl,rfl⟩))
         all_goals
          go_wp2_with fail
          go_round
          case rel=>exact ⟨k+1,S4,by omega,by go_num,rfl,hEnd,k0,Lib.hid hB.out.drew⟩
          case measure=>simp[intOf];omega
      ·obtain rfl:k=a.atoms.length:=by omega
       go_wp2_with fail
       go_ret
       exact ⟨ret_str (by rw[E1.out,hX.out]),hB.out⟩
   ·have hzi:((a.facts.length:Int) == 0)=false:=by simp[hz]
    have HTX:Hid (factsT a.facts=X):=Lib.hid (by unfold factsT;rw[if_neg hz,hX.out])
    clear hX hz
    obtain ⟨XT,rfl⟩:∃ XT,XT=X:=⟨_,rfl⟩
    have hTT:Hid (factsT a.facts=XT):=Lib.hid HTX.out
    have hTl:(XT).length≤4+a.facts.length * 11:=by have h:=hlT.out;rw[hTT.out] at h;exact h
    obtain ⟨S0,e0,n0⟩:=addO (P:=Tryd.prog) XT [32,124,32,101,109,112] (by first|omega|(simp;done)|(simp;omega))
    have HTT2:=Lib.hid (by have h:=HTT.out;rw[hTT.out] at h;exact h)
    by_cases hy:a.atoms.length=0
    ·have hyi:((a.atoms.length:Int) == 0)=true:=by simp[hy]
     have E1:=Lib.hid (HTT2.out.trans (if_pos hy))
     clear hy hTl
     go_wp2_with fail
     go_ret
     exact ⟨ret_str (by rw[E1.out,e0.out]),hB.out⟩
    ·have hyi:((a.atoms.length:Int) == 0)=false:=by simp[hy]
     have E1:=Lib.hid (HTT2.out.trans (if_neg hy))
     clear hy n0 e0
     go_wp2_with fail
     go_loopw [3,5,6] (fun o i s wx=>∃ (k:Nat) (X:Bs),k≤a.atoms.length∧i=.int .i64 k∧o=sv X∧Hid (X=outSX (XT) a.atoms k)∧Blk wx w.heap.size 34 #[.slice A1 a.facts.length c1,.slice A2 a.atoms.length c2]∧Hid (Below w.heap.size w wx)) (fun _ i _ _=>a.atoms.length - (intOf i).toNat)
     case atStart=>exact ⟨0,XT,Nat.zero_le _,rfl,rfl,Lib.hid rfl,k0,hB⟩
     case round=>
      clear k0 qk0 rk0 lk0 hB
      obtain ⟨k,X,hk,rfl,rfl,hX,k0,hB⟩:=hrel
      have qk0:=k0.cell
      have rk0:=k0.frozen
      have lk0:=k0.lt
      by_cases hlt:k<a.atoms.length
      ·obtain ⟨b,off,rfl,hbl⟩:=H2.out.blt hlt
       obtain ⟨g0,g1,g2⟩:=(H2.out.below hB.out).cl hlt
       have hXl:X.length≤(XT).length+k * 10:=by rw[hX.out];exact outX_len _ _ _
       have hS:=Lib.hid (show outSX (XT) a.atoms (k+1)=(if k=0 then outSX (XT) a.atoms k++[32,124,32] else outSX (XT) a.atoms k++[32,42,32])++tnameL (a.atoms.getD k default).a++signX (a.atoms.getD k default)++tnameL (a.atoms.getD k default).b from rfl)
       have hD:=Lib.hid (getD_of hlt)
       obtain ⟨f,hf⟩:∃ f,f=a.atoms[k]:=⟨_,rfl⟩
       rw[←hf] at g0 g1 g2 hD
       clear hf
       obtain ⟨kd,ta,tb⟩:=f
       simp only at g0 g1 g2
       have la:=tnameL_len ta
       have lb:=tnameL_len tb
       have ca:=c_TermName ta
       have cb:=c_TermName tb
       obtain ⟨NA,hNA⟩:∃ N,N=tnameL ta:=⟨_,rfl⟩
       obtain ⟨NB,hNB⟩:∃ N,N=tnameL tb:=⟨_,rfl⟩
       rw[←hNA] at la ca
       rw[←hNB] at lb cb
       replace ca:=Lib.hid ca
       replace cb:=Lib.hid cb
       replace hNA:=Lib.hid hNA
       replace hNB:=Lib.hid hNB
       obtain ⟨sep,hsep⟩:∃ sep:Bs,sep=if k=0 then [32,124,32] else [32,42,32]:=⟨_,rfl⟩
       have lsep:sep.length=3:=by rw[hsep];split<;>rfl
       obtain ⟨S1,e1,n1⟩:=addO (P:=Tryd.prog) X sep (by omega)
       have l1:S1.length=X.length+3:=by rw[e1.out,List.length_append,lsep]
       obtain ⟨S2,e2,n2⟩:=addO (P:=Tryd.prog) S1 NA (by omega)
       have l2:S2.length≤X.length+6:=by rw[e2.out,List.length_append];omega
       obtain ⟨sg,hsg⟩:∃ sg,sg=signX ⟨kd,ta,tb⟩:=⟨_,rfl⟩
       have lsg:sg.length=1:=by rw[hsg];unfold signX;split<;>rfl
       obtain ⟨S3,e3,n3⟩:=addO (P:=Tryd.prog) S2 sg (by omega)
       have l3:S3.length≤X.length+7:=by rw[e3.out,List.length_append];omega
       obtain ⟨S4,e4,n4⟩:=addO (P:=Tryd.prog) S3 NB (by omega)
       have hEnd:Hid (S4=outSX (XT) a.atoms (k+1)):=Lib.hid (by
        rw[hS.out,hD.out,e4.out,e3.out,e2.out,e1.out,hX.out,hNA.out,hNB.out,hsg,hsep]
        split<;>rfl)
       clear l1 l2 l3 lsep hXl la lb
       have hb1:Hid (Below w.heap.size w wr):=hB
       have tokA:True:=trivial
       have tokB:True:=trivial
       by_cases hk2:kd=2
       ·subst hk2
        have hsg2:sg=[126]:=hsg
        subst hsg2
        clear hsg lsg
        by_cases hz0:k=0
        ·subst hz0
         have hsep2:sep=[32,124,32]:=hsep
         subst hsep2
         clear hsep
         have h0l:(0:Int)<(a.atoms.length:Int):=by omega
         simp only[Nat.zero_mul,Nat.add_zero,Nat.zero_add] at g0 g1 g2
         go_wp2_with fail
         go_region_held3 (fun w'=>(∀ i,w'.cell? ⟨w.heap.size,i,none⟩=#[.slice A1 a.facts.length c1,.slice (some ⟨b,off,none⟩) a.atoms.length c2][i]?)∧w'.cell? ⟨b,off+1,none⟩=some (.int .i64 ta)∧w'.cell? ⟨b,off+2,none⟩=some (.int .i64 tb))
          (exact ⟨qk0,g1,g2⟩)
          (first
           | (have _t:=tokA;clear _t tokA;go_at_call 24;refine (ca.out _).mono ?_;rintro e w' ⟨rfl,rfl⟩)
           | (have _t:=tokB;clear _t tokB;go_at_call 24;refine (cb.out _).mono ?_;rintro e w' ⟨rfl,rfl⟩))
         all_goals
          go_wp2_with fail
          go_round
          case rel=>exact ⟨0+1,S4,by omega,by go_num,rfl,hEnd,k0,Lib.hid hB.out.drew⟩
          case measure=>simp[intOf];omega
        ·have hki:((k:Int) == 0)=false:=by simp;omega
         have hsep2:sep=[32,42,32]:=by rw[hsep,if_neg hz0]
         subst hsep2
         clear hsep hz0
         go_wp2_with fail
         go_region_held3 (fun w'=>(∀ i,w'.cell? ⟨w.heap.size,i,none⟩=#[.slice A1 a.facts.length c1,.slice (some ⟨b,off,none⟩) a.atoms.length c2][i]?)∧w'.cell? ⟨b,off+k * 3+1,none⟩=some (.int .i64 ta)∧w'.cell? ⟨b,off+k * 3+2,none⟩=some (.int .i64 tb))
          (exact ⟨qk0,g1,g2⟩)
          (first
           | (have _t:=tokA;clear _t tokA;go_at_call 24;refine (ca.out _).mono ?_;rintro e w' ⟨rfl,rfl⟩)
           | (have _t:=tokB;clear _t tokB;go_at_call 24;refine (cb.out _).mono ?_;rintro e w' ⟨rfl,rfl⟩))
         all_goals
          go_wp2_with fail
          go_round
          case rel=>exact ⟨k+1,S4,by omega,by go_num,rfl,hEnd,k0,Lib.hid hB.out.drew⟩
          case measure=>simp[intOf];omega
       ·have hk2b:(kd == 2)=false:=by simpa using hk2
        have hsg2:sg=[62]:=by rw[hsg];unfold signX;rw[if_neg hk2]
        subst hsg2
        clear hsg lsg hk2
        by_cases hz0:k=0
        ·subst hz0
         have hsep2:sep=[32,124,32]:=hsep
         subst hsep2
         clear hsep
         have h0l:(0:Int)<(a.atoms.length:Int):=by omega
         simp only[Nat.zero_mul,Nat.add_zero,Nat.zero_add] at g0 g1 g2
         go_wp2_with fail
         go_region_held3 (fun w'=>(∀ i,w'.cell? ⟨w.heap.size,i,none⟩=#[.slice A1 a.facts.length c1,.slice (some ⟨b,off,none⟩) a.atoms.length c2][i]?)∧w'.cell? ⟨b,off+1,none⟩=some (.int .i64 ta)∧w'.cell? ⟨b,off+2,none⟩=some (.int .i64 tb))
          (exact ⟨qk0,g1,g2⟩)
          (first
           | (have _t:=tokA;clear _t tokA;go_at_call 24;refine (ca.out _).mono ?_;rintro e w' ⟨rfl,rfl⟩)
           | (have _t:=tokB;clear _t tokB;go_at_call 24;refine (cb.out _).mono ?_;rintro e w' ⟨rfl,rfl⟩))
         all_goals
          go_wp2_with fail
          go_round
          case rel=>exact ⟨0+1,S4,by omega,by go_num,rfl,hEnd,k0,Lib.hid hB.out.drew⟩
          case measure=>simp[intOf];omega
        ·have hki:((k:Int) == 0)=false:=by simp;omega
         have hsep2:sep=[32,42,32]:=by rw[hsep,if_neg hz0]
         subst hsep2
         clear hsep hz0
         go_wp2_with fail
         go_region_held3 (fun w'=>(∀ i,w'.cell? ⟨w.heap.size,i,none⟩=#[.slice A1 a.facts.length c1,.slice (some ⟨b,off,none⟩) a.atoms.length c2][i]?)∧w'.cell? ⟨b,off+k * 3+1,none⟩=some (.int .i64 ta)∧w'.cell? ⟨b,off+k * 3+2,none⟩=some (.int .i64 tb))
          (exact ⟨qk0,g1,g2⟩)
          (first
           | (have _t:=tokA;clear _t tokA;go_at_call 24;refine (ca.out _).mono ?_;rintro e w' ⟨rfl,rfl⟩)
           | (have _t:=tokB;clear _t tokB;go_at_call 24;refine (cb.out _).mono ?_;rintro e w' ⟨rfl,rfl⟩))
         all_goals
          go_wp2_with fail
          go_round
          case rel=>exact ⟨k+1,S4,by omega,by go_num,rfl,hEnd,k0,Lib.hid hB.out.drew⟩
          case measure=>simp[intOf];omega
      ·obtain rfl:k=a.atoms.length:=by omega
       go_wp2_with fail
       go_ret
       exact ⟨ret_str (by rw[E1.out,hX.out]),hB.out⟩
set_option maxRecDepth 100000 in
set_option maxHeartbeats 1600000 in
theorem c_FormatAssertion {lo hi:Nat} (v:Value) (a:Asn) (w:World) (h:AsnV w lo hi v a):Calls Tryd.prog 75 #[v] w fun e w'=>e=.returned (sv (fmtA a))∧Below w.heap.size w w':=by
 obtain ⟨A1,c1,A2,c2,rfl,h1,h2⟩:=h
 have HV:Hid (AsnV w lo hi (.agg #[.slice A1 a.facts.length c1,.slice A2 a.atoms.length c2]) a):=Lib.hid ⟨_,_,_,_,rfl,h1,h2⟩
 clear h1 h2
 go_enter Tryd.func75,Tryd.ntmps75
 have k0:Blk (w.alloc (.cells #[.slice A1 a.facts.length c1,.slice A2 a.atoms.length c2] 34)) w.heap.size 34 #[.slice A1 a.facts.length c1,.slice A2 a.atoms.length c2]:=blks
 go_wp2_with fail
 refine (c_spec_AssertionValid _ a _ (HV.out.below bel)).mono ?_
 rintro e w1 ⟨rfl,hB1⟩
 have k1:=k0.next hB1
 have hB:Below w.heap.size w w1:=bgo (w:=w) bel hB1
 (replace qk1:=k1.cell;replace rk1:=k1.frozen;replace lk1:=k1.lt)
 cases hv:a.valid
 ·go_wp2_with fail
  go_ret
  exact ⟨ret_str (by unfold fmtA;rw[hv];rfl),hB⟩
 ·go_wp2_with fail
  refine (c_l3Text _ a _ (HV.out.below hB)).mono ?_
  rintro e w2 ⟨rfl,hB2⟩
  go_wp2_with fail
  go_ret
  exact ⟨ret_str (by unfold fmtA;rw[hv];rfl),bgo hB hB2⟩
end Go.Proofs.YtjbboklnegfohaaDoor

/- Contracts: assertions from texts (spec). -/
namespace Go.Proofs.YtjbboklnegfohaaDoor
open Go Go.RowKit Go.Proofs
def nextB (ws:List Bs) (k:Nat):Bool:=decide (ws[k+1]? = some [124])
theorem readA_next {ws:List Bs} {k:Nat} {fs:List Fct} {xs:List Atm} {sb:Bool} {p:List Fct×List Atm} (hk:k<ws.length) (h:stepA (fs,xs,sb) ws[k]=some p):readA (ws.drop k) (fs,xs,sb)=readA (ws.drop (k+2)) (p.1,p.2,sb || nextB ws k):=by
 rw[List.drop_eq_getElem_cons hk]
 rcases Nat.lt_or_ge (k+1) ws.length with h1|h1
 ·rw[List.drop_eq_getElem_cons h1,readA,h]
  simp[nextB,List.getElem?_eq_getElem h1]
 ·rw[List.drop_eq_nil_of_le (show ws.length≤k+1 from h1),List.drop_eq_nil_of_le (show ws.length≤k+2 by omega),readA,readA,h]
  rfl
theorem readA_fail {ws:List Bs} {k:Nat} {st:List Fct×List Atm×Bool} (hk:k<ws.length) (h:stepA st ws[k]=none):readA (ws.drop k) st=none:=by
 rw[List.drop_eq_getElem_cons hk]
 rcases Nat.lt_or_ge (k+1) ws.length with h1|h1
 ·rw[List.drop_eq_getElem_cons h1,readA,h]
 ·rw[List.drop_eq_nil_of_le (show ws.length≤k+1 from h1),readA,h]
  rfl
theorem readA_end {ws:List Bs} {k:Nat} {fs:List Fct} {xs:List Atm} {sb:Bool} (hk:ws.length≤k):readA (ws.drop k) (fs,xs,sb)=some ⟨fs,xs⟩:=by
 rw[List.drop_eq_nil_of_le hk,readA]
theorem stepA_f {x:Bs} {f:Fct} {fs:List Fct} {xs:List Atm} (h:parseF x=some f):stepA (fs,xs,false) x=some (fs++[f],xs):=by
 unfold stepA;simp[h]
theorem stepA_x {x:Bs} {y:Atm} {fs:List Fct} {xs:List Atm} (h:parseX x=some y):stepA (fs,xs,true) x=some (fs,xs++[y]):=by
 unfold stepA;simp[h]
theorem stepA_f0 {x:Bs} {fs:List Fct} {xs:List Atm} (h:parseF x=none):stepA (fs,xs,false) x=if x≠[116,114,117,101]∧x≠[101,109,112] then none else some (fs,xs):=by
 unfold stepA;simp[h]
theorem stepA_x0 {x:Bs} {fs:List Fct} {xs:List Atm} (h:parseX x=none):stepA (fs,xs,true) x=if x≠[116,114,117,101]∧x≠[101,109,112] then none else some (fs,xs):=by
 unfold stepA;simp[h]
theorem parseA_none1 {l:Bs} (h:readA (wordsL l) ([],[],false)=none):parseA l=none:=by
 unfold parseA;rw[h];split<;>rfl
theorem parseA_some {l:Bs} {a:Asn} (hl:l.length≤300) (h:readA (wordsL l) ([],[],false)=some a):parseA l=if fmtA a=l∧l≠[] then some a else none:=by
 unfold parseA;rw[if_neg (by omega),h]
set_option maxRecDepth 100000 in
set_option maxHeartbeats 12800000 in
theorem c_ParseAssertion (l:Bs) (w:World) (hl:l.length≤1049000):Calls Tryd.prog 35 #[sv l] w fun e w'=>∃ r,e=.returned (.tuple #[r,.bool (parseA l).isSome])∧AsnO w' w.heap.size r ((parseA l).getD ⟨[],[]⟩)∧Below w.heap.size w w':=by
 go_enter Tryd.func35,Tryd.ntmps35
 have k0:Blk (w.alloc (.cells #[.slice none 0 0,.slice none 0 0] 34)) w.heap.size 34 #[.slice none 0 0,.slice none 0 0]:=blks
 go_wp2_with fail
 refine (c_l18Words l _ hl).mono ?_
 rintro e w1 ⟨r1,rfl,o1,hB1⟩
 obtain ⟨A1,d1,rfl,v1⟩:=o1.reads
 replace k0:=k0.next hB1
 have z1:w.heap.size+1≤w1.heap.size:=by simpa using hB1.size
 have HW1:Hid (Below w.heap.size w w1):=Lib.hid (bgo (w:=w) bel hB1)
 have HP0:=Lib.hid (fun h=>parseA_none1 (l:=l) h)
 have HP1:=Lib.hid (fun a (h:l.length≤300)=>parseA_some (l:=l) (a:=a) h)
 have hwl:=wordsL_len l
 obtain ⟨ws,hws⟩:∃ ws,ws=wordsL l:=⟨_,rfl⟩
 rw[←hws] at v1 HP0 HP1 hwl ⊢
 have HV:=Lib.hid v1
 clear v1 o1 hB1 hws
 (replace qk0:=k0.cell;replace rk0:=k0.frozen;replace lk0:=k0.lt)
 by_cases hl3':¬l.length≤300
 ·have hli:(300:Int)<(l.length:Int):=by omega
  have hN:=Lib.hid (show parseA l=none by unfold parseA;rw[if_pos (by omega)])
  go_wp2_with fail
  have kz:=(((k0.set_ 0 (.slice none 0 0)).set_ 1 (.slice none 0 0)).alloc (.cells #[.slice none 0 0,.slice none 0 0] 34)).cell
  refine bodyPost_ret (v:=.tuple #[.agg #[.slice none 0 0,.slice none 0 0],.bool false]) (by simp[results,Tryd.results35,go_sem,kz]) rfl ⟨_,by rw[hN.out];rfl,?_,?_⟩
  ·rw[hN.out];exact ⟨_,_,rfl,FactsO.nil _ _,AtomsO.nil _ _⟩
  ·have hb:=HW1.out;exact bel
 have hl3:l.length≤300:=by omega
 clear hl3'
 have hli:¬(300:Int)<(l.length:Int):=by omega
 go_wp2_with fail
 go_loopw [6,7] (fun s i wr=>∃ (k:Nat) (fs:List Fct) (xs:List Atm) (AF:Option Addr) (cF:Nat) (AA:Option Addr) (cA:Nat) (sb:Bool),s=.bool sb∧i=.int .i64 k∧k≤ws.length+1∧fs.length≤k∧xs.length≤k∧
  FactsO wr (w1.heap.size+1) (.slice AF fs.length cF) fs∧AtomsO wr (w1.heap.size+1) (.slice AA xs.length cA) xs∧Hid (readA (ws.drop k) (fs,xs,sb)=readA ws ([],[],false))∧
  Blk wr w1.heap.size 34 #[.slice AF fs.length cF,.slice AA xs.length cA]∧Blk wr w.heap.size 34 #[.slice none 0 0,.slice none 0 0]∧Hid (Below w1.heap.size w1 wr)) (fun _ i _=>ws.length+2 - (intOf i).toNat)
 case atStart=>exact ⟨0,[],[],none,0,none,0,false,rfl,rfl,by omega,Nat.le_refl _,Nat.le_refl _,FactsO.nil _ _,AtomsO.nil _ _,Lib.hid (by rw[List.drop_zero]),Blk.newE rfl,k0.alloc _,Lib.hid (bbox (Below.refl _ _) _)⟩
 case round=>
  clear k0 qk0 rk0 lk0
  obtain ⟨k,fs,xs,AF,cF,AA,cA,sb,rfl,rfl,hk,hfl,hxl,hF,hX,hR,k1,k0,HB⟩:=hrel
  have HF:=Lib.hid hF
  have HX:=Lib.hid hX
  have hz:w1.heap.size+1≤wr.heap.size:=by have:=k1.lt;omega
  clear hF hX
  (replace qk0:=k0.cell;replace rk0:=k0.frozen;replace lk0:=k0.lt;replace qk1:=k1.cell;replace rk1:=k1.frozen;replace lk1:=k1.lt)
  by_cases hlt:k<ws.length
  ·have hki:(k:Int)<(ws.length:Int):=by omega
   obtain ⟨bw,ow,rfl,hc⟩:=(HV.out.below HB.out).at hlt
   have hbl:=block_lt_of_cell hc
   have HS:=Lib.hid (fun p=>readA_next (p:=p) (fs:=fs) (xs:=xs) (sb:=sb) hlt)
   have HN:=Lib.hid (fun st=>readA_fail (st:=st) hlt)
   obtain ⟨x,hxx⟩:∃ x,x=ws[k]:=⟨_,rfl⟩
   rw[←hxx] at hc HS HN
   clear hxx
   go_wp2_with fail
   refine (c_ParseFact x _).mono ?_
   rintro e w2 ⟨rfl,hB2⟩
   have HB2:=Lib.hid (bgo HB.out hB2)
   have HF2:=Lib.hid (HF.out.below hB2)
   have HX2:=Lib.hid (HX.out.below hB2)
   have hc2:=(bcell hB2).1 bw (ow+k) hbl
   rw[hc] at hc2
   have hbl2:=block_lt_of_cell hc2
   replace k0:=k0.next hB2
   replace k1:=k1.next hB2
   have hz2:=Nat.le_trans hz hB2.size
   clear hB2 HF HX hc qk0 rk0 lk0 qk1 rk1 lk1 hz hbl
   (replace qk0:=k0.cell;replace rk0:=k0.frozen;replace lk0:=k0.lt;replace qk1:=k1.cell;replace rk1:=k1.frozen;replace lk1:=k1.lt)
   obtain ⟨fe,fa,fb,hfv⟩:∃ fe fa fb,((parseF x).getD fct0)=⟨fe,fa,fb⟩:=⟨_,_,_,rfl⟩
   have hfv2:((parseF x).getD fct0).val=.agg #[.bool fe,.int .i64 fa,.int .i64 fb]:=by rw[hfv]
   rw[hfv2]
   obtain ⟨pf,hpf⟩:∃ pf,pf=(parseF x).isSome:=⟨_,rfl⟩
   rw[←hpf]
   replace hfv:=Lib.hid hfv
   replace hpf:=Lib.hid hpf
   clear hfv2
   have k2:Blk (w2.alloc (.cells #[.bool fe,.int .i64 fa,.int .i64 fb] tF)) w2.heap.size tF #[.bool fe,.int .i64 fa,.int .i64 fb]:=blks
   go_wp2_with fail
   refine (c_ParseAtom x _).mono ?_
   rintro e w3 ⟨⟨yk,ya,yb⟩,rfl,hyz,hB3⟩
   have z3:w2.heap.size+1≤w3.heap.size:=by simpa using hB3.size
   have hB23:Below w2.heap.size w2 w3:=bgo (w:=w2) bel hB3
   have HB3:=Lib.hid (bgo HB2.out hB23)
   have HF3:=Lib.hid (HF2.out.below hB23)
   have HX3:=Lib.hid (HX2.out.below hB23)
   have hc3:=(bcell hB23).1 bw (ow+k) hbl2
   rw[hc2] at hc3
   have hbl3:=block_lt_of_cell hc3
   replace k0:=k0.next hB23
   replace k1:=k1.next hB23
   replace k2:=k2.next hB3
   have hz3:w1.heap.size+1≤w3.heap.size:=by omega
   clear hB23 hB3 HF2 HX2 hc2 qk0 rk0 lk0 qk1 rk1 lk1 HB2 hz2 hbl2
   (replace qk0:=k0.cell;replace rk0:=k0.frozen;replace lk0:=k0.lt;replace qk1:=k1.cell;replace rk1:=k1.frozen;replace lk1:=k1.lt;replace qk2:=k2.cell;replace rk2:=k2.frozen;replace lk2:=k2.lt)
   obtain ⟨px,hpx⟩:∃ px,px=(parseX x).isSome:=⟨_,rfl⟩
   rw[←hpx]
   replace hpx:=Lib.hid hpx
   replace hyz:=Lib.hid hyz
   simp only
   have hbw:bw<w1.heap.size:=by
    obtain ⟨b',o',e,-,h2,-⟩:=HV.out.raw.2 (by omega)
    injection e with e
    injection e with e1
    omega
   have hd4:Hid (∀ (h:k+1<ws.length) W,Below w1.heap.size w1 W→W.cell? ⟨bw,ow+(k+1),none⟩=some (sv ws[k+1])):=Lib.hid fun h W hW=>by
    obtain ⟨b',o',e,hd⟩:=StrsV.at (Rd.keepB HV.out hW (Nat.le_refl _)) h
    injection e with e
    injection e with e1 e2
    subst e1 e2
    exact hd
   cases sb with
   | false=>
    cases hq:parseF x with
    | some f=>
     have hpF:Hid (parseF x=some ⟨fe,fa,fb⟩):=Lib.hid (by have h:=hfv.out;rw[hq] at h ⊢;exact congrArg some h)
     have hpt:pf=true:=by rw[hpf.out,hq];rfl
     subst hpt
     clear hq
     by_cases hn1:k+1<ws.length
     ·have hni:(k:Int)+1<(ws.length:Int):=by omega
      have hdc:=Lib.hid (fun W=>hd4.out hn1 W)
      obtain ⟨y,hyy⟩:∃ y,y=ws[k+1]:=⟨_,rfl⟩
      have hnb:nextB ws k=decide (y=[124]):=by unfold nextB;rw[List.getElem?_eq_getElem hn1,←hyy,decide_eq_decide];simp
      rw[←hyy] at hdc
      clear hyy
      by_cases hy:y=[124]
      ·subst hy
       have hnB:Hid (nextB ws k=true):=Lib.hid (by rw[hnb];rfl)
       clear hnb
       go_wp2_with (at_builtin;refine appFL rfl _ _ rfl (base:=w1.heap.size+1) (xs:=fs) rfl (HF3.out.below bel) rfl (FactsV.one (f:=⟨fe,fa,fb⟩) (Blk.newE (by simp))) (by simp;omega) (by simp;omega) ?_;intro A' c' w4 of4 hg4 hB4;have z0:=Blk.grownO (g:=w.heap.size) (hg:=hg4) blks (FactsO.below (w:=w3) HF3.out bel).1 (by decide);have z1b:=Blk.grownO (g:=w1.heap.size) (hg:=hg4) blks (FactsO.below (w:=w3) HF3.out bel).1 (by decide);have z1c:=z1b.cell;have z1f:=z1b.frozen;have ox4:=AtomsO.grownF (AtomsO.below (w:=w3) HX3.out bel) (FactsO.below (w:=w3) HF3.out bel) hg4;have hB34:Below (w1.heap.size+1) w3 w4:=(((Below.refl _ w3).alloc hz3 _).alloc (by simp;omega) _).trans hB4;have hl4:=z1b.lt;clear hg4 hB4;have hdy:=hdc.out w4 (HB3.out.trans (hB34.mono (Nat.le_succ _))))
       go_round
       case rel=>exact ⟨k+2,fs++[⟨fe,fa,fb⟩],xs,A',c',AA,cA,true,rfl,by go_num,by omega,by simp;omega,by omega,(of4.setT z1b (by decide) 0 _),(ox4.setT z1b (by decide) 0 _),Lib.hid (((HS.out _ (stepA_f hpF.out)).symm.trans hR.out |> fun h=>by rw[hnB.out] at h;exact h)),(by have h:=z1b.set_ 0 (.slice A' (fs.length+1) c');simpa using h),z0.far (by simp only[];omega) _,Lib.hid ((HB3.out.trans (hB34.mono (Nat.le_succ _))).setCell (Nat.le_refl _) _)⟩
       case measure=>simp[intOf];omega
      ·have hnB:Hid (nextB ws k=false):=Lib.hid (by rw[hnb];simpa using hy)
       have hyb:(y == [124])=false:=by rw[bytes_eq];simpa using hy
       clear hnb hy
       go_wp2_with (at_builtin;refine appFL rfl _ _ rfl (base:=w1.heap.size+1) (xs:=fs) rfl (HF3.out.below bel) rfl (FactsV.one (f:=⟨fe,fa,fb⟩) (Blk.newE (by simp))) (by simp;omega) (by simp;omega) ?_;intro A' c' w4 of4 hg4 hB4;have z0:=Blk.grownO (g:=w.heap.size) (hg:=hg4) blks (FactsO.below (w:=w3) HF3.out bel).1 (by decide);have z1b:=Blk.grownO (g:=w1.heap.size) (hg:=hg4) blks (FactsO.below (w:=w3) HF3.out bel).1 (by decide);have z1c:=z1b.cell;have z1f:=z1b.frozen;have ox4:=AtomsO.grownF (AtomsO.below (w:=w3) HX3.out bel) (FactsO.below (w:=w3) HF3.out bel) hg4;have hB34:Below (w1.heap.size+1) w3 w4:=(((Below.refl _ w3).alloc hz3 _).alloc (by simp;omega) _).trans hB4;have hl4:=z1b.lt;clear hg4 hB4;have hdy:=hdc.out w4 (HB3.out.trans (hB34.mono (Nat.le_succ _))))
       go_round
       case rel=>exact ⟨k+2,fs++[⟨fe,fa,fb⟩],xs,A',c',AA,cA,false,rfl,by go_num,by omega,by simp;omega,by omega,(of4.setT z1b (by decide) 0 _),(ox4.setT z1b (by decide) 0 _),Lib.hid (((HS.out _ (stepA_f hpF.out)).symm.trans hR.out |> fun h=>by rw[hnB.out] at h;exact h)),(by have h:=z1b.set_ 0 (.slice A' (fs.length+1) c');simpa using h),z0.far (by simp only[];omega) _,Lib.hid ((HB3.out.trans (hB34.mono (Nat.le_succ _))).setCell (Nat.le_refl _) _)⟩
       case measure=>simp[intOf];omega
     ·have hni:¬(k:Int)+1<(ws.length:Int):=by omega
      have hnB:Hid (nextB ws k=false):=Lib.hid (by unfold nextB;rw[List.getElem?_eq_none (by omega)];rfl)
      go_wp2_with (at_builtin;refine appFL rfl _ _ rfl (base:=w1.heap.size+1) (xs:=fs) rfl (HF3.out.below bel) rfl (FactsV.one (f:=⟨fe,fa,fb⟩) (Blk.newE (by simp))) (by simp;omega) (by simp;omega) ?_;intro A' c' w4 of4 hg4 hB4;have z0:=Blk.grownO (g:=w.heap.size) (hg:=hg4) blks (FactsO.below (w:=w3) HF3.out bel).1 (by decide);have z1b:=Blk.grownO (g:=w1.heap.size) (hg:=hg4) blks (FactsO.below (w:=w3) HF3.out bel).1 (by decide);have z1c:=z1b.cell;have z1f:=z1b.frozen;have ox4:=AtomsO.grownF (AtomsO.below (w:=w3) HX3.out bel) (FactsO.below (w:=w3) HF3.out bel) hg4;have hB34:Below (w1.heap.size+1) w3 w4:=(((Below.refl _ w3).alloc hz3 _).alloc (by simp;omega) _).trans hB4;have hl4:=z1b.lt;clear hg4 hB4)
      go_round
      case rel=>exact ⟨k+2,fs++[⟨fe,fa,fb⟩],xs,A',c',AA,cA,false,rfl,by go_num,by omega,by simp;omega,by omega,(of4.setT z1b (by decide) 0 _),(ox4.setT z1b (by decide) 0 _),Lib.hid (((HS.out _ (stepA_f hpF.out)).symm.trans hR.out |> fun h=>by rw[hnB.out] at h;exact h)),(by have h:=z1b.set_ 0 (.slice A' (fs.length+1) c');simpa using h),z0.far (by simp only[];omega) _,Lib.hid ((HB3.out.trans (hB34.mono (Nat.le_succ _))).setCell (Nat.le_refl _) _)⟩
      case measure=>simp[intOf];omega
    | none=>
     have hpO:Hid (parseF x=none):=Lib.hid hq
     have hpt:pf=false:=by rw[hpf.out,hq];rfl
     subst hpt
     clear hq
     by_cases hx1:x=[116,114,117,101]
     ·subst hx1
      have hst:Hid (stepA (fs,xs,false) [116,114,117,101]=some (fs,xs)):=Lib.hid (by rw[stepA_f0 hpO.out];rfl)
      clear hpO
      by_cases hn1:k+1<ws.length
      ·have hni:(k:Int)+1<(ws.length:Int):=by omega
       have hdc:=Lib.hid (fun W=>hd4.out hn1 W)
       obtain ⟨y,hyy⟩:∃ y,y=ws[k+1]:=⟨_,rfl⟩
       have hnb:nextB ws k=decide (y=[124]):=by unfold nextB;rw[List.getElem?_eq_getElem hn1,←hyy,decide_eq_decide];simp
       rw[←hyy] at hdc
       clear hyy
       by_cases hy:y=[124]
       ·subst hy
        have hnB:Hid (nextB ws k=true):=Lib.hid (by rw[hnb];rfl)
        clear hnb
        have hdy:=hdc.out w3 HB3.out
        go_wp2_with fail
        go_round
        case rel=>exact ⟨k+2,fs,xs,AF,cF,AA,cA,true,rfl,by go_num,by omega,by omega,by omega,HF3.out.below bel,HX3.out.below bel,Lib.hid (((HS.out _ hst.out).symm.trans hR.out |> fun h=>by rw[hnB.out] at h;exact h)),k1.alloc _,k0.alloc _,Lib.hid (HB3.out.alloc (by omega) _)⟩
        case measure=>simp[intOf];omega
       ·have hnB:Hid (nextB ws k=false):=Lib.hid (by rw[hnb];simpa using hy)
        have hyb:(y == [124])=false:=by rw[bytes_eq];simpa using hy
        clear hnb hy
        have hdy:=hdc.out w3 HB3.out
        go_wp2_with fail
        go_round
        case rel=>exact ⟨k+2,fs,xs,AF,cF,AA,cA,false,rfl,by go_num,by omega,by omega,by omega,HF3.out.below bel,HX3.out.below bel,Lib.hid (((HS.out _ hst.out).symm.trans hR.out |> fun h=>by rw[hnB.out] at h;exact h)),k1.alloc _,k0.alloc _,Lib.hid (HB3.out.alloc (by omega) _)⟩
        case measure=>simp[intOf];omega
      ·have hni:¬(k:Int)+1<(ws.length:Int):=by omega
       have hnB:Hid (nextB ws k=false):=Lib.hid (by unfold nextB;rw[List.getElem?_eq_none (by omega)];rfl)
       go_wp2_with fail
       go_round
       case rel=>exact ⟨k+2,fs,xs,AF,cF,AA,cA,false,rfl,by go_num,by omega,by omega,by omega,HF3.out.below bel,HX3.out.below bel,Lib.hid (((HS.out _ hst.out).symm.trans hR.out |> fun h=>by rw[hnB.out] at h;exact h)),k1.alloc _,k0.alloc _,Lib.hid (HB3.out.alloc (by omega) _)⟩
       case measure=>simp[intOf];omega
     ·have hx1b:(x == [116,114,117,101])=false:=by rw[bytes_eq];simpa using hx1
      by_cases hx2:x=[101,109,112]
      ·subst hx2
       have hst:Hid (stepA (fs,xs,false) [101,109,112]=some (fs,xs)):=Lib.hid (by rw[stepA_f0 hpO.out];rfl)
       clear hpO hx1 hx1b
       by_cases hn1:k+1<ws.length
       ·have hni:(k:Int)+1<(ws.length:Int):=by omega
        have hdc:=Lib.hid (fun W=>hd4.out hn1 W)
        obtain ⟨y,hyy⟩:∃ y,y=ws[k+1]:=⟨_,rfl⟩
        have hnb:nextB ws k=decide (y=[124]):=by unfold nextB;rw[List.getElem?_eq_getElem hn1,←hyy,decide_eq_decide];simp
        rw[←hyy] at hdc
        clear hyy
        by_cases hy:y=[124]
        ·subst hy
         have hnB:Hid (nextB ws k=true):=Lib.hid (by rw[hnb];rfl)
         clear hnb
         have hdy:=hdc.out w3 HB3.out
         go_wp2_with fail
         go_round
         case rel=>exact ⟨k+2,fs,xs,AF,cF,AA,cA,true,rfl,by go_num,by omega,by omega,by omega,HF3.out.below bel,HX3.out.below bel,Lib.hid (((HS.out _ hst.out).symm.trans hR.out |> fun h=>by rw[hnB.out] at h;exact h)),k1.alloc _,k0.alloc _,Lib.hid (HB3.out.alloc (by omega) _)⟩
         case measure=>simp[intOf];omega
        ·have hnB:Hid (nextB ws k=false):=Lib.hid (by rw[hnb];simpa using hy)
         have hyb:(y == [124])=false:=by rw[bytes_eq];simpa using hy
         clear hnb hy
         have hdy:=hdc.out w3 HB3.out
         go_wp2_with fail
         go_round
         case rel=>exact ⟨k+2,fs,xs,AF,cF,AA,cA,false,rfl,by go_num,by omega,by omega,by omega,HF3.out.below bel,HX3.out.below bel,Lib.hid (((HS.out _ hst.out).symm.trans hR.out |> fun h=>by rw[hnB.out] at h;exact h)),k1.alloc _,k0.alloc _,Lib.hid (HB3.out.alloc (by omega) _)⟩
         case measure=>simp[intOf];omega
       ·have hni:¬(k:Int)+1<(ws.length:Int):=by omega
        have hnB:Hid (nextB ws k=false):=Lib.hid (by unfold nextB;rw[List.getElem?_eq_none (by omega)];rfl)
        go_wp2_with fail
        go_round
        case rel=>exact ⟨k+2,fs,xs,AF,cF,AA,cA,false,rfl,by go_num,by omega,by omega,by omega,HF3.out.below bel,HX3.out.below bel,Lib.hid (((HS.out _ hst.out).symm.trans hR.out |> fun h=>by rw[hnB.out] at h;exact h)),k1.alloc _,k0.alloc _,Lib.hid (HB3.out.alloc (by omega) _)⟩
        case measure=>simp[intOf];omega
      ·have hx2b:(x == [101,109,112])=false:=by rw[bytes_eq];simpa using hx2
       have hst:Hid (stepA (fs,xs,false) x=none):=Lib.hid (by rw[stepA_f0 hpO.out,if_pos ⟨hx1,hx2⟩])
       clear hpO hx1 hx2
       have hNo:Hid (parseA l=none):=Lib.hid (HP0.out (hR.out.symm.trans (HN.out _ hst.out)))
       go_wp2_with fail
       have kz:=(((k0.set_ 0 (.slice none 0 0)).set_ 1 (.slice none 0 0)).alloc (.cells #[.int .i64 yk,.int .i64 ya,.int .i64 yb] tA)).cell
       refine bodyPost_ret (v:=.tuple #[.agg #[.slice none 0 0,.slice none 0 0],.bool false]) (by simp[results,Tryd.results35,go_sem,kz]) rfl ⟨_,by rw[hNo.out];rfl,?_,?_⟩
       ·rw[hNo.out];exact ⟨_,_,rfl,FactsO.nil _ _,AtomsO.nil _ _⟩
       ·have hb:=HW1.out.trans (HB3.out.mono (by omega:w.heap.size≤w1.heap.size));exact bel
   | true=>
    cases hq:parseX x with
    | some f=>
     have hpX:Hid (parseX x=some ⟨yk,ya,yb⟩):=Lib.hid (by rw[hq];exact congrArg some (hyz.out f hq).symm)
     have hpt:px=true:=by rw[hpx.out,hq];rfl
     subst hpt
     clear hq
     go_wp2_with (at_builtin;refine appAL rfl _ _ rfl (base:=w1.heap.size+1) (xs:=xs) rfl (HX3.out.below bel) rfl (AtomsV.one (f:=⟨yk,ya,yb⟩) (Blk.newE (by simp))) (by simp;omega) (by simp;omega) ?_;intro A' c' w4 of4 hg4 hB4;have z0:=Blk.grownO (g:=w.heap.size) (hg:=hg4) blks (AtomsO.below (w:=w3) HX3.out bel).1 (by decide);have z1b:=Blk.grownO (g:=w1.heap.size) (hg:=hg4) blks (AtomsO.below (w:=w3) HX3.out bel).1 (by decide);have z1c:=z1b.cell;have z1f:=z1b.frozen;have ox4:=FactsO.grownA (FactsO.below (w:=w3) HF3.out bel) (AtomsO.below (w:=w3) HX3.out bel) hg4;have hB34:Below (w1.heap.size+1) w3 w4:=(((Below.refl _ w3).alloc hz3 _).alloc (by simp;omega) _).trans hB4;have hl4:=z1b.lt;clear hg4 hB4)
     go_round
     case rel=>exact ⟨k+2,fs,xs++[⟨yk,ya,yb⟩],AF,cF,A',c',true,rfl,by go_num,by omega,by omega,by simp;omega,(ox4.setT z1b (by decide) 1 _),(of4.setT z1b (by decide) 1 _),Lib.hid ((HS.out _ (stepA_x hpX.out)).symm.trans hR.out),(by have h:=z1b.set_ 1 (.slice A' (xs.length+1) c');simpa using h),z0.far (by simp only[];omega) _,Lib.hid ((HB3.out.trans (hB34.mono (Nat.le_succ _))).setCell (Nat.le_refl _) _)⟩
     case measure=>simp[intOf];omega
    | none=>
     have hpO:Hid (parseX x=none):=Lib.hid hq
     have hpt:px=false:=by rw[hpx.out,hq];rfl
     subst hpt
     clear hq
     by_cases hx1:x=[116,114,117,101]
     ·subst hx1
      have hst:Hid (stepA (fs,xs,true) [116,114,117,101]=some (fs,xs)):=Lib.hid (by rw[stepA_x0 hpO.out];rfl)
      clear hpO
      go_wp2_with fail
      go_round
      case rel=>exact ⟨k+2,fs,xs,AF,cF,AA,cA,true,rfl,by go_num,by omega,by omega,by omega,HF3.out.below bel,HX3.out.below bel,Lib.hid ((HS.out _ hst.out).symm.trans hR.out),k1.alloc _,k0.alloc _,Lib.hid (HB3.out.alloc (by omega) _)⟩
      case measure=>simp[intOf];omega
     ·have hx1b:(x == [116,114,117,101])=false:=by rw[bytes_eq];simpa using hx1
      by_cases hx2:x=[101,109,112]
      ·subst hx2
       have hst:Hid (stepA (fs,xs,true) [101,109,112]=some (fs,xs)):=Lib.hid (by rw[stepA_x0 hpO.out];rfl)
       clear hpO hx1 hx1b
       go_wp2_with fail
       go_round
       case rel=>exact ⟨k+2,fs,xs,AF,cF,AA,cA,true,rfl,by go_num,by omega,by omega,by omega,HF3.out.below bel,HX3.out.below bel,Lib.hid ((HS.out _ hst.out).symm.trans hR.out),k1.alloc _,k0.alloc _,Lib.hid (HB3.out.alloc (by omega) _)⟩
       case measure=>simp[intOf];omega
      ·have hx2b:(x == [101,109,112])=false:=by rw[bytes_eq];simpa using hx2
       have hst:Hid (stepA (fs,xs,true) x=none):=Lib.hid (by rw[stepA_x0 hpO.out,if_pos ⟨hx1,hx2⟩])
       clear hpO hx1 hx2
       have hNo:Hid (parseA l=none):=Lib.hid (HP0.out (hR.out.symm.trans (HN.out _ hst.out)))
       go_wp2_with fail
       have kz:=(((k0.set_ 0 (.slice none 0 0)).set_ 1 (.slice none 0 0)).alloc (.cells #[.int .i64 yk,.int .i64 ya,.int .i64 yb] tA)).cell
       refine bodyPost_ret (v:=.tuple #[.agg #[.slice none 0 0,.slice none 0 0],.bool false]) (by simp[results,Tryd.results35,go_sem,kz]) rfl ⟨_,by rw[hNo.out];rfl,?_,?_⟩
       ·rw[hNo.out];exact ⟨_,_,rfl,FactsO.nil _ _,AtomsO.nil _ _⟩
       ·have hb:=HW1.out.trans (HB3.out.mono (by omega:w.heap.size≤w1.heap.size));exact bel
  ·have hki:¬(k:Int)<(ws.length:Int):=by omega
   have hE:=Lib.hid (HP1.out ⟨fs,xs⟩ hl3 (hR.out.symm.trans (readA_end (by omega))))
   have HA:Hid (AsnO wr (w1.heap.size+1) (.agg #[.slice AF fs.length cF,.slice AA xs.length cA]) ⟨fs,xs⟩):=Lib.hid ⟨_,_,rfl,HF.out,HX.out⟩
   go_wp2_with fail
   refine (c_FormatAssertion _ ⟨fs,xs⟩ _ HA.out.reads).mono ?_
   rintro e w5 ⟨rfl,hB5⟩
   have HB5:=Lib.hid (bgo HB.out hB5)
   replace k0:=k0.next hB5
   replace k1:=k1.next hB5
   have HA5:=Lib.hid (HA.out.below hB5)
   clear hB5 HA qk0 rk0 lk0 qk1 rk1 lk1
   (replace qk0:=k0.cell;replace rk0:=k0.frozen;replace lk0:=k0.lt;replace qk1:=k1.cell;replace rk1:=k1.frozen;replace lk1:=k1.lt)
   obtain ⟨T,hT⟩:∃ T,T=fmtA ⟨fs,xs⟩:=⟨_,rfl⟩
   rw[←hT] at hE ⊢
   clear hT
   by_cases ht:T=l
   ·subst ht
    by_cases he:T=[]
    ·subst he
     have hNo:Hid (parseA []=none):=Lib.hid (by rw[hE.out];rfl)
     clear hE
     go_wp2_with fail
     have kz:=((k0.set_ 0 (.slice none 0 0)).set_ 1 (.slice none 0 0)).cell
     refine bodyPost_ret (v:=.tuple #[.agg #[.slice none 0 0,.slice none 0 0],.bool false]) (by simp[results,Tryd.results35,go_sem,kz]) rfl ⟨_,by rw[hNo.out];rfl,?_,?_⟩
     ·rw[hNo.out];exact ⟨_,_,rfl,FactsO.nil _ _,AtomsO.nil _ _⟩
     ·have hb:=HW1.out.trans (HB5.out.mono (by omega:w.heap.size≤w1.heap.size));exact bel
    ·have heb:(T == [])=false:=by rw[bytes_eq];simpa using he
     have hYes:Hid (parseA T=some ⟨fs,xs⟩):=Lib.hid (by rw[hE.out,if_pos ⟨rfl,he⟩])
     clear hE he
     go_wp2_with fail
     have kz:=((k0.set_ 0 (.slice AF fs.length cF)).set_ 1 (.slice AA xs.length cA)).cell
     refine bodyPost_ret (v:=.tuple #[.agg #[.slice AF fs.length cF,.slice AA xs.length cA],.bool true]) (by simp[results,Tryd.results35,go_sem,kz]) rfl ⟨_,by rw[hYes.out];rfl,?_,?_⟩
     ·rw[hYes.out]
      obtain ⟨fv,av,e,h1,h2⟩:=HA5.out
      injection e with e;injection e with e;injection e with e1 e2;injection e2 with e2;subst e1 e2
      exact ⟨_,_,rfl,((h1.setT k0 (by decide) 0 _).setT (k0.set_ _ _) (by decide) 1 _).lower (by omega),((h2.setT k0 (by decide) 0 _).setT (k0.set_ _ _) (by decide) 1 _).lower (by omega)⟩
     ·have hb:=HW1.out.trans (HB5.out.mono (by omega:w.heap.size≤w1.heap.size));exact bel
   ·have htb:(T == l)=false:=by rw[bytes_eq];simpa using ht
    have hNo:Hid (parseA l=none):=Lib.hid (by rw[hE.out,if_neg (fun h=>ht h.1)])
    clear hE ht
    go_wp2_with fail
    have kz:=((k0.set_ 0 (.slice none 0 0)).set_ 1 (.slice none 0 0)).cell
    refine bodyPost_ret (v:=.tuple #[.agg #[.slice none 0 0,.slice none 0 0],.bool false]) (by simp[results,Tryd.results35,go_sem,kz]) rfl ⟨_,by rw[hNo.out];rfl,?_,?_⟩
    ·rw[hNo.out];exact ⟨_,_,rfl,FactsO.nil _ _,AtomsO.nil _ _⟩
    ·have hb:=HW1.out.trans (HB5.out.mono (by omega:w.heap.size≤w1.heap.size));exact bel
end Go.Proofs.YtjbboklnegfohaaDoor

/- Contracts: the text of a contract (both). -/
namespace Go.Proofs.YtjbboklnegfohaaDoor
open Go Go.RowKit Go.Proofs
def changesT (xs:List Int):Bs:=(xs.map fun x=>[32]++tnameL x).flatten
def headT (k:Ctr):Bs:=([112,114,101,32]++textA k.pre++[10])++([112,111,115,116,32]++textA k.post++[10])++[99,104,97,110,103,101,115]
def fmtC (k:Ctr):Bs:=if k.valid then headT k++changesT k.changes++[10] else []
section
variable {w w':World} {lo hi B g:Nat}
theorem Blk.nb {t:TypeId} {cs:Array Value} (h:Blk w g t cs) (hb:Below B w w') (hg:g<B):Blk w' g t cs:=(hb.block g hg).trans h
theorem TN.nb (h:TN w) (hb:Below B w w') (hg:0<B):TN w':=⟨Nat.lt_of_lt_of_le h.1 hb.size,fun i hi=>by
 have:=hb.block 0 hg
 rw[show w'.cell? ⟨0,i,none⟩=w.cell? ⟨0,i,none⟩ by simp only[World.cell?,this]]
 exact h.2 i hi⟩
end
end Go.Proofs.YtjbboklnegfohaaDoor

/- Plain: both readers of a contract accept exactly the texts of the valid contracts. -/
namespace Go.Proofs.YtjbboklnegfohaaDoor
open Go Go.RowKit Go.Proofs
def two (l:Bs) (cs:List Int):Option Asn→Option Asn→Option Ctr
 | some p,some q=>if fmtC ⟨p,q,cs⟩=l then some ⟨p,q,cs⟩ else none
 | _,_=>none
/-! changes -/
theorem prefix_back {a p:Bs} (h:Lib.hasPrefix a p=true):a=p++Lib.trimPrefix a p:=by
 have h':=h
 unfold Lib.hasPrefix at h
 obtain ⟨t,ht⟩:=List.isPrefixOf_iff_prefix.1 h
 unfold Lib.trimPrefix
 rw[if_pos h',←ht]
 simp
theorem prefix_of (p t:Bs):Lib.hasPrefix (p++t) p=true:=by
 unfold Lib.hasPrefix;exact List.isPrefixOf_iff_prefix.2 ⟨t,rfl⟩
theorem trim_of (p t:Bs):Lib.trimPrefix (p++t) p=t:=by
 unfold Lib.trimPrefix;rw[if_pos (prefix_of p t)];simp
/-! contracts -/
def L2 (k:Ctr):Bs:=[112,111,115,116,32]++textA k.post
end Go.Proofs.YtjbboklnegfohaaDoor

/- Contracts: assertions from texts (impl). -/
namespace Go.Proofs.YtjbboklnegfohaaDoor
open Go Go.RowKit Go.Proofs
theorem split_len {sep:Bs} (hs:sep≠[]):∀ (k:Nat) (l:Bs),Lib.count l sep=k→(Lib.splitK sep 0 k l).length=k+1
 | 0,l,_=>rfl
 | k+1,l,h=>by
  rcases Lib.index_spec l sep with ⟨h1,_⟩|⟨i,h1,h2,h3,_⟩
  ·rw[Lib.count_miss h1] at h;cases h
  ·have hc:=Lib.count_hit hs h1
   unfold Lib.splitK
   rw[h1,if_neg (by simp),Int.toNat_natCast,List.length_cons,split_len hs k _ (by omega)]
theorem strs_map (bs:List ByteArray):bs.map Value.string=encS (bs.map (·.data.toList)):=by
 unfold encS
 rw[List.map_map]
 exact List.map_congr_left fun b _=>by simp[sv]
theorem TM.nb {w w':World} {B:Nat} (h:TM w) (hb:Below B w w') (hg:1<B):TM w':=⟨h.1.nb hb (by omega),Nat.lt_of_lt_of_le h.2.1 hb.size,by
 obtain ⟨m,hm⟩:=h.2.2
 exact ⟨m,by rw[show w'.cell? ⟨1,0,none⟩=w.cell? ⟨1,0,none⟩ by simp only[World.cell?,hb.block 1 hg]];exact hm⟩⟩
theorem c_Split (l sep:Bs) (w:World) (h:TM w) (hl:l.length≤1049000) (hs:1≤sep.length):Calls Tryd.prog 79 #[sv l,sv sep] w fun e w'=>∃ r,e=.returned r∧StrsO w' w.heap.size r (Lib.split l sep)∧Below w.heap.size w w':=by
 obtain ⟨m,hm⟩:=h.2.2
 refine (shg_strings_Split ⟨l.toArray⟩ ⟨sep.toArray⟩ m w (by simp only[ByteArray.size,List.size_toArray];omega) hm (by simp only[ByteArray.size,List.size_toArray];omega)).mono ?_
 rintro e w' ⟨rfl,rfl⟩
 have hne:sep≠[]:=by rintro rfl;simp at hs
 have hcl:Lib.countB ⟨l.toArray⟩ ⟨sep.toArray⟩=Lib.count l sep:=by simp[Lib.countB]
 have hle:=Lib.count_le l sep
 have hd:(Lib.splitB ⟨sep.toArray⟩ 0 (Lib.count l sep) ⟨l.toArray⟩).map (·.data.toList)=Lib.split l sep:=by rw[Lib.splitB_data];rfl
 have hlen:(Lib.split l sep).length=Lib.count l sep+1:=split_len hne _ _ rfl
 refine ⟨_,rfl,?_,(Below.refl _ _).alloc (Nat.le_refl _) _⟩
 rw[hcl,strs_map,hd,←hlen]
 have hen:(encS (Lib.split l sep)).length=(Lib.split l sep).length:=by simp[encS]
 refine ⟨own_of_blk (Blk.newE rfl) (Nat.le_refl _) (by rw[hen];omega) ?_ (Nat.le_refl _) ?_ (by simp[encS]),?_⟩
 ·intro j hj
  simp
 ·rw[hlen];exact Nat.le_trans (show Lib.count l sep+1≤1049600 by omega) (by decide)
 ·unfold Lim;omega
theorem parts_len {l sep x:Bs} (h:x∈Lib.split l sep):x.length≤l.length:=by
 have:∀ k s,x∈Lib.splitK sep 0 k s→x.length≤s.length:=by
  intro k
  induction k with
  | zero=>intro s h;simp[Lib.splitK] at h;subst h;exact Nat.le_refl _
  | succ k ih=>
   intro s h
   unfold Lib.splitK at h
   split at h
   ·simp at h;subst h;exact Nat.le_refl _
   ·rcases List.mem_cons.1 h with rfl|h
    ·simp;omega
    ·have:=ih _ h
     simp at this;omega
 exact this _ _ h
theorem both_n1 (x:Option (List Atm)):both none x=none:=rfl
theorem both_n2 (x:Option (List Fct)):both x none=none:=by cases x<;>rfl
theorem rdF_no {ps:List Bs} {k:Nat} {acc:List Fct} (hk:k<ps.length) (h:pFactI ps[k]=none∨acc.length=12):rdF (ps.drop k) acc=none:=by
 rw[List.drop_eq_getElem_cons hk,rdF]
 rcases h with h|h
 ·rw[h]
 ·cases pFactI ps[k] with
  | none=>rfl
  | some f=>exact if_pos h
theorem rdF_yes {ps:List Bs} {k:Nat} {acc:List Fct} {f:Fct} (hk:k<ps.length) (h:pFactI ps[k]=some f) (hl:acc.length≠12):rdF (ps.drop k) acc=rdF (ps.drop (k+1)) (acc++[f]):=by
 conv=>lhs;rw[List.drop_eq_getElem_cons hk,rdF,h]
 exact if_neg hl
theorem rdX_no {ps:List Bs} {k:Nat} {acc:List Atm} (hk:k<ps.length) (h:pAtomI ps[k]=none∨acc.length=6):rdX (ps.drop k) acc=none:=by
 rw[List.drop_eq_getElem_cons hk,rdX]
 rcases h with h|h
 ·rw[h]
 ·cases pAtomI ps[k] with
  | none=>rfl
  | some f=>exact if_pos h
theorem rdX_yes {ps:List Bs} {k:Nat} {acc:List Atm} {f:Atm} (hk:k<ps.length) (h:pAtomI ps[k]=some f) (hl:acc.length≠6):rdX (ps.drop k) acc=rdX (ps.drop (k+1)) (acc++[f]):=by
 conv=>lhs;rw[List.drop_eq_getElem_cons hk,rdX,h]
 exact if_neg hl
set_option maxRecDepth 100000 in
set_option maxHeartbeats 12800000 in
theorem c_iPA (l:Bs) (w:World) (h:TM w) (hl:l.length≤1049000):Calls Tryd.prog 40 #[sv l] w fun e w'=>∃ r,e=.returned (.tuple #[r,.bool (pAI l).isSome])∧AsnO w' w.heap.size r ((pAI l).getD ⟨[],[]⟩)∧Below w.heap.size w w':=by
 have HT:=Lib.hid h
 have hw1:=h.2.1
 have HT0:=HT
 obtain ⟨P,hP⟩:∃ P,P=pAI l:=⟨_,rfl⟩
 rw[←hP]
 unfold pAI at hP
 have hcl:=cut_len l [32,124,32]
 obtain ⟨LF,hLF⟩:∃ a,a=(Lib.cut l [32,124,32]).1:=⟨_,rfl⟩
 obtain ⟨LX,hLX⟩:∃ b,b=(Lib.cut l [32,124,32]).2.1:=⟨_,rfl⟩
 obtain ⟨fd,hfd⟩:∃ fd,fd=(Lib.cut l [32,124,32]).2.2:=⟨_,rfl⟩
 have CC:=Lib.hid fun W (h:TM W)=>c_Cut l [32,124,32] W h (by omega)
 rw[←hLF,←hLX,←hfd] at CC hP
 rw[←hLF,←hLX] at hcl
 have hlF:LF.length≤1049000:=by omega
 have hlX:LX.length≤1049000:=by omega
 clear hLF hLX hfd h hl hcl
 replace hP:=Lib.hid hP
 go_enter Tryd.func40,Tryd.ntmps40
 go_upto_region 1 with fail
 refine bx1 (w:=w) (F:=Code.wp _ _ _ _) ?_
 rintro W k0 hB -
 replace HT:=Lib.hid (HT.out.below hB)
 go_wp2_with fail
 refine (CC.out _ HT.out).mono ?_
 rintro e w1 ⟨rfl,hq⟩
 have HB:=Lib.hid (bgo hB hq)
 replace HT:=Lib.hid (HT.out.below hq)
 replace k0:=k0.next hq
 clear CC hB hq
 cases fd
 ·(replace qk0:=k0.cell;replace rk0:=k0.frozen;replace lk0:=k0.lt)
  go_wp2_with fail
  have z0:=(k0.set_ 0 (.slice none 0 0)).set_ 1 (.slice none 0 0)
  refine bodyPost_ret (v:=.tuple #[.agg #[.slice none 0 0,.slice none 0 0],.bool false]) (by simp[results,Tryd.results40,go_sem,z0.cell]) rfl ⟨_,by rw[hP.out];rfl,?_,?_⟩
  ·rw[hP.out];exact ⟨_,_,rfl,FactsO.nil _ _,AtomsO.nil _ _⟩
  ·exact (HB.out.setCell (p:=⟨w.heap.size,0,none⟩) (by simp only;omega) _).setCell (p:=⟨w.heap.size,1,none⟩) (by simp only;omega) _
 replace hP:Hid (P=both (rdFs LF) (rdXs LX)):=Lib.hid (by have:=hP.out;simpa using this)
 have lk0:=k0.lt
 go_upto_region 5 with fail
 have k1:=Blk.new w1 34 #[.slice none 0 0,.slice none 0 0]
 have hbx:=bbox (Below.refl _ w1) (.cells #[.slice none 0 0,.slice none 0 0] 34)
 replace k0:=k0.next hbx
 replace HT:=Lib.hid (HT.out.below hbx)
 replace HB:=Lib.hid (bgo HB.out hbx)
 obtain ⟨y,hy⟩:∃ y,y=w1.heap.size:=⟨_,rfl⟩
 have hyw:w.heap.size<y:=by rw[hy];exact lk0
 have hyV:y+1≤(w1.alloc (.cells #[.slice none 0 0,.slice none 0 0] 34)).heap.size:=by rw[hy];simp
 clear hbx
 generalize (w1.alloc (.cells #[.slice none 0 0,.slice none 0 0] _))=V at *
 rw[←hy] at k1 ⊢
 clear hy lk0
 by_cases hT:LF=[116,114,117,101]
 case' pos=>
  subst hT
  go_upto_region 14 with fail
  have HP2:Hid (rdFs [116,114,117,101]=some []):=Lib.hid rfl
  obtain ⟨U,rfl⟩:∃ z,z=V:=⟨_,rfl⟩
  obtain ⟨A,hA⟩:∃ A:Option Addr,A=none:=⟨_,rfl⟩
  obtain ⟨c,hc⟩:∃ c:Nat,c=0:=⟨_,rfl⟩
  obtain ⟨fs,hfs⟩:∃ fs:List Fct,fs=[]:=⟨_,rfl⟩
  have HO:=Lib.hid (FactsO.nil U (y+1))
  rw[show (#[Value.slice none 0 0,.slice none 0 0]:Array Value)=#[.slice A fs.length c,.slice none 0 0] by rw[hA,hc,hfs];rfl] at k1
  have e0:(Value.slice none 0 0)=.slice A fs.length c:=by rw[hA,hc,hfs];rfl
  rw[e0] at HO
  rw[←hfs] at HO HP2
  clear e0 hA hc hfs
 case' neg=>
  have hTb:(LF == [116,114,117,101])=false:=by rw[bytes_eq];simpa using hT
  have hne:Hid (rdFs LF=rdF (Lib.split LF [32,38,32]) []):=Lib.hid (by unfold rdFs;exact if_neg hT)
  have hpl:Hid (∀ x∈Lib.split LF [32,38,32],x.length≤1049000):=Lib.hid fun x hx=>Nat.le_trans (parts_len hx) hlF
  have CS:=Lib.hid (c_Split LF [32,38,32] V HT.out hlF (by decide))
  obtain ⟨ps,hps⟩:∃ ps,ps=Lib.split LF [32,38,32]:=⟨_,rfl⟩
  rw[←hps] at CS hne hpl
  clear hps hT
  go_wp2_with fail
  refine CS.out.mono ?_
  rintro e w2 ⟨r2,rfl,o2,hq⟩
  obtain ⟨AS,cS,rfl,v2⟩:=o2.reads
  have hzq:=hq.size
  have hpsl:ps.length≤1049600:=v2.le
  have HS:=Lib.hid (StrsV.mono (lo':=y+1) v2 hyV (Nat.le_refl _))
  have HB2:=Lib.hid (bgo HB.out hq)
  have HT2:=Lib.hid (HT.out.below hq)
  replace k0:=k0.next hq
  replace k1:=k1.next hq
  clear CS o2 v2 hq
  obtain ⟨B,hBe⟩:∃ B,B=w2.heap.size:=⟨_,rfl⟩
  rw[←hBe] at HS
  have hBy:y+1≤B:=by omega
  go_wp2_with fail
  go_loopw [30] (fun i wr=>∃ (k:Nat) (fs:List Fct) (A:Option Addr) (c:Nat),i=.int .i64 k∧k≤ps.length∧fs.length≤12∧FactsO wr B (.slice A fs.length c) fs∧StrsV wr (y+1) B AS ps∧Hid (rdF (ps.drop k) fs=rdF ps [])∧
   Blk wr y 34 #[.slice A fs.length c,.slice none 0 0]∧Blk wr w.heap.size 34 #[.slice none 0 0,.slice none 0 0]∧Hid (Below w.heap.size w wr)∧B≤wr.heap.size) (fun i _=>ps.length - (intOf i).toNat)
  case atStart=>exact ⟨0,[],none,0,rfl,Nat.zero_le _,by simp,FactsO.nil _ _,HS.out,Lib.hid (by rw[List.drop_zero]),k1,k0,HB2,by omega⟩
  case' round=>
   clear HS k0 k1 HB2
   obtain ⟨k,fs,A,c,rfl,hk,hfl,hO,hS,hR,k1,k0,HB2,hBr⟩:=hrel
   have HO:=Lib.hid hO
   have HS:=Lib.hid hS
   have HT2:=Lib.hid ((HT0.out).nb HB2.out hw1)
   clear hO hS
   (replace qk0:=k0.cell;replace rk0:=k0.frozen;replace lk0:=k0.lt;replace qk1:=k1.cell;replace rk1:=k1.frozen;replace lk1:=k1.lt)
   by_cases hlt:k<ps.length
   case pos=>
    have hki:(k:Int)<(ps.length:Int):=by omega
    obtain ⟨bw,ow,rfl,hc⟩:=HS.out.at hlt
    have HN:=Lib.hid (fun h=>rdF_no (acc:=fs) hlt h)
    have HY:=Lib.hid (fun f h=>rdF_yes (acc:=fs) (f:=f) hlt h)
    have hxl:=hpl.out _ (List.getElem_mem hlt)
    obtain ⟨x,hxx⟩:∃ x,x=ps[k]:=⟨_,rfl⟩
    rw[←hxx] at hc HN HY hxl
    clear hxx
    have CP:=Lib.hid (c_iPF x wr HT2.out (by omega))
    cases hp:pFactI x with
    | none=>
     have HNo:Hid (P=none):=Lib.hid (by rw[hP.out,show rdFs LF=none by rw[hne.out,←hR.out];exact HN.out (.inl hp),both_n1])
     rw[hp] at CP
     go_wp2_with fail
     refine CP.out.mono ?_
     rintro e w3 ⟨rfl,hq⟩
     have HB3:=Lib.hid (bgo HB2.out hq)
     replace k0:=k0.next hq
     clear hq CP qk0 rk0 lk0 hc
     (replace qk0:=k0.cell;replace rk0:=k0.frozen;replace lk0:=k0.lt)
     simp only[Option.getD_none,Option.isSome_none,fct0,Fct.val]
     go_wp2_with fail
     have z0:=((k0.set_ 0 (.slice none 0 0)).set_ 1 (.slice none 0 0)).alloc (.cells #[.bool false,.int .i64 0,.int .i64 0] tF)
     refine bodyPost_ret (v:=.tuple #[.agg #[.slice none 0 0,.slice none 0 0],.bool false]) (by simp[results,Tryd.results40,go_sem,z0.cell]) rfl ⟨_,by rw[HNo.out];rfl,?_,?_⟩
     ·rw[HNo.out];exact ⟨_,_,rfl,FactsO.nil _ _,AtomsO.nil _ _⟩
     ·have hb:=HB3.out;have:=k0.lt;exact bel
    | some f=>
     obtain ⟨fe,fa,fb⟩:=f
     rw[hp] at CP
     have hpS:=Lib.hid hp
     clear hp
     go_wp2_with fail
     refine CP.out.mono ?_
     rintro e w3 ⟨rfl,hq⟩
     have HB3:=Lib.hid (bgo HB2.out hq)
     have HO3:=Lib.hid (HO.out.below hq)
     have HS3:=Lib.hid (HS.out.below hq)
     replace k0:=k0.next hq
     replace k1:=k1.next hq
     have hB3:=Nat.le_trans hBr hq.size
     clear hq CP qk0 rk0 lk0 qk1 rk1 lk1 hc
     (replace qk0:=k0.cell;replace rk0:=k0.frozen;replace lk0:=k0.lt;replace qk1:=k1.cell;replace rk1:=k1.frozen;replace lk1:=k1.lt)
     simp only[Option.getD_some,Option.isSome_some,Fct.val]
     by_cases h12:fs.length=12
     ·have h12b:((fs.length:Int) == 12)=true:=by simp;omega
      have HNo:Hid (P=none):=Lib.hid (by rw[hP.out,show rdFs LF=none by rw[hne.out,←hR.out];exact HN.out (.inr h12),both_n1])
      go_wp2_with fail
      have z0:=((k0.set_ 0 (.slice none 0 0)).set_ 1 (.slice none 0 0)).alloc (.cells #[.bool fe,.int .i64 fa,.int .i64 fb] tF)
      refine bodyPost_ret (v:=.tuple #[.agg #[.slice none 0 0,.slice none 0 0],.bool false]) (by simp[results,Tryd.results40,go_sem,z0.cell]) rfl ⟨_,by rw[HNo.out];rfl,?_,?_⟩
      ·rw[HNo.out];exact ⟨_,_,rfl,FactsO.nil _ _,AtomsO.nil _ _⟩
      ·have hb:=HB3.out;have:=k0.lt;exact bel
     ·have h12b:((fs.length:Int) == 12)=false:=by simp;omega
      go_wp2_with (at_builtin;refine appFL rfl _ _ rfl (base:=B) (xs:=fs) rfl (HO3.out.below bel) rfl (FactsV.one (f:=⟨fe,fa,fb⟩) (Blk.newE (by simp))) (by simp;omega) (by simp;omega) ?_;intro A' c' w4 of4 hg4 hB4;have z0:=Blk.grownO (g:=w.heap.size) (hg:=hg4) blks (FactsO.below (w:=w3) HO3.out bel).1 (by decide);have z1b:=Blk.grownO (g:=y) (hg:=hg4) blks (FactsO.below (w:=w3) HO3.out bel).1 (by decide);have z1c:=z1b.cell;have z1f:=z1b.frozen;have hB34:Below B w3 w4:=(((Below.refl _ w3).alloc hB3 _).alloc (by simp;omega) _).trans hB4;have hl4:=z1b.lt;have hz4:=hB4.size;clear hg4 hB4)
      have hz5:=hB34.size
      go_round
      case rel=>exact ⟨k+1,fs++[⟨fe,fa,fb⟩],A',c',by go_num,by omega,by simp;omega,of4.setT z1b (by decide) 0 _,Rd.setb (Rd.keepB HS3.out hB34 (Nat.le_refl _)) (.inl (Nat.lt_succ_self y)) _,Lib.hid ((HY.out _ hpS.out h12).symm.trans hR.out),(by have h:=z1b.set_ 0 (.slice A' (fs.length+1) c');simpa using h),z0.far (by simp only[];omega) _,Lib.hid ((HB3.out.trans (hB34.mono (by omega))).setCell (by simp only;omega) _),by simp;omega⟩
      case measure=>simp[intOf];omega
   case' neg=>
    have hki:¬(k:Int)<(ps.length:Int):=by omega
    have HP2:Hid (rdFs LF=some fs):=Lib.hid (by rw[hne.out,←hR.out,List.drop_eq_nil_of_le (by omega)];rfl)
    replace HO:=Lib.hid (HO.out.lower hBy)
    go_upto_region 14 with fail
    replace HB:=HB2
    replace HT:=HT2
    skip
    clear hne hpl HS HB2 HT2 hR hki hk hfl hBr hlt hBe hBy hTb
    obtain ⟨U,rfl⟩:∃ z,z=wr:=⟨_,rfl⟩
 all_goals
  obtain ⟨AF,rfl⟩:∃ z,z=A:=⟨_,rfl⟩
  obtain ⟨cF,rfl⟩:∃ z,z=c:=⟨_,rfl⟩
  obtain ⟨fl,rfl⟩:∃ z,z=fs:=⟨_,rfl⟩
  have HPF:=HP2
  have HF:=HO
  clear HP2 HO
  have lk1:=k1.lt
  have hyV:y+1≤U.heap.size:=lk1
  (replace qk0:=k0.cell;replace rk0:=k0.frozen;replace lk0:=k0.lt;replace qk1:=k1.cell;replace rk1:=k1.frozen;replace lk1:=k1.lt)
  by_cases hT:LX=[101,109,112]
  case' pos=>
   subst hT
   go_upto_region 23 with fail
   have HP2:Hid (rdXs [101,109,112]=some []):=Lib.hid rfl
   obtain ⟨Y,rfl⟩:∃ z,z=U:=⟨_,rfl⟩
   obtain ⟨A,hA⟩:∃ A:Option Addr,A=none:=⟨_,rfl⟩
   obtain ⟨c,hc⟩:∃ c:Nat,c=0:=⟨_,rfl⟩
   obtain ⟨fs,hfs⟩:∃ fs:List Atm,fs=[]:=⟨_,rfl⟩
   have HO:=Lib.hid (AtomsO.nil Y (y+1))
   rw[show (#[Value.slice AF fl.length cF,.slice none 0 0]:Array Value)=#[.slice AF fl.length cF,.slice A fs.length c] by rw[hA,hc,hfs];rfl] at k1
   have e0:(Value.slice none 0 0)=.slice A fs.length c:=by rw[hA,hc,hfs];rfl
   rw[e0] at HO
   rw[←hfs] at HO HP2
   clear e0 hA hc hfs
  case' neg=>
   have hTb:(LX == [101,109,112])=false:=by rw[bytes_eq];simpa using hT
   have hne:Hid (rdXs LX=rdX (Lib.split LX [32,42,32]) []):=Lib.hid (by unfold rdXs;exact if_neg hT)
   have hpl:Hid (∀ x∈Lib.split LX [32,42,32],x.length≤1049000):=Lib.hid fun x hx=>Nat.le_trans (parts_len hx) hlX
   have CS:=Lib.hid (c_Split LX [32,42,32] U HT.out hlX (by decide))
   obtain ⟨ps,hps⟩:∃ ps,ps=Lib.split LX [32,42,32]:=⟨_,rfl⟩
   rw[←hps] at CS hne hpl
   clear hps hT
   go_wp2_with fail
   refine CS.out.mono ?_
   rintro e w2 ⟨r2,rfl,o2,hq⟩
   obtain ⟨AS,cS,rfl,v2⟩:=o2.reads
   have hzq:=hq.size
   have hpsl:ps.length≤1049600:=v2.le
   have HS:=Lib.hid (StrsV.mono (lo':=y+1) v2 hyV (Nat.le_refl _))
   have HB2:=Lib.hid (bgo HB.out hq)
   have HT2:=Lib.hid (HT.out.below hq)
   have HFl:=Lib.hid (HF.out.below hq)
   replace k0:=k0.next hq
   replace k1:=k1.next hq
   clear CS o2 v2 hq qk0 rk0 lk0 qk1 rk1 lk1
   obtain ⟨B,hBe⟩:∃ B,B=w2.heap.size:=⟨_,rfl⟩
   rw[←hBe] at HS
   have hBy:y+1≤B:=by omega
   go_wp2_with fail
   go_loopw [60] (fun i wr=>∃ (k:Nat) (fs:List Atm) (A:Option Addr) (c:Nat),i=.int .i64 k∧k≤ps.length∧fs.length≤6∧AtomsO wr B (.slice A fs.length c) fs∧StrsV wr (y+1) B AS ps∧Hid (rdX (ps.drop k) fs=rdX ps [])∧
    Blk wr y 34 #[.slice AF fl.length cF,.slice A fs.length c]∧Blk wr w.heap.size 34 #[.slice none 0 0,.slice none 0 0]∧Hid (Below w.heap.size w wr)∧B≤wr.heap.size∧FactsO wr (y+1) (.slice AF fl.length cF) fl) (fun i _=>ps.length - (intOf i).toNat)
   case atStart=>exact ⟨0,[],none,0,rfl,Nat.zero_le _,by simp,AtomsO.nil _ _,HS.out,Lib.hid (by rw[List.drop_zero]),k1,k0,HB2,by omega,HFl.out⟩
   case' round=>
    clear HS k0 k1 HB2 HFl
    obtain ⟨k,fs,A,c,rfl,hk,hfl,hO,hS,hR,k1,k0,HB2,hBr,hFl⟩:=hrel
    have HO:=Lib.hid hO
    have HS:=Lib.hid hS
    have HFl:=Lib.hid hFl
    have HT2:=Lib.hid ((HT0.out).nb HB2.out hw1)
    clear hO hS hFl
    (replace qk0:=k0.cell;replace rk0:=k0.frozen;replace lk0:=k0.lt;replace qk1:=k1.cell;replace rk1:=k1.frozen;replace lk1:=k1.lt)
    by_cases hlt:k<ps.length
    case pos=>
     have hki:(k:Int)<(ps.length:Int):=by omega
     obtain ⟨bw,ow,rfl,hc⟩:=HS.out.at hlt
     have HN:=Lib.hid (fun h=>rdX_no (acc:=fs) hlt h)
     have HY:=Lib.hid (fun f h=>rdX_yes (acc:=fs) (f:=f) hlt h)
     have hxl:=hpl.out _ (List.getElem_mem hlt)
     obtain ⟨x,hxx⟩:∃ x,x=ps[k]:=⟨_,rfl⟩
     rw[←hxx] at hc HN HY hxl
     clear hxx
     have CP:=Lib.hid (c_iPX x wr HT2.out (by omega))
     cases hp:pAtomI x with
     | none=>
      have HNo:Hid (P=none):=Lib.hid (by rw[hP.out,HPF.out,show rdXs LX=none by rw[hne.out,←hR.out];exact HN.out (.inl hp),both_n2])
      rw[hp] at CP
      go_wp2_with fail
      refine CP.out.mono ?_
      rintro e w3 ⟨rfl,hq⟩
      have HB3:=Lib.hid (bgo HB2.out hq)
      replace k0:=k0.next hq
      clear hq CP qk0 rk0 lk0 hc
      (replace qk0:=k0.cell;replace rk0:=k0.frozen;replace lk0:=k0.lt)
      simp only[Option.getD_none,Option.isSome_none,Atm.val]
      go_wp2_with fail
      have z0:=((k0.set_ 0 (.slice none 0 0)).set_ 1 (.slice none 0 0)).alloc (.cells #[.int .i64 0,.int .i64 0,.int .i64 0] tA)
      refine bodyPost_ret (v:=.tuple #[.agg #[.slice none 0 0,.slice none 0 0],.bool false]) (by simp[results,Tryd.results40,go_sem,z0.cell]) rfl ⟨_,by rw[HNo.out];rfl,?_,?_⟩
      ·rw[HNo.out];exact ⟨_,_,rfl,FactsO.nil _ _,AtomsO.nil _ _⟩
      ·have hb:=HB3.out;have:=k0.lt;exact bel
     | some f=>
      obtain ⟨fe,fa,fb⟩:=f
      rw[hp] at CP
      have hpS:=Lib.hid hp
      clear hp
      go_wp2_with fail
      refine CP.out.mono ?_
      rintro e w3 ⟨rfl,hq⟩
      have HB3:=Lib.hid (bgo HB2.out hq)
      have HO3:=Lib.hid (HO.out.below hq)
      have HS3:=Lib.hid (HS.out.below hq)
      have HFl3:=Lib.hid (HFl.out.below hq)
      replace k0:=k0.next hq
      replace k1:=k1.next hq
      have hB3:=Nat.le_trans hBr hq.size
      clear hq CP qk0 rk0 lk0 qk1 rk1 lk1 hc
      (replace qk0:=k0.cell;replace rk0:=k0.frozen;replace lk0:=k0.lt;replace qk1:=k1.cell;replace rk1:=k1.frozen;replace lk1:=k1.lt)
      simp only[Option.getD_some,Option.isSome_some,Atm.val]
      by_cases h12:fs.length=6
      ·have h12b:((fs.length:Int) == 6)=true:=by simp;omega
       have HNo:Hid (P=none):=Lib.hid (by rw[hP.out,HPF.out,show rdXs LX=none by rw[hne.out,←hR.out];exact HN.out (.inr h12),both_n2])
       go_wp2_with fail
       have z0:=((k0.set_ 0 (.slice none 0 0)).set_ 1 (.slice none 0 0)).alloc (.cells #[.int .i64 fe,.int .i64 fa,.int .i64 fb] tA)
       refine bodyPost_ret (v:=.tuple #[.agg #[.slice none 0 0,.slice none 0 0],.bool false]) (by simp[results,Tryd.results40,go_sem,z0.cell]) rfl ⟨_,by rw[HNo.out];rfl,?_,?_⟩
       ·rw[HNo.out];exact ⟨_,_,rfl,FactsO.nil _ _,AtomsO.nil _ _⟩
       ·have hb:=HB3.out;have:=k0.lt;exact bel
      ·have h12b:((fs.length:Int) == 6)=false:=by simp;omega
       go_wp2_with (at_builtin;refine appAL rfl _ _ rfl (base:=B) (xs:=fs) rfl (HO3.out.below bel) rfl (AtomsV.one (f:=⟨fe,fa,fb⟩) (Blk.newE (by simp))) (by simp;omega) (by simp;omega) ?_;intro A' c' w4 of4 hg4 hB4;have z0:=Blk.grownO (g:=w.heap.size) (hg:=hg4) blks (AtomsO.below (w:=w3) HO3.out bel).1 (by decide);have z1b:=Blk.grownO (g:=y) (hg:=hg4) blks (AtomsO.below (w:=w3) HO3.out bel).1 (by decide);have z1c:=z1b.cell;have z1f:=z1b.frozen;have hB34:Below B w3 w4:=(((Below.refl _ w3).alloc hB3 _).alloc (by simp;omega) _).trans hB4;have hl4:=z1b.lt;have ox4:=FactsO.grownA (FactsO.below (w:=w3) HFl3.out bel) (AtomsO.below (w:=w3) HO3.out bel) hg4;have hz4:=hB4.size;clear hg4 hB4)
       have hz5:=hB34.size
       go_round
       case rel=>exact ⟨k+1,fs++[⟨fe,fa,fb⟩],A',c',by go_num,by omega,by simp;omega,of4.setT z1b (by decide) 1 _,Rd.setb (Rd.keepB HS3.out hB34 (Nat.le_refl _)) (.inl (Nat.lt_succ_self y)) _,Lib.hid ((HY.out _ hpS.out h12).symm.trans hR.out),(by have h:=z1b.set_ 1 (.slice A' (fs.length+1) c');simpa using h),z0.far (by simp only[];omega) _,Lib.hid ((HB3.out.trans (hB34.mono (by omega))).setCell (by simp only;omega) _),by simp;omega,ox4.setT z1b (by decide) 1 _⟩
       case measure=>simp[intOf];omega
    case' neg=>
     have hki:¬(k:Int)<(ps.length:Int):=by omega
     have HP2:Hid (rdXs LX=some fs):=Lib.hid (by rw[hne.out,←hR.out,List.drop_eq_nil_of_le (by omega)];rfl)
     replace HO:=Lib.hid (HO.out.lower hBy)
     go_upto_region 23 with fail
     replace HB:=HB2
     replace HT:=HT2
     replace HF:=HFl
     clear hne hpl HS HB2 HT2 hR hki hk hfl hBr hlt hBe hBy hTb
     obtain ⟨Y,rfl⟩:∃ z,z=wr:=⟨_,rfl⟩
  all_goals
   have HYes:Hid (P=some ⟨fl,fs⟩):=Lib.hid (by rw[hP.out,HPF.out,HP2.out];rfl)
   (replace qk0:=k0.cell;replace rk0:=k0.frozen;replace lk0:=k0.lt;replace qk1:=k1.cell;replace rk1:=k1.frozen;replace lk1:=k1.lt)
   go_wp2_with fail
   have z0:=(k0.set_ 0 (.slice AF fl.length cF)).set_ 1 (.slice A fs.length c)
   refine bodyPost_ret (v:=.tuple #[.agg #[.slice AF fl.length cF,.slice A fs.length c],.bool true]) (by simp[results,Tryd.results40,go_sem,z0.cell]) rfl ⟨_,by rw[HYes.out];rfl,?_,?_⟩
   ·rw[HYes.out]
    exact ⟨_,_,rfl,((HF.out.setT k0 (by decide) 0 _).setT (k0.set_ _ _) (by decide) 1 _).lower (by omega),((HO.out.setT k0 (by decide) 0 _).setT (k0.set_ _ _) (by decide) 1 _).lower (by omega)⟩
   ·have hb:=HB.out;have:=k0.lt;exact bel
end Go.Proofs.YtjbboklnegfohaaDoor

/- Contracts: contracts from texts (impl). -/
namespace Go.Proofs.YtjbboklnegfohaaDoor
open Go Go.RowKit Go.Proofs
theorem trimP_len (a p:Bs):(Lib.trimPrefix a p).length≤a.length:=by
 unfold Lib.trimPrefix;split<;>simp
theorem c_CutPre (l p:Bs) (w:World):Calls Tryd.prog 39 #[sv l,sv p] w fun e w'=>e=.returned (.tuple #[sv (Lib.trimPrefix l p),.bool (Lib.hasPrefix l p)])∧w=w':=by
 refine (shg_strings_CutPrefix ⟨l.toArray⟩ ⟨p.toArray⟩ w).mono ?_
 rintro e w' ⟨rfl,rfl⟩
 exact ⟨by simp,rfl⟩
end Go.Proofs.YtjbboklnegfohaaDoor
