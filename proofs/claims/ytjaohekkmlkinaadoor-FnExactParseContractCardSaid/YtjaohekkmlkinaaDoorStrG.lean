/- Contracts: the text of an assertion (spec). -/
import Derived.Test.YtjaohekkmlkinaaDoorStrF
import Derived.Test.YtjaohekkmlkinaaDoorTerm
set_option linter.unusedSimpArgs false
set_option linter.unusedVariables false
namespace Go.Proofs.YtjaohekkmlkinaaDoor
open Go Go.RowKit Go.Proofs
theorem getD_of {α:Type} [Inhabited α] {xs:List α} {k:Nat} (h:k<xs.length):xs.getD k default=xs[k]:=by simp[List.getD,List.getElem?_eq_getElem h]
set_option maxRecDepth 100000 in
set_option maxHeartbeats 6400000 in
theorem c_l3Text {lo hi:Nat} (v:Value) (a:Asn) (w:World) (h:AsnV w lo hi v a):Calls Tryd.prog 48 #[v] w fun e w'=>e=.returned (sv (textA a))∧Below w.heap.size w w':=by
 obtain ⟨A1,c1,A2,c2,rfl,h1,h2⟩:=h
 have hl1:=h1.le
 have hl2:=h2.le
 unfold Lim at hl1 hl2
 have hlT:=Lib.hid (factsT_len a.facts)
 have HTT:=Lib.hid (show textA a=if a.atoms.length=0 then factsT a.facts++[32,124,32,101,109,112] else outSX (factsT a.facts) a.atoms a.atoms.length from rfl)
 have H1:=Lib.hid h1
 have H2:=Lib.hid h2
 clear h1 h2
 go_enter Tryd.func48,Tryd.ntmps48
 go_wp2_with fail
 go_loopw [3,4] (fun o i wr=>∃ (k:Nat) (X:Bs),k≤a.facts.length∧i=.int .i64 k∧o=sv X∧Hid (X=outF a.facts k)∧Blk wr w.heap.size 31 #[.slice A1 a.facts.length c1,.slice A2 a.atoms.length c2]∧Hid (Below w.heap.size w wr)) (fun _ i _=>a.facts.length - (intOf i).toNat)
 case atStart=>exact ⟨0,[],Nat.zero_le _,rfl,rfl,Lib.hid rfl,blks,bel⟩
 case round=>
  obtain ⟨k,X,hk,rfl,rfl,hX,k0,hB⟩:=hrel
  have qk0:=k0.cell
  have rk0:=k0.frozen
  have lk0:=k0.lt
  by_cases hlt:k<a.facts.length
  ·obtain ⟨b,off,rfl,hbl⟩:=H1.out.blt hlt
   obtain ⟨g0,g1,g2⟩:=(H1.out.below hB.out).cl hlt
   have hXl:X.length≤k * 11:=by rw[hX.out];exact outF_len _ _
   have hFl:=fmtF_len a.facts[k]
   have hS:=Lib.hid (show outF a.facts (k+1)=(if 0<k then outF a.facts k++[32,38,32] else outF a.facts k)++fmtF (a.facts.getD k default) from rfl)
   have hD:=Lib.hid (getD_of hlt)
   obtain ⟨f,hf⟩:∃ f,f=a.facts[k]:=⟨_,rfl⟩
   rw[←hf] at g0 g1 g2 hFl hD
   obtain ⟨F,hF⟩:∃ F,F=fmtF f:=⟨_,rfl⟩
   have hc:=c_l1Text f
   rw[←hF] at hc hFl
   replace hc:=Lib.hid hc
   replace hF:=Lib.hid hF
   clear hf
   by_cases hz:k=0
   ·have hki:¬(0:Int)<(k:Int):=by omega
    have hz0:¬0<k:=by omega
    clear hz
    obtain ⟨S2,e2,n2⟩:=addO (P:=Tryd.prog) X F (by omega)
    go_wp2_with fail
    refine (hc.out _).mono ?_
    rintro e w2 ⟨rfl,hB2⟩
    go_wp2_with fail
    go_round
    case rel=>exact ⟨k+1,S2,by omega,by go_num,rfl,Lib.hid (by rw[e2.out,hS.out,hD.out,hF.out,hX.out,if_neg hz0]),k0.next hB2,bgo hB.out hB2⟩
    case measure=>simp[intOf];omega
   ·have hki:(0:Int)<(k:Int):=by omega
    obtain ⟨S1,e1,n1⟩:=addO (P:=Tryd.prog) X [32,38,32] (by simp;omega)
    have hS1:S1.length≤k * 11+3:=by rw[e1.out];simp;omega
    obtain ⟨S2,e2,n2⟩:=addO (P:=Tryd.prog) S1 F (by omega)
    have hz0:0<k:=by omega
    clear hS1 hXl
    go_wp2_with fail
    refine (hc.out _).mono ?_
    rintro e w2 ⟨rfl,hB2⟩
    go_wp2_with fail
    go_round
    case rel=>exact ⟨k+1,S2,by omega,by go_num,rfl,Lib.hid (by rw[e2.out,e1.out,hS.out,hD.out,hF.out,hX.out,if_pos hz0]),k0.next hB2,bgo hB.out hB2⟩
    case measure=>simp[intOf];omega
  ·obtain rfl:k=a.facts.length:=by omega
   by_cases hz:a.facts.length=0
   ·have hzi:((a.facts.length:Int) == 0)=true:=by simp[hz]
    have HTX:Hid (factsT a.facts=[116,114,117,101]):=Lib.hid (by unfold factsT;rw[if_pos hz])
    clear hX hz
    have hTT:Hid (factsT a.facts=[116,114,117,101]):=Lib.hid HTX.out
    have hTl:([116,114,117,101]).length≤4+a.facts.length * 11:=by have h:=hlT.out;rw[hTT.out] at h;exact h
    obtain ⟨S0,e0,n0⟩:=addO (P:=Tryd.prog) [116,114,117,101] [32,124,32,101,109,112] (by first|omega|(simp;done)|(simp;omega))
    have HTT2:=Lib.hid (by have h:=HTT.out;rw[hTT.out] at h;exact h)
    by_cases hy:a.atoms.length=0
    ·have hyi:((a.atoms.length:Int) == 0)=true:=by simp[hy]
     have E1:=Lib.hid (HTT2.out.trans (if_pos hy))
     clear hy hTl
     go_wp2_with fail
     go_ret
     exact ⟨ret_str (by rw[E1.out,e0.out]),hB.out⟩
    ·have hyi:((a.atoms.length:Int) == 0)=false:=by simp[hy]
     have E1:=Lib.hid (HTT2.out.trans (if_neg hy))
     clear hy n0 e0
     go_wp2_with fail
     go_loopw [3,5,6] (fun o i s wx=>∃ (k:Nat) (X:Bs),k≤a.atoms.length∧i=.int .i64 k∧o=sv X∧Hid (X=outSX ([116,114,117,101]) a.atoms k)∧Blk wx w.heap.size 31 #[.slice A1 a.facts.length c1,.slice A2 a.atoms.length c2]∧Hid (Below w.heap.size w wx)) (fun _ i _ _=>a.atoms.length - (intOf i).toNat)
     case atStart=>exact ⟨0,[116,114,117,101],Nat.zero_le _,rfl,rfl,Lib.hid rfl,k0,hB⟩
     case round=>
      clear k0 qk0 rk0 lk0 hB
      obtain ⟨k,X,hk,rfl,rfl,hX,k0,hB⟩:=hrel
      have qk0:=k0.cell
      have rk0:=k0.frozen
      have lk0:=k0.lt
      by_cases hlt:k<a.atoms.length
      ·obtain ⟨b,off,rfl,hbl⟩:=H2.out.blt hlt
       obtain ⟨g0,g1,g2⟩:=(H2.out.below hB.out).cl hlt
       have hXl:X.length≤([116,114,117,101]).length+k * 10:=by rw[hX.out];exact outX_len _ _ _
       have hS:=Lib.hid (show outSX ([116,114,117,101]) a.atoms (k+1)=(if k=0 then outSX ([116,114,117,101]) a.atoms k++[32,124,32] else outSX ([116,114,117,101]) a.atoms k++[32,42,32])++tnameL (a.atoms.getD k default).a++signX (a.atoms.getD k default)++tnameL (a.atoms.getD k default).b from rfl)
       have hD:=Lib.hid (getD_of hlt)
       obtain ⟨f,hf⟩:∃ f,f=a.atoms[k]:=⟨_,rfl⟩
       rw[←hf] at g0 g1 g2 hD
       clear hf
       obtain ⟨kd,ta,tb⟩:=f
       simp only at g0 g1 g2
       have la:=tnameL_len ta
       have lb:=tnameL_len tb
       have ca:=c_TermName ta
       have cb:=c_TermName tb
       obtain ⟨NA,hNA⟩:∃ N,N=tnameL ta:=⟨_,rfl⟩
       obtain ⟨NB,hNB⟩:∃ N,N=tnameL tb:=⟨_,rfl⟩
       rw[←hNA] at la ca
       rw[←hNB] at lb cb
       replace ca:=Lib.hid ca
       replace cb:=Lib.hid cb
       replace hNA:=Lib.hid hNA
       replace hNB:=Lib.hid hNB
       obtain ⟨sep,hsep⟩:∃ sep:Bs,sep=if k=0 then [32,124,32] else [32,42,32]:=⟨_,rfl⟩
       have lsep:sep.length=3:=by rw[hsep];split<;>rfl
       obtain ⟨S1,e1,n1⟩:=addO (P:=Tryd.prog) X sep (by omega)
       have l1:S1.length=X.length+3:=by rw[e1.out,List.length_append,lsep]
       obtain ⟨S2,e2,n2⟩:=addO (P:=Tryd.prog) S1 NA (by omega)
       have l2:S2.length≤X.length+6:=by rw[e2.out,List.length_append];omega
       obtain ⟨sg,hsg⟩:∃ sg,sg=signX ⟨kd,ta,tb⟩:=⟨_,rfl⟩
       have lsg:sg.length=1:=by rw[hsg];unfold signX;split<;>rfl
       obtain ⟨S3,e3,n3⟩:=addO (P:=Tryd.prog) S2 sg (by omega)
       have l3:S3.length≤X.length+7:=by rw[e3.out,List.length_append];omega
       obtain ⟨S4,e4,n4⟩:=addO (P:=Tryd.prog) S3 NB (by omega)
       have hEnd:Hid (S4=outSX ([116,114,117,101]) a.atoms (k+1)):=Lib.hid (by
        rw[hS.out,hD.out,e4.out,e3.out,e2.out,e1.out,hX.out,hNA.out,hNB.out,hsg,hsep]
        split<;>rfl)
       clear l1 l2 l3 lsep hXl la lb
       have hb1:Hid (Below w.heap.size w wr):=hB
       have tokA:True:=trivial
       have tokB:True:=trivial
       by_cases hk2:kd=2
       ·subst hk2
        have hsg2:sg=[126]:=hsg
        subst hsg2
        clear hsg lsg
        by_cases hz0:k=0
        ·subst hz0
         have hsep2:sep=[32,124,32]:=hsep
         subst hsep2
         clear hsep
         have h0l:(0:Int)<(a.atoms.length:Int):=by omega
         simp only[Nat.zero_mul,Nat.add_zero,Nat.zero_add] at g0 g1 g2
         go_wp2_with fail
         go_region_held3 (fun w'=>(∀ i,w'.cell? ⟨w.heap.size,i,none⟩=#[.slice A1 a.facts.length c1,.slice (some ⟨b,off,none⟩) a.atoms.length c2][i]?)∧w'.cell? ⟨b,off+1,none⟩=some (.int .i64 ta)∧w'.cell? ⟨b,off+2,none⟩=some (.int .i64 tb))
          (exact ⟨qk0,g1,g2⟩)
          (first
           | (have _t:=tokA;clear _t tokA;go_at_call 49;refine (ca.out _).mono ?_;rintro e w' ⟨rfl,rfl⟩)
           | (have _t:=tokB;clear _t tokB;go_at_call 49;refine (cb.out _).mono ?_;rintro e w' ⟨rfl,rfl⟩))
         all_goals
          go_wp2_with fail
          go_round
          case rel=>exact ⟨0+1,S4,by omega,by go_num,rfl,hEnd,k0,Lib.hid hB.out.drew⟩
          case measure=>simp[intOf];omega
        ·have hki:((k:Int) == 0)=false:=by simp;omega
         have hsep2:sep=[32,42,32]:=by rw[hsep,if_neg hz0]
         subst hsep2
         clear hsep hz0
         go_wp2_with fail
         go_region_held3 (fun w'=>(∀ i,w'.cell? ⟨w.heap.size,i,none⟩=#[.slice A1 a.facts.length c1,.slice (some ⟨b,off,none⟩) a.atoms.length c2][i]?)∧w'.cell? ⟨b,off+k * 3+1,none⟩=some (.int .i64 ta)∧w'.cell? ⟨b,off+k * 3+2,none⟩=some (.int .i64 tb))
          (exact ⟨qk0,g1,g2⟩)
          (first
           | (have _t:=tokA;clear _t tokA;go_at_call 49;refine (ca.out _).mono ?_;rintro e w' ⟨rfl,rfl⟩)
           | (have _t:=tokB;clear _t tokB;go_at_call 49;refine (cb.out _).mono ?_;rintro e w' ⟨rfl,rfl⟩))
         all_goals
          go_wp2_with fail
          go_round
          case rel=>exact ⟨k+1,S4,by omega,by go_num,rfl,hEnd,k0,Lib.hid hB.out.drew⟩
          case measure=>simp[intOf];omega
       ·have hk2b:(kd == 2)=false:=by simpa using hk2
        have hsg2:sg=[62]:=by rw[hsg];unfold signX;rw[if_neg hk2]
        subst hsg2
        clear hsg lsg hk2
        by_cases hz0:k=0
        ·subst hz0
         have hsep2:sep=[32,124,32]:=hsep
         subst hsep2
         clear hsep
         have h0l:(0:Int)<(a.atoms.length:Int):=by omega
         simp only[Nat.zero_mul,Nat.add_zero,Nat.zero_add] at g0 g1 g2
         go_wp2_with fail
         go_region_held3 (fun w'=>(∀ i,w'.cell? ⟨w.heap.size,i,none⟩=#[.slice A1 a.facts.length c1,.slice (some ⟨b,off,none⟩) a.atoms.length c2][i]?)∧w'.cell? ⟨b,off+1,none⟩=some (.int .i64 ta)∧w'.cell? ⟨b,off+2,none⟩=some (.int .i64 tb))
          (exact ⟨qk0,g1,g2⟩)
          (first
           | (have _t:=tokA;clear _t tokA;go_at_call 49;refine (ca.out _).mono ?_;rintro e w' ⟨rfl,rfl⟩)
           | (have _t:=tokB;clear _t tokB;go_at_call 49;refine (cb.out _).mono ?_;rintro e w' ⟨rfl,rfl⟩))
         all_goals
          go_wp2_with fail
          go_round
          case rel=>exact ⟨0+1,S4,by omega,by go_num,rfl,hEnd,k0,Lib.hid hB.out.drew⟩
          case measure=>simp[intOf];omega
        ·have hki:((k:Int) == 0)=false:=by simp;omega
         have hsep2:sep=[32,42,32]:=by rw[hsep,if_neg hz0]
         subst hsep2
         clear hsep hz0
         go_wp2_with fail
         go_region_held3 (fun w'=>(∀ i,w'.cell? ⟨w.heap.size,i,none⟩=#[.slice A1 a.facts.length c1,.slice (some ⟨b,off,none⟩) a.atoms.length c2][i]?)∧w'.cell? ⟨b,off+k * 3+1,none⟩=some (.int .i64 ta)∧w'.cell? ⟨b,off+k * 3+2,none⟩=some (.int .i64 tb))
          (exact ⟨qk0,g1,g2⟩)
          (first
           | (have _t:=tokA;clear _t tokA;go_at_call 49;refine (ca.out _).mono ?_;rintro e w' ⟨rfl,rfl⟩)
           | (have _t:=tokB;clear _t tokB;go_at_call 49;refine (cb.out _).mono ?_;rintro e w' ⟨rfl,rfl⟩))
         all_goals
          go_wp2_with fail
          go_round
          case rel=>exact ⟨k+1,S4,by omega,by go_num,rfl,hEnd,k0,Lib.hid hB.out.drew⟩
          case measure=>simp[intOf];omega
      ·obtain rfl:k=a.atoms.length:=by omega
       go_wp2_with fail
       go_ret
       exact ⟨ret_str (by rw[E1.out,hX.out]),hB.out⟩
   ·have hzi:((a.facts.length:Int) == 0)=false:=by simp[hz]
    have HTX:Hid (factsT a.facts=X):=Lib.hid (by unfold factsT;rw[if_neg hz,hX.out])
    clear hX hz
    obtain ⟨XT,rfl⟩:∃ XT,XT=X:=⟨_,rfl⟩
    have hTT:Hid (factsT a.facts=XT):=Lib.hid HTX.out
    have hTl:(XT).length≤4+a.facts.length * 11:=by have h:=hlT.out;rw[hTT.out] at h;exact h
    obtain ⟨S0,e0,n0⟩:=addO (P:=Tryd.prog) XT [32,124,32,101,109,112] (by first|omega|(simp;done)|(simp;omega))
    have HTT2:=Lib.hid (by have h:=HTT.out;rw[hTT.out] at h;exact h)
    by_cases hy:a.atoms.length=0
    ·have hyi:((a.atoms.length:Int) == 0)=true:=by simp[hy]
     have E1:=Lib.hid (HTT2.out.trans (if_pos hy))
     clear hy hTl
     go_wp2_with fail
     go_ret
     exact ⟨ret_str (by rw[E1.out,e0.out]),hB.out⟩
    ·have hyi:((a.atoms.length:Int) == 0)=false:=by simp[hy]
     have E1:=Lib.hid (HTT2.out.trans (if_neg hy))
     clear hy n0 e0
     go_wp2_with fail
     go_loopw [3,5,6] (fun o i s wx=>∃ (k:Nat) (X:Bs),k≤a.atoms.length∧i=.int .i64 k∧o=sv X∧Hid (X=outSX (XT) a.atoms k)∧Blk wx w.heap.size 31 #[.slice A1 a.facts.length c1,.slice A2 a.atoms.length c2]∧Hid (Below w.heap.size w wx)) (fun _ i _ _=>a.atoms.length - (intOf i).toNat)
     case atStart=>exact ⟨0,XT,Nat.zero_le _,rfl,rfl,Lib.hid rfl,k0,hB⟩
     case round=>
      clear k0 qk0 rk0 lk0 hB
      obtain ⟨k,X,hk,rfl,rfl,hX,k0,hB⟩:=hrel
      have qk0:=k0.cell
      have rk0:=k0.frozen
      have lk0:=k0.lt
      by_cases hlt:k<a.atoms.length
      ·obtain ⟨b,off,rfl,hbl⟩:=H2.out.blt hlt
       obtain ⟨g0,g1,g2⟩:=(H2.out.below hB.out).cl hlt
       have hXl:X.length≤(XT).length+k * 10:=by rw[hX.out];exact outX_len _ _ _
       have hS:=Lib.hid (show outSX (XT) a.atoms (k+1)=(if k=0 then outSX (XT) a.atoms k++[32,124,32] else outSX (XT) a.atoms k++[32,42,32])++tnameL (a.atoms.getD k default).a++signX (a.atoms.getD k default)++tnameL (a.atoms.getD k default).b from rfl)
       have hD:=Lib.hid (getD_of hlt)
       obtain ⟨f,hf⟩:∃ f,f=a.atoms[k]:=⟨_,rfl⟩
       rw[←hf] at g0 g1 g2 hD
       clear hf
       obtain ⟨kd,ta,tb⟩:=f
       simp only at g0 g1 g2
       have la:=tnameL_len ta
       have lb:=tnameL_len tb
       have ca:=c_TermName ta
       have cb:=c_TermName tb
       obtain ⟨NA,hNA⟩:∃ N,N=tnameL ta:=⟨_,rfl⟩
       obtain ⟨NB,hNB⟩:∃ N,N=tnameL tb:=⟨_,rfl⟩
       rw[←hNA] at la ca
       rw[←hNB] at lb cb
       replace ca:=Lib.hid ca
       replace cb:=Lib.hid cb
       replace hNA:=Lib.hid hNA
       replace hNB:=Lib.hid hNB
       obtain ⟨sep,hsep⟩:∃ sep:Bs,sep=if k=0 then [32,124,32] else [32,42,32]:=⟨_,rfl⟩
       have lsep:sep.length=3:=by rw[hsep];split<;>rfl
       obtain ⟨S1,e1,n1⟩:=addO (P:=Tryd.prog) X sep (by omega)
       have l1:S1.length=X.length+3:=by rw[e1.out,List.length_append,lsep]
       obtain ⟨S2,e2,n2⟩:=addO (P:=Tryd.prog) S1 NA (by omega)
       have l2:S2.length≤X.length+6:=by rw[e2.out,List.length_append];omega
       obtain ⟨sg,hsg⟩:∃ sg,sg=signX ⟨kd,ta,tb⟩:=⟨_,rfl⟩
       have lsg:sg.length=1:=by rw[hsg];unfold signX;split<;>rfl
       obtain ⟨S3,e3,n3⟩:=addO (P:=Tryd.prog) S2 sg (by omega)
       have l3:S3.length≤X.length+7:=by rw[e3.out,List.length_append];omega
       obtain ⟨S4,e4,n4⟩:=addO (P:=Tryd.prog) S3 NB (by omega)
       have hEnd:Hid (S4=outSX (XT) a.atoms (k+1)):=Lib.hid (by
        rw[hS.out,hD.out,e4.out,e3.out,e2.out,e1.out,hX.out,hNA.out,hNB.out,hsg,hsep]
        split<;>rfl)
       clear l1 l2 l3 lsep hXl la lb
       have hb1:Hid (Below w.heap.size w wr):=hB
       have tokA:True:=trivial
       have tokB:True:=trivial
       by_cases hk2:kd=2
       ·subst hk2
        have hsg2:sg=[126]:=hsg
        subst hsg2
        clear hsg lsg
        by_cases hz0:k=0
        ·subst hz0
         have hsep2:sep=[32,124,32]:=hsep
         subst hsep2
         clear hsep
         have h0l:(0:Int)<(a.atoms.length:Int):=by omega
         simp only[Nat.zero_mul,Nat.add_zero,Nat.zero_add] at g0 g1 g2
         go_wp2_with fail
         go_region_held3 (fun w'=>(∀ i,w'.cell? ⟨w.heap.size,i,none⟩=#[.slice A1 a.facts.length c1,.slice (some ⟨b,off,none⟩) a.atoms.length c2][i]?)∧w'.cell? ⟨b,off+1,none⟩=some (.int .i64 ta)∧w'.cell? ⟨b,off+2,none⟩=some (.int .i64 tb))
          (exact ⟨qk0,g1,g2⟩)
          (first
           | (have _t:=tokA;clear _t tokA;go_at_call 49;refine (ca.out _).mono ?_;rintro e w' ⟨rfl,rfl⟩)
           | (have _t:=tokB;clear _t tokB;go_at_call 49;refine (cb.out _).mono ?_;rintro e w' ⟨rfl,rfl⟩))
         all_goals
          go_wp2_with fail
          go_round
          case rel=>exact ⟨0+1,S4,by omega,by go_num,rfl,hEnd,k0,Lib.hid hB.out.drew⟩
          case measure=>simp[intOf];omega
        ·have hki:((k:Int) == 0)=false:=by simp;omega
         have hsep2:sep=[32,42,32]:=by rw[hsep,if_neg hz0]
         subst hsep2
         clear hsep hz0
         go_wp2_with fail
         go_region_held3 (fun w'=>(∀ i,w'.cell? ⟨w.heap.size,i,none⟩=#[.slice A1 a.facts.length c1,.slice (some ⟨b,off,none⟩) a.atoms.length c2][i]?)∧w'.cell? ⟨b,off+k * 3+1,none⟩=some (.int .i64 ta)∧w'.cell? ⟨b,off+k * 3+2,none⟩=some (.int .i64 tb))
          (exact ⟨qk0,g1,g2⟩)
          (first
           | (have _t:=tokA;clear _t tokA;go_at_call 49;refine (ca.out _).mono ?_;rintro e w' ⟨rfl,rfl⟩)
           | (have _t:=tokB;clear _t tokB;go_at_call 49;refine (cb.out _).mono ?_;rintro e w' ⟨rfl,rfl⟩))
         all_goals
          go_wp2_with fail
          go_round
          case rel=>exact ⟨k+1,S4,by omega,by go_num,rfl,hEnd,k0,Lib.hid hB.out.drew⟩
          case measure=>simp[intOf];omega
       ·have hk2b:(kd == 2)=false:=by simpa using hk2
        have hsg2:sg=[62]:=by rw[hsg];unfold signX;rw[if_neg hk2]
        subst hsg2
        clear hsg lsg hk2
        by_cases hz0:k=0
        ·subst hz0
         have hsep2:sep=[32,124,32]:=hsep
         subst hsep2
         clear hsep
         have h0l:(0:Int)<(a.atoms.length:Int):=by omega
         simp only[Nat.zero_mul,Nat.add_zero,Nat.zero_add] at g0 g1 g2
         go_wp2_with fail
         go_region_held3 (fun w'=>(∀ i,w'.cell? ⟨w.heap.size,i,none⟩=#[.slice A1 a.facts.length c1,.slice (some ⟨b,off,none⟩) a.atoms.length c2][i]?)∧w'.cell? ⟨b,off+1,none⟩=some (.int .i64 ta)∧w'.cell? ⟨b,off+2,none⟩=some (.int .i64 tb))
          (exact ⟨qk0,g1,g2⟩)
          (first
           | (have _t:=tokA;clear _t tokA;go_at_call 49;refine (ca.out _).mono ?_;rintro e w' ⟨rfl,rfl⟩)
           | (have _t:=tokB;clear _t tokB;go_at_call 49;refine (cb.out _).mono ?_;rintro e w' ⟨rfl,rfl⟩))
         all_goals
          go_wp2_with fail
          go_round
          case rel=>exact ⟨0+1,S4,by omega,by go_num,rfl,hEnd,k0,Lib.hid hB.out.drew⟩
          case measure=>simp[intOf];omega
        ·have hki:((k:Int) == 0)=false:=by simp;omega
         have hsep2:sep=[32,42,32]:=by rw[hsep,if_neg hz0]
         subst hsep2
         clear hsep hz0
         go_wp2_with fail
         go_region_held3 (fun w'=>(∀ i,w'.cell? ⟨w.heap.size,i,none⟩=#[.slice A1 a.facts.length c1,.slice (some ⟨b,off,none⟩) a.atoms.length c2][i]?)∧w'.cell? ⟨b,off+k * 3+1,none⟩=some (.int .i64 ta)∧w'.cell? ⟨b,off+k * 3+2,none⟩=some (.int .i64 tb))
          (exact ⟨qk0,g1,g2⟩)
          (first
           | (have _t:=tokA;clear _t tokA;go_at_call 49;refine (ca.out _).mono ?_;rintro e w' ⟨rfl,rfl⟩)
           | (have _t:=tokB;clear _t tokB;go_at_call 49;refine (cb.out _).mono ?_;rintro e w' ⟨rfl,rfl⟩))
         all_goals
          go_wp2_with fail
          go_round
          case rel=>exact ⟨k+1,S4,by omega,by go_num,rfl,hEnd,k0,Lib.hid hB.out.drew⟩
          case measure=>simp[intOf];omega
      ·obtain rfl:k=a.atoms.length:=by omega
       go_wp2_with fail
       go_ret
       exact ⟨ret_str (by rw[E1.out,hX.out]),hB.out⟩
set_option maxRecDepth 100000 in
set_option maxHeartbeats 1600000 in
theorem c_FormatAssertion {lo hi:Nat} (v:Value) (a:Asn) (w:World) (h:AsnV w lo hi v a):Calls Tryd.prog 67 #[v] w fun e w'=>e=.returned (sv (fmtA a))∧Below w.heap.size w w':=by
 obtain ⟨A1,c1,A2,c2,rfl,h1,h2⟩:=h
 have HV:Hid (AsnV w lo hi (.agg #[.slice A1 a.facts.length c1,.slice A2 a.atoms.length c2]) a):=Lib.hid ⟨_,_,_,_,rfl,h1,h2⟩
 clear h1 h2
 go_enter Tryd.func67,Tryd.ntmps67
 have k0:Blk (w.alloc (.cells #[.slice A1 a.facts.length c1,.slice A2 a.atoms.length c2] 31)) w.heap.size 31 #[.slice A1 a.facts.length c1,.slice A2 a.atoms.length c2]:=blks
 go_wp2_with fail
 refine (c_spec_AssertionValid _ a _ (HV.out.below bel)).mono ?_
 rintro e w1 ⟨rfl,hB1⟩
 have k1:=k0.next hB1
 have hB:Below w.heap.size w w1:=bgo (w:=w) bel hB1
 (replace qk1:=k1.cell;replace rk1:=k1.frozen;replace lk1:=k1.lt)
 cases hv:a.valid
 ·go_wp2_with fail
  go_ret
  exact ⟨ret_str (by unfold fmtA;rw[hv];rfl),hB⟩
 ·go_wp2_with fail
  refine (c_l3Text _ a _ (HV.out.below hB)).mono ?_
  rintro e w2 ⟨rfl,hB2⟩
  go_wp2_with fail
  go_ret
  exact ⟨ret_str (by unfold fmtA;rw[hv];rfl),bgo hB hB2⟩
end Go.Proofs.YtjaohekkmlkinaaDoor
