/- Contracts: texts cut into lines and words (spec). -/
import Derived.Test.YtjaohekkmlkinaaGreatMStrHa
import Derived.Deep.RegionHeld3
import Derived.IntWalk
set_option linter.unusedSimpArgs false
set_option linter.unusedVariables false
set_option maxRecDepth 100000
set_option maxHeartbeats 25600000
namespace Go.Proofs.YtjaohekkmlkinaaGreat
section
open Go Go.RowKit Go.Proofs
theorem u8_eq2 (x c:UInt8):((x.toNat:Int) == (c.toNat:Int))=decide (x=c):=by
 rw[Bool.eq_iff_iff,beq_iff_eq,decide_eq_true_iff];constructor
 ·intro h;exact UInt8.toNat_inj.1 (by omega)
 ·rintro rfl;rfl
def cutSt (c:UInt8) (l:Bs) (i fr:Nat) (xs:List Bs):Prop:=
 fr≤i∧xs.length≤i∧(i≤l.length→splitL c l=xs++splitA c ((l.drop fr).take (i - fr)) (l.drop i))∧(l.length<i→splitL c l=xs)
theorem cutSt.start (c:UInt8) (l:Bs):cutSt c l 0 0 []:=⟨Nat.le_refl _,Nat.le_refl _,fun _=>by simp[splitL],fun h=>by omega⟩
theorem cutSt.hit {c:UInt8} {l:Bs} {i fr:Nat} {xs:List Bs} (h:cutSt c l i fr xs) (hi:i<l.length) (hc:l[i]=c):cutSt c l (i+1) (i+1) (xs++[(l.drop fr).take (i - fr)]):=by
 obtain ⟨h1,h2,h3,h4⟩:=h;refine ⟨Nat.le_refl _,by simpa using h2,fun _=>?_,fun h=>by omega⟩;rw[h3 (by omega),List.drop_eq_getElem_cons hi,splitA,if_pos hc];simp
theorem cutSt.miss {c:UInt8} {l:Bs} {i fr:Nat} {xs:List Bs} (h:cutSt c l i fr xs) (hi:i<l.length) (hc:l[i]≠c):cutSt c l (i+1) fr xs:=by
 obtain ⟨h1,h2,h3,h4⟩:=h;refine ⟨by omega,by omega,fun _=>?_,fun h=>by omega⟩;rw[h3 (by omega),List.drop_eq_getElem_cons hi,splitA,if_neg hc]
 congr 2
 rw[show i+1 - fr=(i - fr)+1 by omega,List.take_add_one,List.getElem?_drop,show fr+(i - fr)=i by omega,List.getElem?_eq_getElem hi];rfl
theorem cutSt.last {c:UInt8} {l:Bs} {i fr:Nat} {xs:List Bs} (h:cutSt c l i fr xs) (hi:i=l.length):cutSt c l (i+1) (i+1) (xs++[(l.drop fr).take (i - fr)]):=by
 obtain ⟨h1,h2,h3,h4⟩:=h;refine ⟨Nat.le_refl _,by simpa using h2,fun h=>by omega,fun _=>?_⟩;rw[h3 (by omega),hi,List.drop_length,splitA]
theorem box_ext (w:World) (l:Bs) (i j:Nat) (t:TypeId):(w.alloc (.cells #[.string ((ByteArray.mk l.toArray).extract i j)] t)).cell? ⟨w.heap.size,0,none⟩=some (sv ((l.drop i).take (j - i))):=by
 rw[bext];exact cell_box w _ t
theorem c_l18Cut (l:Bs) (c:UInt8) (w:World) (hl:l.length≤1049000):Calls Tryz.prog 194 #[sv l,.int .u8 (c.toNat:Nat)] w fun e w'=>∃ r,e=.returned r∧StrsO w' w.heap.size r (splitL c l)∧Below w.heap.size w w':=by
 (go_enter Tryz.func194,Tryz.ntmps194);have hO:StrsO (w.alloc (.cells #[] tS)) w.heap.size (.slice (some ⟨w.heap.size,0,none⟩) 0 0) []:=StrsO.empty _ rfl;have hB:Below w.heap.size w (w.alloc (.cells #[] tS)):=bel;(go_wp2_with fail)
 go_loopw [5,6,7] (fun u fr i wr=>∃ (k f:Nat) (A:Option Addr) (d:Nat) (xs:List Bs),k≤l.length+1∧i=.int .i64 k∧fr=.int .i64 f∧u=.slice A xs.length d∧StrsO wr w.heap.size (.slice A xs.length d) xs∧aJ (cutSt c l k f xs)∧aJ (Below w.heap.size w wr)) (fun _ _ i _=>l.length+1 - (intOf i).toNat)
 case atStart=>exact ⟨0,0,_,0,[],by omega,rfl,rfl,rfl,hO,ax (cutSt.start c l),hB⟩
 case round=>
  clear hO hB;obtain ⟨k,f,A,d,xs,hk,rfl,rfl,rfl,hO,hC,HB⟩:=hrel;have HO:=ax hO;have hf:=hC.o.1;have hx:=hC.o.2.1;have hz:=HB.o.size;clear hO;by_cases hle:k≤l.length
  ·have hkl:(k:Int)≤(l.length:Int):=by omega
   by_cases hlt:k<l.length
   ·have hki:(k:Int)<(l.length:Int):=by omega
    have hke:((k:Int) == (l.length:Int))=false:=by simp;omega
    have hb:=bidx l k hlt;by_cases hc:l[k]=c
    ·have hN:=ax (hC.o.hit hlt hc);obtain ⟨x,hxx⟩:∃ x,x=l[k]:=⟨_,rfl⟩;rw[←hxx] at hb hc;have hbc:((x.toNat:Int) == (c.toNat:Int))=true:=by rw[u8_eq2];simpa using hc
     clear hc hxx;(go_wp2_with (at_builtin;refine appS rfl _ _ rfl (v:=.slice A xs.length d) rfl (StrsO.bz (w:=wr) HO.o bel) wr.heap.size ((l.drop f).take (k - f)) rfl (box_ext wr l f k _) (by omega) (by simp;omega) ?_;intro g2 d2 w2 o2 hg2 hB2));have hBB:Below w.heap.size w w2:=((HB.o.alloc hz _).trans hB2)
     go_round
     case rel=>exact ⟨k+1,k+1,some ⟨g2,0,none⟩,d2,xs++[(l.drop f).take (k - f)],by omega,by go_num,by go_num,by simp,by simpa using o2,hN,hBB⟩
     case measure=>simp[intOf];omega
    ·have hN:=ax (hC.o.miss hlt hc);obtain ⟨x,hxx⟩:∃ x,x=l[k]:=⟨_,rfl⟩;rw[←hxx] at hb hc;have hbc:((x.toNat:Int) == (c.toNat:Int))=false:=by rw[u8_eq2];simpa using hc
     clear hc hxx;(go_wp2_with fail)
     go_round
     case rel=>exact ⟨k+1,f,A,d,xs,by omega,by go_num,rfl,rfl,HO.o,hN,HB.o⟩
     case measure=>simp[intOf];omega
   ·have hke:((k:Int) == (l.length:Int))=true:=by simp;omega
    have hN:=ax (hC.o.last (by omega));(go_wp2_with (at_builtin;refine appS rfl _ _ rfl (v:=.slice A xs.length d) rfl (StrsO.bz (w:=wr) HO.o bel) wr.heap.size ((l.drop f).take (k - f)) rfl (box_ext wr l f k _) (by omega) (by simp;omega) ?_;intro g2 d2 w2 o2 hg2 hB2));have hBB:Below w.heap.size w w2:=((HB.o.alloc hz _).trans hB2)
    go_round
    case rel=>exact ⟨k+1,k+1,some ⟨g2,0,none⟩,d2,xs++[(l.drop f).take (k - f)],by omega,by go_num,by go_num,by simp,by simpa using o2,hN,hBB⟩
    case measure=>simp[intOf];omega
  ·have hkl:¬(k:Int)≤(l.length:Int):=by omega
   have hE:=ax (hC.o.2.2.2 (by omega));(go_wp2_with fail);go_ret;exact ⟨_,rfl,by rw[hE.o];exact HO.o,HB.o⟩
theorem words_take {ss:List Bs} {k:Nat} (hk:k<ss.length):(ss.take (k+1)).filter (fun x=>decide (x≠[]))=(ss.take k).filter (fun x=>decide (x≠[]))++(if ss[k]=[] then [] else [ss[k]]):=by
 rw[List.take_add_one,List.filter_append,List.getElem?_eq_getElem hk]
 congr 1
 by_cases h:ss[k]=[]<;>simp[h]
theorem c_l18Words (l:Bs) (w:World) (hl:l.length≤1049000):Calls Tryz.prog 189 #[sv l] w fun e w'=>∃ r,e=.returned r∧StrsO w' w.heap.size r (wordsL l)∧Below w.heap.size w w':=by
 (go_enter Tryz.func189,Tryz.ntmps189);(go_wp2_with fail);refine (c_l18Cut l 32 _ hl).mono ?_;rintro e w1 ⟨r1,rfl,o1,hB1⟩;obtain ⟨A1,d1,rfl,v1⟩:=o1.rj;have hW:=ax (show wordsL l=((splitL 32 l).take (splitL 32 l).length).filter fun x=>decide (x≠[]) by rw[List.take_length];rfl);have hn:=splitA_len 32 l []
 change (splitL 32 l).length≤_ at hn
 obtain ⟨ss,hss⟩:∃ ss,ss=splitL 32 l:=⟨_,rfl⟩;rw[←hss] at v1 hW hn ⊢;have HV:=ax v1;have z1:=hB1.size;have HW1:=ax hB1;have hO:StrsO (w1.alloc (.cells #[] tS)) w1.heap.size (.slice (some ⟨w1.heap.size,0,none⟩) 0 0) []:=StrsO.empty _ rfl;have hB:Below w1.heap.size w1 (w1.alloc (.cells #[] tS)):=bel;clear v1 o1 hB1 hss;(go_wp2_with fail)
 go_loopw [4,5] (fun u i wr=>∃ (k:Nat) (A:Option Addr) (d:Nat) (xs:List Bs),k≤ss.length∧i=.int .i64 k∧u=.slice A xs.length d∧StrsO wr w1.heap.size (.slice A xs.length d) xs∧aJ (xs=(ss.take k).filter fun x=>decide (x≠[]))∧aJ (Below w1.heap.size w1 wr)) (fun _ i _=>ss.length - (intOf i).toNat)
 case atStart=>exact ⟨0,_,0,[],by omega,rfl,rfl,hO,ax rfl,hB⟩
 case round=>
  clear hO hB;obtain ⟨k,A,d,xs,hk,rfl,rfl,hO,hC,HB⟩:=hrel;have HO:=ax hO;have hx:xs.length≤k:=by rw[hC.o];exact Nat.le_trans (List.length_filter_le _ _) (by simp;omega)
  have hz:=HB.o.size;clear hO;by_cases hlt:k<ss.length
  ·have hki:(k:Int)<(ss.length:Int):=by omega
   have hN:=ax (words_take hlt);obtain ⟨b,o,rfl,hc⟩:=(HV.o.bz HB.o).at hlt;have hbl:=block_lt_of_cell hc;obtain ⟨x,hxx⟩:∃ x,x=ss[k]:=⟨_,rfl⟩;rw[←hxx] at hc hN;clear hxx;by_cases he:x=[]
   ·subst he;have hN2:aJ (xs=(ss.take (k+1)).filter fun x=>decide (x≠[])):=ax (by rw[hN.o,hC.o];simp);clear hN;(go_wp2_with fail)
    go_round
    case rel=>exact ⟨k+1,A,d,xs,by omega,by go_num,rfl,HO.o,hN2,HB.o⟩
    case measure=>simp[intOf];omega
   ·have hN2:aJ (xs++[x]=(ss.take (k+1)).filter fun x=>decide (x≠[])):=ax (by rw[hN.o,hC.o,if_neg he]);have heb:(x == [])=false:=by rw[bytes_eq];simpa using he
    clear hN;(go_wp2_with (at_builtin;refine appS rfl _ _ rfl (v:=.slice A xs.length d) rfl (StrsO.bz (w:=wr) HO.o bel) wr.heap.size x rfl (cell_box wr _ _) (by omega) (by simp;omega) ?_;intro g2 d2 w2 o2 hg2 hB2));have hBB:Below w1.heap.size w1 w2:=((HB.o.alloc hz _).trans hB2)
    go_round
    case rel=>exact ⟨k+1,some ⟨g2,0,none⟩,d2,xs++[x],by omega,by go_num,by simp,by simpa using o2,hN2,hBB⟩
    case measure=>simp[intOf];omega
  ·obtain rfl:k=ss.length:=by omega
   (go_wp2_with fail);go_ret;exact ⟨_,rfl,by rw[hW.o,←hC.o];exact HO.o.bq z1,bgo HW1.o HB.o⟩
theorem getD_of {α:Type} [Inhabited α] {xs:List α} {k:Nat} (h:k<xs.length):xs.getD k default=xs[k]:=by simp[List.getD,List.getElem?_eq_getElem h]
theorem c_l3Text {lo hi:Nat} (v:Value) (a:Asn) (w:World) (h:AsnV w lo hi v a):Calls Tryz.prog 240 #[v] w fun e w'=>e=.returned (sv (textA a))∧Below w.heap.size w w':=by
 obtain ⟨A1,c1,A2,c2,rfl,h1,h2⟩:=h;have hl1:=h1.le;have hl2:=h2.le;unfold Lim at hl1 hl2;have hlT:=ax (factsT_len a.facts);have HTT:=ax (show textA a=if a.atoms.length=0 then factsT a.facts++[32,124,32,101,109,112] else outSX (factsT a.facts) a.atoms a.atoms.length from rfl);have H1:=ax h1;have H2:=ax h2;clear h1 h2;(go_enter Tryz.func240,Tryz.ntmps240);(go_wp2_with fail)
 go_loopw [3,4] (fun o i wr=>∃ (k:Nat) (X:Bs),k≤a.facts.length∧i=.int .i64 k∧o=sv X∧aJ (X=outF a.facts k)∧Blk wr w.heap.size 37 #[.slice A1 a.facts.length c1,.slice A2 a.atoms.length c2]∧aJ (Below w.heap.size w wr)) (fun _ i _=>a.facts.length - (intOf i).toNat)
 case atStart=>exact ⟨0,[],Nat.zero_le _,rfl,rfl,ax rfl,blks,bel⟩
 case round=>
  obtain ⟨k,X,hk,rfl,rfl,hX,k0,hB⟩:=hrel;have qk0:=k0.cell;have rk0:=k0.frozen;have lk0:=k0.lt;by_cases hlt:k<a.facts.length
  ·obtain ⟨b,off,rfl,hbl⟩:=H1.o.blt hlt;obtain ⟨g0,g1,g2⟩:=(H1.o.bz hB.o).cl hlt;have hXl:X.length≤k * 11:=by rw[hX.o];exact outF_len _ _
   have hFl:=fmtF_len a.facts[k];have hS:=ax (show outF a.facts (k+1)=(if 0<k then outF a.facts k++[32,38,32] else outF a.facts k)++fmtF (a.facts.getD k default) from rfl);have hD:=ax (getD_of hlt);obtain ⟨f,hf⟩:∃ f,f=a.facts[k]:=⟨_,rfl⟩;rw[←hf] at g0 g1 g2 hFl hD;obtain ⟨F,hF⟩:∃ F,F=fmtF f:=⟨_,rfl⟩;have hc:=c_l1Text f;rw[←hF] at hc hFl;replace hc:=ax hc;replace hF:=ax hF;clear hf;by_cases hz:k=0
   ·have hki:¬(0:Int)<(k:Int):=by omega
    have hz0:¬0<k:=by omega
    clear hz;obtain ⟨S2,e2,n2⟩:=addO (P:=Tryz.prog) X F (by omega);(go_wp2_with fail);refine (hc.o _).mono ?_;rintro e w2 ⟨rfl,hB2⟩;(go_wp2_with fail)
    go_round
    case rel=>exact ⟨k+1,S2,by omega,by go_num,rfl,ax (by rw[e2.o,hS.o,hD.o,hF.o,hX.o,if_neg hz0]),k0.nz hB2,bgo hB.o hB2⟩
    case measure=>simp[intOf];omega
   ·have hki:(0:Int)<(k:Int):=by omega
    obtain ⟨S1,e1,n1⟩:=addO (P:=Tryz.prog) X [32,38,32] (by simp;omega);have hS1:S1.length≤k * 11+3:=by rw[e1.o];simp;omega
    obtain ⟨S2,e2,n2⟩:=addO (P:=Tryz.prog) S1 F (by omega);have hz0:0<k:=by omega
    clear hS1 hXl;(go_wp2_with fail);refine (hc.o _).mono ?_;rintro e w2 ⟨rfl,hB2⟩;(go_wp2_with fail)
    go_round
    case rel=>exact ⟨k+1,S2,by omega,by go_num,rfl,ax (by rw[e2.o,e1.o,hS.o,hD.o,hF.o,hX.o,if_pos hz0]),k0.nz hB2,bgo hB.o hB2⟩
    case measure=>simp[intOf];omega
  ·obtain rfl:k=a.facts.length:=by omega
   by_cases hz:a.facts.length=0
   ·have hzi:((a.facts.length:Int) == 0)=true:=by simp[hz]
    have HTX:aJ (factsT a.facts=[116,114,117,101]):=ax (by unfold factsT;rw[if_pos hz]);clear hX hz;have hTT:aJ (factsT a.facts=[116,114,117,101]):=ax HTX.o;have hTl:([116,114,117,101]).length≤4+a.facts.length * 11:=by have h:=hlT.o;rw[hTT.o] at h;exact h
    obtain ⟨S0,e0,n0⟩:=addO (P:=Tryz.prog) [116,114,117,101] [32,124,32,101,109,112] (by first|omega|(simp;done)|(simp;omega));have HTT2:=ax (by have h:=HTT.o;rw[hTT.o] at h;exact h);by_cases hy:a.atoms.length=0
    ·have hyi:((a.atoms.length:Int) == 0)=true:=by simp[hy]
     have E1:=ax (HTT2.o.trans (if_pos hy));clear hy hTl;(go_wp2_with fail);go_ret;exact ⟨ret_str (by rw[E1.o,e0.o]),hB.o⟩
    ·have hyi:((a.atoms.length:Int) == 0)=false:=by simp[hy]
     have E1:=ax (HTT2.o.trans (if_neg hy));clear hy n0 e0;(go_wp2_with fail)
     go_loopw [3,5,6] (fun o i s wx=>∃ (k:Nat) (X:Bs),k≤a.atoms.length∧i=.int .i64 k∧o=sv X∧aJ (X=outSX ([116,114,117,101]) a.atoms k)∧Blk wx w.heap.size 37 #[.slice A1 a.facts.length c1,.slice A2 a.atoms.length c2]∧aJ (Below w.heap.size w wx)) (fun _ i _ _=>a.atoms.length - (intOf i).toNat)
     case atStart=>exact ⟨0,[116,114,117,101],Nat.zero_le _,rfl,rfl,ax rfl,k0,hB⟩
     case round=>
      clear k0 qk0 rk0 lk0 hB;obtain ⟨k,X,hk,rfl,rfl,hX,k0,hB⟩:=hrel;have qk0:=k0.cell;have rk0:=k0.frozen;have lk0:=k0.lt;by_cases hlt:k<a.atoms.length
      ·obtain ⟨b,off,rfl,hbl⟩:=H2.o.blt hlt;obtain ⟨g0,g1,g2⟩:=(H2.o.bz hB.o).cl hlt;have hXl:X.length≤([116,114,117,101]).length+k * 10:=by rw[hX.o];exact outX_len _ _ _
       have hS:=ax (show outSX ([116,114,117,101]) a.atoms (k+1)=(if k=0 then outSX ([116,114,117,101]) a.atoms k++[32,124,32] else outSX ([116,114,117,101]) a.atoms k++[32,42,32])++tnameL (a.atoms.getD k default).a++signX (a.atoms.getD k default)++tnameL (a.atoms.getD k default).b from rfl);have hD:=ax (getD_of hlt);obtain ⟨f,hf⟩:∃ f,f=a.atoms[k]:=⟨_,rfl⟩;rw[←hf] at g0 g1 g2 hD;clear hf;obtain ⟨kd,ta,tb⟩:=f;simp only at g0 g1 g2;have la:=tnameL_len ta;have lb:=tnameL_len tb;have ca:=c_TermName ta;have cb:=c_TermName tb;obtain ⟨NA,hNA⟩:∃ N,N=tnameL ta:=⟨_,rfl⟩;obtain ⟨NB,hNB⟩:∃ N,N=tnameL tb:=⟨_,rfl⟩;rw[←hNA] at la ca;rw[←hNB] at lb cb;replace ca:=ax ca;replace cb:=ax cb;replace hNA:=ax hNA;replace hNB:=ax hNB;obtain ⟨sep,hsep⟩:∃ sep:Bs,sep=if k=0 then [32,124,32] else [32,42,32]:=⟨_,rfl⟩;have lsep:sep.length=3:=by rw[hsep];split<;>rfl
       obtain ⟨S1,e1,n1⟩:=addO (P:=Tryz.prog) X sep (by omega);have l1:S1.length=X.length+3:=by rw[e1.o,List.length_append,lsep]
       obtain ⟨S2,e2,n2⟩:=addO (P:=Tryz.prog) S1 NA (by omega);have l2:S2.length≤X.length+6:=by rw[e2.o,List.length_append];omega
       obtain ⟨sg,hsg⟩:∃ sg,sg=signX ⟨kd,ta,tb⟩:=⟨_,rfl⟩;have lsg:sg.length=1:=by rw[hsg];unfold signX;split<;>rfl
       obtain ⟨S3,e3,n3⟩:=addO (P:=Tryz.prog) S2 sg (by omega);have l3:S3.length≤X.length+7:=by rw[e3.o,List.length_append];omega
       obtain ⟨S4,e4,n4⟩:=addO (P:=Tryz.prog) S3 NB (by omega)
       have hEnd:aJ (S4=outSX ([116,114,117,101]) a.atoms (k+1)):=ax (by
        rw[hS.o,hD.o,e4.o,e3.o,e2.o,e1.o,hX.o,hNA.o,hNB.o,hsg,hsep]
        split<;>rfl)
       clear l1 l2 l3 lsep hXl la lb;have hb1:aJ (Below w.heap.size w wr):=hB;have tokA:True:=trivial;have tokB:True:=trivial;by_cases hk2:kd=2
       ·subst hk2;have hsg2:sg=[126]:=hsg;subst hsg2;clear hsg lsg;by_cases hz0:k=0
        ·subst hz0;have hsep2:sep=[32,124,32]:=hsep;subst hsep2;clear hsep;have h0l:(0:Int)<(a.atoms.length:Int):=by omega
         simp only[Nat.zero_mul,Nat.add_zero,Nat.zero_add] at g0 g1 g2;(go_wp2_with fail)
         go_region_held3 (fun w'=>(∀ i,w'.cell? ⟨w.heap.size,i,none⟩=#[.slice A1 a.facts.length c1,.slice (some ⟨b,off,none⟩) a.atoms.length c2][i]?)∧w'.cell? ⟨b,off+1,none⟩=some (.int .i64 ta)∧w'.cell? ⟨b,off+2,none⟩=some (.int .i64 tb))
          (exact ⟨qk0,g1,g2⟩)
          (first
           | (have _t:=tokA;clear _t tokA;go_at_call 276;refine (ca.o _).mono ?_;rintro e w' ⟨rfl,rfl⟩)
           | (have _t:=tokB;clear _t tokB;go_at_call 276;refine (cb.o _).mono ?_;rintro e w' ⟨rfl,rfl⟩))
         all_goals
          go_wp2_with fail
          go_round
          case rel=>exact ⟨0+1,S4,by omega,by go_num,rfl,hEnd,k0,ax hB.o.drew⟩
          case measure=>simp[intOf];omega
        ·have hki:((k:Int) == 0)=false:=by simp;omega
         have hsep2:sep=[32,42,32]:=by rw[hsep,if_neg hz0]
         subst hsep2;clear hsep hz0;(go_wp2_with fail)
         go_region_held3 (fun w'=>(∀ i,w'.cell? ⟨w.heap.size,i,none⟩=#[.slice A1 a.facts.length c1,.slice (some ⟨b,off,none⟩) a.atoms.length c2][i]?)∧w'.cell? ⟨b,off+k * 3+1,none⟩=some (.int .i64 ta)∧w'.cell? ⟨b,off+k * 3+2,none⟩=some (.int .i64 tb))
          (exact ⟨qk0,g1,g2⟩)
          (first
           | (have _t:=tokA;clear _t tokA;go_at_call 276;refine (ca.o _).mono ?_;rintro e w' ⟨rfl,rfl⟩)
           | (have _t:=tokB;clear _t tokB;go_at_call 276;refine (cb.o _).mono ?_;rintro e w' ⟨rfl,rfl⟩))
         all_goals
          go_wp2_with fail
          go_round
          case rel=>exact ⟨k+1,S4,by omega,by go_num,rfl,hEnd,k0,ax hB.o.drew⟩
          case measure=>simp[intOf];omega
       ·have hk2b:(kd == 2)=false:=by simpa using hk2
        have hsg2:sg=[62]:=by rw[hsg];unfold signX;rw[if_neg hk2]
        subst hsg2;clear hsg lsg hk2;by_cases hz0:k=0
        ·subst hz0;have hsep2:sep=[32,124,32]:=hsep;subst hsep2;clear hsep;have h0l:(0:Int)<(a.atoms.length:Int):=by omega
         simp only[Nat.zero_mul,Nat.add_zero,Nat.zero_add] at g0 g1 g2;(go_wp2_with fail)
         go_region_held3 (fun w'=>(∀ i,w'.cell? ⟨w.heap.size,i,none⟩=#[.slice A1 a.facts.length c1,.slice (some ⟨b,off,none⟩) a.atoms.length c2][i]?)∧w'.cell? ⟨b,off+1,none⟩=some (.int .i64 ta)∧w'.cell? ⟨b,off+2,none⟩=some (.int .i64 tb))
          (exact ⟨qk0,g1,g2⟩)
          (first
           | (have _t:=tokA;clear _t tokA;go_at_call 276;refine (ca.o _).mono ?_;rintro e w' ⟨rfl,rfl⟩)
           | (have _t:=tokB;clear _t tokB;go_at_call 276;refine (cb.o _).mono ?_;rintro e w' ⟨rfl,rfl⟩))
         all_goals
          go_wp2_with fail
          go_round
          case rel=>exact ⟨0+1,S4,by omega,by go_num,rfl,hEnd,k0,ax hB.o.drew⟩
          case measure=>simp[intOf];omega
        ·have hki:((k:Int) == 0)=false:=by simp;omega
         have hsep2:sep=[32,42,32]:=by rw[hsep,if_neg hz0]
         subst hsep2;clear hsep hz0;(go_wp2_with fail)
         go_region_held3 (fun w'=>(∀ i,w'.cell? ⟨w.heap.size,i,none⟩=#[.slice A1 a.facts.length c1,.slice (some ⟨b,off,none⟩) a.atoms.length c2][i]?)∧w'.cell? ⟨b,off+k * 3+1,none⟩=some (.int .i64 ta)∧w'.cell? ⟨b,off+k * 3+2,none⟩=some (.int .i64 tb))
          (exact ⟨qk0,g1,g2⟩)
          (first
           | (have _t:=tokA;clear _t tokA;go_at_call 276;refine (ca.o _).mono ?_;rintro e w' ⟨rfl,rfl⟩)
           | (have _t:=tokB;clear _t tokB;go_at_call 276;refine (cb.o _).mono ?_;rintro e w' ⟨rfl,rfl⟩))
         all_goals
          go_wp2_with fail
          go_round
          case rel=>exact ⟨k+1,S4,by omega,by go_num,rfl,hEnd,k0,ax hB.o.drew⟩
          case measure=>simp[intOf];omega
      ·obtain rfl:k=a.atoms.length:=by omega
       (go_wp2_with fail);go_ret;exact ⟨ret_str (by rw[E1.o,hX.o]),hB.o⟩
   ·have hzi:((a.facts.length:Int) == 0)=false:=by simp[hz]
    have HTX:aJ (factsT a.facts=X):=ax (by unfold factsT;rw[if_neg hz,hX.o]);clear hX hz;obtain ⟨XT,rfl⟩:∃ XT,XT=X:=⟨_,rfl⟩;have hTT:aJ (factsT a.facts=XT):=ax HTX.o;have hTl:(XT).length≤4+a.facts.length * 11:=by have h:=hlT.o;rw[hTT.o] at h;exact h
    obtain ⟨S0,e0,n0⟩:=addO (P:=Tryz.prog) XT [32,124,32,101,109,112] (by first|omega|(simp;done)|(simp;omega));have HTT2:=ax (by have h:=HTT.o;rw[hTT.o] at h;exact h);by_cases hy:a.atoms.length=0
    ·have hyi:((a.atoms.length:Int) == 0)=true:=by simp[hy]
     have E1:=ax (HTT2.o.trans (if_pos hy));clear hy hTl;(go_wp2_with fail);go_ret;exact ⟨ret_str (by rw[E1.o,e0.o]),hB.o⟩
    ·have hyi:((a.atoms.length:Int) == 0)=false:=by simp[hy]
     have E1:=ax (HTT2.o.trans (if_neg hy));clear hy n0 e0;(go_wp2_with fail)
     go_loopw [3,5,6] (fun o i s wx=>∃ (k:Nat) (X:Bs),k≤a.atoms.length∧i=.int .i64 k∧o=sv X∧aJ (X=outSX (XT) a.atoms k)∧Blk wx w.heap.size 37 #[.slice A1 a.facts.length c1,.slice A2 a.atoms.length c2]∧aJ (Below w.heap.size w wx)) (fun _ i _ _=>a.atoms.length - (intOf i).toNat)
     case atStart=>exact ⟨0,XT,Nat.zero_le _,rfl,rfl,ax rfl,k0,hB⟩
     case round=>
      clear k0 qk0 rk0 lk0 hB;obtain ⟨k,X,hk,rfl,rfl,hX,k0,hB⟩:=hrel;have qk0:=k0.cell;have rk0:=k0.frozen;have lk0:=k0.lt;by_cases hlt:k<a.atoms.length
      ·obtain ⟨b,off,rfl,hbl⟩:=H2.o.blt hlt;obtain ⟨g0,g1,g2⟩:=(H2.o.bz hB.o).cl hlt;have hXl:X.length≤(XT).length+k * 10:=by rw[hX.o];exact outX_len _ _ _
       have hS:=ax (show outSX (XT) a.atoms (k+1)=(if k=0 then outSX (XT) a.atoms k++[32,124,32] else outSX (XT) a.atoms k++[32,42,32])++tnameL (a.atoms.getD k default).a++signX (a.atoms.getD k default)++tnameL (a.atoms.getD k default).b from rfl);have hD:=ax (getD_of hlt);obtain ⟨f,hf⟩:∃ f,f=a.atoms[k]:=⟨_,rfl⟩;rw[←hf] at g0 g1 g2 hD;clear hf;obtain ⟨kd,ta,tb⟩:=f;simp only at g0 g1 g2;have la:=tnameL_len ta;have lb:=tnameL_len tb;have ca:=c_TermName ta;have cb:=c_TermName tb;obtain ⟨NA,hNA⟩:∃ N,N=tnameL ta:=⟨_,rfl⟩;obtain ⟨NB,hNB⟩:∃ N,N=tnameL tb:=⟨_,rfl⟩;rw[←hNA] at la ca;rw[←hNB] at lb cb;replace ca:=ax ca;replace cb:=ax cb;replace hNA:=ax hNA;replace hNB:=ax hNB;obtain ⟨sep,hsep⟩:∃ sep:Bs,sep=if k=0 then [32,124,32] else [32,42,32]:=⟨_,rfl⟩;have lsep:sep.length=3:=by rw[hsep];split<;>rfl
       obtain ⟨S1,e1,n1⟩:=addO (P:=Tryz.prog) X sep (by omega);have l1:S1.length=X.length+3:=by rw[e1.o,List.length_append,lsep]
       obtain ⟨S2,e2,n2⟩:=addO (P:=Tryz.prog) S1 NA (by omega);have l2:S2.length≤X.length+6:=by rw[e2.o,List.length_append];omega
       obtain ⟨sg,hsg⟩:∃ sg,sg=signX ⟨kd,ta,tb⟩:=⟨_,rfl⟩;have lsg:sg.length=1:=by rw[hsg];unfold signX;split<;>rfl
       obtain ⟨S3,e3,n3⟩:=addO (P:=Tryz.prog) S2 sg (by omega);have l3:S3.length≤X.length+7:=by rw[e3.o,List.length_append];omega
       obtain ⟨S4,e4,n4⟩:=addO (P:=Tryz.prog) S3 NB (by omega)
       have hEnd:aJ (S4=outSX (XT) a.atoms (k+1)):=ax (by
        rw[hS.o,hD.o,e4.o,e3.o,e2.o,e1.o,hX.o,hNA.o,hNB.o,hsg,hsep]
        split<;>rfl)
       clear l1 l2 l3 lsep hXl la lb;have hb1:aJ (Below w.heap.size w wr):=hB;have tokA:True:=trivial;have tokB:True:=trivial;by_cases hk2:kd=2
       ·subst hk2;have hsg2:sg=[126]:=hsg;subst hsg2;clear hsg lsg;by_cases hz0:k=0
        ·subst hz0;have hsep2:sep=[32,124,32]:=hsep;subst hsep2;clear hsep;have h0l:(0:Int)<(a.atoms.length:Int):=by omega
         simp only[Nat.zero_mul,Nat.add_zero,Nat.zero_add] at g0 g1 g2;(go_wp2_with fail)
         go_region_held3 (fun w'=>(∀ i,w'.cell? ⟨w.heap.size,i,none⟩=#[.slice A1 a.facts.length c1,.slice (some ⟨b,off,none⟩) a.atoms.length c2][i]?)∧w'.cell? ⟨b,off+1,none⟩=some (.int .i64 ta)∧w'.cell? ⟨b,off+2,none⟩=some (.int .i64 tb))
          (exact ⟨qk0,g1,g2⟩)
          (first
           | (have _t:=tokA;clear _t tokA;go_at_call 276;refine (ca.o _).mono ?_;rintro e w' ⟨rfl,rfl⟩)
           | (have _t:=tokB;clear _t tokB;go_at_call 276;refine (cb.o _).mono ?_;rintro e w' ⟨rfl,rfl⟩))
         all_goals
          go_wp2_with fail
          go_round
          case rel=>exact ⟨0+1,S4,by omega,by go_num,rfl,hEnd,k0,ax hB.o.drew⟩
          case measure=>simp[intOf];omega
        ·have hki:((k:Int) == 0)=false:=by simp;omega
         have hsep2:sep=[32,42,32]:=by rw[hsep,if_neg hz0]
         subst hsep2;clear hsep hz0;(go_wp2_with fail)
         go_region_held3 (fun w'=>(∀ i,w'.cell? ⟨w.heap.size,i,none⟩=#[.slice A1 a.facts.length c1,.slice (some ⟨b,off,none⟩) a.atoms.length c2][i]?)∧w'.cell? ⟨b,off+k * 3+1,none⟩=some (.int .i64 ta)∧w'.cell? ⟨b,off+k * 3+2,none⟩=some (.int .i64 tb))
          (exact ⟨qk0,g1,g2⟩)
          (first
           | (have _t:=tokA;clear _t tokA;go_at_call 276;refine (ca.o _).mono ?_;rintro e w' ⟨rfl,rfl⟩)
           | (have _t:=tokB;clear _t tokB;go_at_call 276;refine (cb.o _).mono ?_;rintro e w' ⟨rfl,rfl⟩))
         all_goals
          go_wp2_with fail
          go_round
          case rel=>exact ⟨k+1,S4,by omega,by go_num,rfl,hEnd,k0,ax hB.o.drew⟩
          case measure=>simp[intOf];omega
       ·have hk2b:(kd == 2)=false:=by simpa using hk2
        have hsg2:sg=[62]:=by rw[hsg];unfold signX;rw[if_neg hk2]
        subst hsg2;clear hsg lsg hk2;by_cases hz0:k=0
        ·subst hz0;have hsep2:sep=[32,124,32]:=hsep;subst hsep2;clear hsep;have h0l:(0:Int)<(a.atoms.length:Int):=by omega
         simp only[Nat.zero_mul,Nat.add_zero,Nat.zero_add] at g0 g1 g2;(go_wp2_with fail)
         go_region_held3 (fun w'=>(∀ i,w'.cell? ⟨w.heap.size,i,none⟩=#[.slice A1 a.facts.length c1,.slice (some ⟨b,off,none⟩) a.atoms.length c2][i]?)∧w'.cell? ⟨b,off+1,none⟩=some (.int .i64 ta)∧w'.cell? ⟨b,off+2,none⟩=some (.int .i64 tb))
          (exact ⟨qk0,g1,g2⟩)
          (first
           | (have _t:=tokA;clear _t tokA;go_at_call 276;refine (ca.o _).mono ?_;rintro e w' ⟨rfl,rfl⟩)
           | (have _t:=tokB;clear _t tokB;go_at_call 276;refine (cb.o _).mono ?_;rintro e w' ⟨rfl,rfl⟩))
         all_goals
          go_wp2_with fail
          go_round
          case rel=>exact ⟨0+1,S4,by omega,by go_num,rfl,hEnd,k0,ax hB.o.drew⟩
          case measure=>simp[intOf];omega
        ·have hki:((k:Int) == 0)=false:=by simp;omega
         have hsep2:sep=[32,42,32]:=by rw[hsep,if_neg hz0]
         subst hsep2;clear hsep hz0;(go_wp2_with fail)
         go_region_held3 (fun w'=>(∀ i,w'.cell? ⟨w.heap.size,i,none⟩=#[.slice A1 a.facts.length c1,.slice (some ⟨b,off,none⟩) a.atoms.length c2][i]?)∧w'.cell? ⟨b,off+k * 3+1,none⟩=some (.int .i64 ta)∧w'.cell? ⟨b,off+k * 3+2,none⟩=some (.int .i64 tb))
          (exact ⟨qk0,g1,g2⟩)
          (first
           | (have _t:=tokA;clear _t tokA;go_at_call 276;refine (ca.o _).mono ?_;rintro e w' ⟨rfl,rfl⟩)
           | (have _t:=tokB;clear _t tokB;go_at_call 276;refine (cb.o _).mono ?_;rintro e w' ⟨rfl,rfl⟩))
         all_goals
          go_wp2_with fail
          go_round
          case rel=>exact ⟨k+1,S4,by omega,by go_num,rfl,hEnd,k0,ax hB.o.drew⟩
          case measure=>simp[intOf];omega
      ·obtain rfl:k=a.atoms.length:=by omega
       (go_wp2_with fail);go_ret;exact ⟨ret_str (by rw[E1.o,hX.o]),hB.o⟩
theorem c_FormatAssertion {lo hi:Nat} (v:Value) (a:Asn) (w:World) (h:AsnV w lo hi v a):Calls Tryz.prog 192 #[v] w fun e w'=>e=.returned (sv (fmtA a))∧Below w.heap.size w w':=by
 obtain ⟨A1,c1,A2,c2,rfl,h1,h2⟩:=h;have HV:aJ (AsnV w lo hi (.agg #[.slice A1 a.facts.length c1,.slice A2 a.atoms.length c2]) a):=ax ⟨_,_,_,_,rfl,h1,h2⟩;clear h1 h2;(go_enter Tryz.func192,Tryz.ntmps192);have k0:Blk (w.alloc (.cells #[.slice A1 a.facts.length c1,.slice A2 a.atoms.length c2] 37)) w.heap.size 37 #[.slice A1 a.facts.length c1,.slice A2 a.atoms.length c2]:=blks;(go_wp2_with fail);refine (vz _ a _ (HV.o.bz bel)).mono ?_;rintro e w1 ⟨rfl,hB1⟩;have k1:=k0.nz hB1;have hB:Below w.heap.size w w1:=bgo (w:=w) bel hB1;(replace qk1:=k1.z);cases hv:a.valid
 ·(go_wp2_with fail);go_ret;exact ⟨ret_str (by unfold fmtA;rw[hv];rfl),hB⟩
 ·(go_wp2_with fail);refine (c_l3Text _ a _ (HV.o.bz hB)).mono ?_;rintro e w2 ⟨rfl,hB2⟩;(go_wp2_with fail);go_ret;exact ⟨ret_str (by unfold fmtA;rw[hv];rfl),bgo hB hB2⟩
def nextB (ws:List Bs) (k:Nat):Bool:=decide (ws[k+1]? = some [124])
theorem readA_next {ws:List Bs} {k:Nat} {fs:List Fct} {xs:List Atm} {sb:Bool} {p:List Fct×List Atm} (hk:k<ws.length) (h:stepA (fs,xs,sb) ws[k]=some p):readA (ws.drop k) (fs,xs,sb)=readA (ws.drop (k+2)) (p.1,p.2,sb || nextB ws k):=by
 rw[List.drop_eq_getElem_cons hk];rcases Nat.lt_or_ge (k+1) ws.length with h1|h1
 ·rw[List.drop_eq_getElem_cons h1,readA,h];simp[nextB,List.getElem?_eq_getElem h1]
 ·rw[List.drop_eq_nil_of_le (show ws.length≤k+1 from h1),List.drop_eq_nil_of_le (show ws.length≤k+2 by omega),readA,readA,h];rfl
theorem readA_fail {ws:List Bs} {k:Nat} {st:List Fct×List Atm×Bool} (hk:k<ws.length) (h:stepA st ws[k]=none):readA (ws.drop k) st=none:=by
 rw[List.drop_eq_getElem_cons hk];rcases Nat.lt_or_ge (k+1) ws.length with h1|h1
 ·rw[List.drop_eq_getElem_cons h1,readA,h]
 ·rw[List.drop_eq_nil_of_le (show ws.length≤k+1 from h1),readA,h];rfl
theorem readA_end {ws:List Bs} {k:Nat} {fs:List Fct} {xs:List Atm} {sb:Bool} (hk:ws.length≤k):readA (ws.drop k) (fs,xs,sb)=some ⟨fs,xs⟩:=by
 rw[List.drop_eq_nil_of_le hk,readA]
theorem stepA_f {x:Bs} {f:Fct} {fs:List Fct} {xs:List Atm} (h:parseF x=some f):stepA (fs,xs,false) x=some (fs++[f],xs):=by
 unfold stepA;simp[h]
theorem stepA_x {x:Bs} {y:Atm} {fs:List Fct} {xs:List Atm} (h:parseX x=some y):stepA (fs,xs,true) x=some (fs,xs++[y]):=by
 unfold stepA;simp[h]
theorem stepA_f0 {x:Bs} {fs:List Fct} {xs:List Atm} (h:parseF x=none):stepA (fs,xs,false) x=if x≠[116,114,117,101]∧x≠[101,109,112] then none else some (fs,xs):=by
 unfold stepA;simp[h]
theorem stepA_x0 {x:Bs} {fs:List Fct} {xs:List Atm} (h:parseX x=none):stepA (fs,xs,true) x=if x≠[116,114,117,101]∧x≠[101,109,112] then none else some (fs,xs):=by
 unfold stepA;simp[h]
theorem parseA_none1 {l:Bs} (h:readA (wordsL l) ([],[],false)=none):parseA l=none:=by
 unfold parseA;rw[h];split<;>rfl
theorem parseA_some {l:Bs} {a:Asn} (hl:l.length≤300) (h:readA (wordsL l) ([],[],false)=some a):parseA l=if fmtA a=l∧l≠[] then some a else none:=by
 unfold parseA;rw[if_neg (by omega),h]
theorem c_ParseAssertion (l:Bs) (w:World) (hl:l.length≤1049000):Calls Tryz.prog 143 #[sv l] w fun e w'=>∃ r,e=.returned (.tuple #[r,.bool (parseA l).isSome])∧AsnO w' w.heap.size r ((parseA l).getD ⟨[],[]⟩)∧Below w.heap.size w w':=by
 (go_enter Tryz.func143,Tryz.ntmps143);have k0:Blk (w.alloc (.cells #[.slice none 0 0,.slice none 0 0] 37)) w.heap.size 37 #[.slice none 0 0,.slice none 0 0]:=blks;(go_wp2_with fail);refine (c_l18Words l _ hl).mono ?_;rintro e w1 ⟨r1,rfl,o1,hB1⟩;obtain ⟨A1,d1,rfl,v1⟩:=o1.rj;replace k0:=k0.nz hB1;have z1:w.heap.size+1≤w1.heap.size:=by simpa using hB1.size
 have HW1:aJ (Below w.heap.size w w1):=ax (bgo (w:=w) bel hB1);have HP0:=ax (fun h=>parseA_none1 (l:=l) h);have HP1:=ax (fun a (h:l.length≤300)=>parseA_some (l:=l) (a:=a) h);have hwl:=wordsL_len l;obtain ⟨ws,hws⟩:∃ ws,ws=wordsL l:=⟨_,rfl⟩;rw[←hws] at v1 HP0 HP1 hwl ⊢;have HV:=ax v1;clear v1 o1 hB1 hws;(replace qk0:=k0.z);by_cases hl3':¬l.length≤300
 ·have hli:(300:Int)<(l.length:Int):=by omega
  have hN:=ax (show parseA l=none by unfold parseA;rw[if_pos (by omega)]);(go_wp2_with fail);have kz:=(((k0.set_ 0 (.slice none 0 0)).set_ 1 (.slice none 0 0)).alloc (.cells #[.slice none 0 0,.slice none 0 0] 37)).cell;refine bodyPost_ret (v:=.tuple #[.agg #[.slice none 0 0,.slice none 0 0],.bool false]) (by simp[results,Tryz.results143,go_sem,kz]) rfl ⟨_,by rw[hN.o];rfl,?_,?_⟩
  ·rw[hN.o];exact ⟨_,_,rfl,FactsO.nil _ _,AtomsO.nil _ _⟩
  ·have hb:=HW1.o;exact bel
 have hl3:l.length≤300:=by omega
 clear hl3';have hli:¬(300:Int)<(l.length:Int):=by omega
 go_wp2_with fail
 go_loopw [6,7] (fun s i wr=>∃ (k:Nat) (fs:List Fct) (xs:List Atm) (AF:Option Addr) (cF:Nat) (AA:Option Addr) (cA:Nat) (sb:Bool),s=.bool sb∧i=.int .i64 k∧k≤ws.length+1∧fs.length≤k∧xs.length≤k∧
  FactsO wr (w1.heap.size+1) (.slice AF fs.length cF) fs∧AtomsO wr (w1.heap.size+1) (.slice AA xs.length cA) xs∧aJ (readA (ws.drop k) (fs,xs,sb)=readA ws ([],[],false))∧
  Blk wr w1.heap.size 37 #[.slice AF fs.length cF,.slice AA xs.length cA]∧Blk wr w.heap.size 37 #[.slice none 0 0,.slice none 0 0]∧aJ (Below w1.heap.size w1 wr)) (fun _ i _=>ws.length+2 - (intOf i).toNat)
 case atStart=>exact ⟨0,[],[],none,0,none,0,false,rfl,rfl,by omega,Nat.le_refl _,Nat.le_refl _,FactsO.nil _ _,AtomsO.nil _ _,ax (by rw[List.drop_zero]),Blk.newE rfl,k0.alloc _,ax (bbox (Below.refl _ _) _)⟩
 case round=>
  clear k0 qk0;obtain ⟨k,fs,xs,AF,cF,AA,cA,sb,rfl,rfl,hk,hfl,hxl,hF,hX,hR,k1,k0,HB⟩:=hrel;have HF:=ax hF;have HX:=ax hX;have hz:w1.heap.size+1≤wr.heap.size:=by have:=k1.lt;omega
  clear hF hX;(replace qk0:=k0.z;replace qk1:=k1.z);by_cases hlt:k<ws.length
  ·have hki:(k:Int)<(ws.length:Int):=by omega
   obtain ⟨bw,ow,rfl,hc⟩:=(HV.o.bz HB.o).at hlt;have hbl:=block_lt_of_cell hc;have HS:=ax (fun p=>readA_next (p:=p) (fs:=fs) (xs:=xs) (sb:=sb) hlt);have HN:=ax (fun st=>readA_fail (st:=st) hlt);obtain ⟨x,hxx⟩:∃ x,x=ws[k]:=⟨_,rfl⟩;rw[←hxx] at hc HS HN;clear hxx;(go_wp2_with fail);refine (c_ParseFact x _).mono ?_;rintro e w2 ⟨rfl,hB2⟩;have HB2:=ax (bgo HB.o hB2);have HF2:=ax (HF.o.bz hB2);have HX2:=ax (HX.o.bz hB2);have hc2:=(bcell hB2).1 bw (ow+k) hbl;rw[hc] at hc2;have hbl2:=block_lt_of_cell hc2;replace k0:=k0.nz hB2;replace k1:=k1.nz hB2;have hz2:=Nat.le_trans hz hB2.size;clear hB2 HF HX hc qk0 qk1 hz hbl;(replace qk0:=k0.z;replace qk1:=k1.z);obtain ⟨fe,fa,fb,hfv⟩:∃ fe fa fb,((parseF x).getD fct0)=⟨fe,fa,fb⟩:=⟨_,_,_,rfl⟩;have hfv2:((parseF x).getD fct0).val=.agg #[.bool fe,.int .i64 fa,.int .i64 fb]:=by rw[hfv]
   rw[hfv2];obtain ⟨pf,hpf⟩:∃ pf,pf=(parseF x).isSome:=⟨_,rfl⟩;rw[←hpf];replace hfv:=ax hfv;replace hpf:=ax hpf;clear hfv2;have k2:Blk (w2.alloc (.cells #[.bool fe,.int .i64 fa,.int .i64 fb] tF)) w2.heap.size tF #[.bool fe,.int .i64 fa,.int .i64 fb]:=blks;(go_wp2_with fail);refine (c_ParseAtom x _).mono ?_;rintro e w3 ⟨⟨yk,ya,yb⟩,rfl,hyz,hB3⟩;have z3:w2.heap.size+1≤w3.heap.size:=by simpa using hB3.size
   have hB23:Below w2.heap.size w2 w3:=bgo (w:=w2) bel hB3;have HB3:=ax (bgo HB2.o hB23);have HF3:=ax (HF2.o.bz hB23);have HX3:=ax (HX2.o.bz hB23);have hc3:=(bcell hB23).1 bw (ow+k) hbl2;rw[hc2] at hc3;have hbl3:=block_lt_of_cell hc3;replace k0:=k0.nz hB23;replace k1:=k1.nz hB23;replace k2:=k2.nz hB3;have hz3:w1.heap.size+1≤w3.heap.size:=by omega
   clear hB23 hB3 HF2 HX2 hc2 qk0 qk1 HB2 hz2 hbl2;(replace qk0:=k0.z;replace qk1:=k1.z;replace qk2:=k2.z);obtain ⟨px,hpx⟩:∃ px,px=(parseX x).isSome:=⟨_,rfl⟩;rw[←hpx];replace hpx:=ax hpx;replace hyz:=ax hyz;simp only
   have hbw:bw<w1.heap.size:=by
    obtain ⟨b',o',e,-,h2,-⟩:=HV.o.raw.2 (by omega);injection e with e;injection e with e1;omega
   have hd4:aJ (∀ (h:k+1<ws.length) W,Below w1.heap.size w1 W→W.cell? ⟨bw,ow+(k+1),none⟩=some (sv ws[k+1])):=ax fun h W hW=>by
    obtain ⟨b',o',e,hd⟩:=StrsV.at (Rd.keepB HV.o hW (Nat.le_refl _)) h;injection e with e;injection e with e1 e2;subst e1 e2;exact hd
   cases sb with
   | false=>
    cases hq:parseF x with
    | some f=>
     have hpF:aJ (parseF x=some ⟨fe,fa,fb⟩):=ax (by have h:=hfv.o;rw[hq] at h ⊢;exact congrArg some h);have hpt:pf=true:=by rw[hpf.o,hq];rfl
     subst hpt;clear hq;by_cases hn1:k+1<ws.length
     ·have hni:(k:Int)+1<(ws.length:Int):=by omega
      have hdc:=ax (fun W=>hd4.o hn1 W);obtain ⟨y,hyy⟩:∃ y,y=ws[k+1]:=⟨_,rfl⟩;have hnb:nextB ws k=decide (y=[124]):=by unfold nextB;rw[List.getElem?_eq_getElem hn1,←hyy,decide_eq_decide];simp
      rw[←hyy] at hdc;clear hyy;by_cases hy:y=[124]
      ·subst hy;have hnB:aJ (nextB ws k=true):=ax (by rw[hnb];rfl);clear hnb;(go_wp2_with (at_builtin;refine appFL rfl _ _ rfl (base:=w1.heap.size+1) (xs:=fs) rfl (HF3.o.bz bel) rfl (FactsV.one (f:=⟨fe,fa,fb⟩) (Blk.newE (by simp))) (by simp;omega) (by simp;omega) ?_;intro A' c' w4 of4 hg4 hB4;have z0:=Blk.zm (g:=w.heap.size) (hg:=hg4) blks (FactsO.bz (w:=w3) HF3.o bel).1 (by decide);have z1b:=Blk.zm (g:=w1.heap.size) (hg:=hg4) blks (FactsO.bz (w:=w3) HF3.o bel).1 (by decide);have z1c:=z1b.cell;have z1f:=z1b.frozen;have ox4:=AtomsO.grownF (AtomsO.bz (w:=w3) HX3.o bel) (FactsO.bz (w:=w3) HF3.o bel) hg4;have hB34:Below (w1.heap.size+1) w3 w4:=(((Below.refl _ w3).alloc hz3 _).alloc (by simp;omega) _).trans hB4;have hl4:=z1b.lt;clear hg4 hB4;have hdy:=hdc.o w4 (HB3.o.trans (hB34.mono (Nat.le_succ _)))))
       go_round
       case rel=>exact ⟨k+2,fs++[⟨fe,fa,fb⟩],xs,A',c',AA,cA,true,rfl,by go_num,by omega,by simp;omega,by omega,(of4.setT z1b (by decide) 0 _),(ox4.setT z1b (by decide) 0 _),ax (((HS.o _ (stepA_f hpF.o)).symm.trans hR.o |> fun h=>by rw[hnB.o] at h;exact h)),(by have h:=z1b.set_ 0 (.slice A' (fs.length+1) c');simpa using h),z0.far (by simp only[];omega) _,ax ((HB3.o.trans (hB34.mono (Nat.le_succ _))).setCell (Nat.le_refl _) _)⟩
       case measure=>simp[intOf];omega
      ·have hnB:aJ (nextB ws k=false):=ax (by rw[hnb];simpa using hy);have hyb:(y == [124])=false:=by rw[bytes_eq];simpa using hy
       clear hnb hy;(go_wp2_with (at_builtin;refine appFL rfl _ _ rfl (base:=w1.heap.size+1) (xs:=fs) rfl (HF3.o.bz bel) rfl (FactsV.one (f:=⟨fe,fa,fb⟩) (Blk.newE (by simp))) (by simp;omega) (by simp;omega) ?_;intro A' c' w4 of4 hg4 hB4;have z0:=Blk.zm (g:=w.heap.size) (hg:=hg4) blks (FactsO.bz (w:=w3) HF3.o bel).1 (by decide);have z1b:=Blk.zm (g:=w1.heap.size) (hg:=hg4) blks (FactsO.bz (w:=w3) HF3.o bel).1 (by decide);have z1c:=z1b.cell;have z1f:=z1b.frozen;have ox4:=AtomsO.grownF (AtomsO.bz (w:=w3) HX3.o bel) (FactsO.bz (w:=w3) HF3.o bel) hg4;have hB34:Below (w1.heap.size+1) w3 w4:=(((Below.refl _ w3).alloc hz3 _).alloc (by simp;omega) _).trans hB4;have hl4:=z1b.lt;clear hg4 hB4;have hdy:=hdc.o w4 (HB3.o.trans (hB34.mono (Nat.le_succ _)))))
       go_round
       case rel=>exact ⟨k+2,fs++[⟨fe,fa,fb⟩],xs,A',c',AA,cA,false,rfl,by go_num,by omega,by simp;omega,by omega,(of4.setT z1b (by decide) 0 _),(ox4.setT z1b (by decide) 0 _),ax (((HS.o _ (stepA_f hpF.o)).symm.trans hR.o |> fun h=>by rw[hnB.o] at h;exact h)),(by have h:=z1b.set_ 0 (.slice A' (fs.length+1) c');simpa using h),z0.far (by simp only[];omega) _,ax ((HB3.o.trans (hB34.mono (Nat.le_succ _))).setCell (Nat.le_refl _) _)⟩
       case measure=>simp[intOf];omega
     ·have hni:¬(k:Int)+1<(ws.length:Int):=by omega
      have hnB:aJ (nextB ws k=false):=ax (by unfold nextB;rw[List.getElem?_eq_none (by omega)];rfl);(go_wp2_with (at_builtin;refine appFL rfl _ _ rfl (base:=w1.heap.size+1) (xs:=fs) rfl (HF3.o.bz bel) rfl (FactsV.one (f:=⟨fe,fa,fb⟩) (Blk.newE (by simp))) (by simp;omega) (by simp;omega) ?_;intro A' c' w4 of4 hg4 hB4;have z0:=Blk.zm (g:=w.heap.size) (hg:=hg4) blks (FactsO.bz (w:=w3) HF3.o bel).1 (by decide);have z1b:=Blk.zm (g:=w1.heap.size) (hg:=hg4) blks (FactsO.bz (w:=w3) HF3.o bel).1 (by decide);have z1c:=z1b.cell;have z1f:=z1b.frozen;have ox4:=AtomsO.grownF (AtomsO.bz (w:=w3) HX3.o bel) (FactsO.bz (w:=w3) HF3.o bel) hg4;have hB34:Below (w1.heap.size+1) w3 w4:=(((Below.refl _ w3).alloc hz3 _).alloc (by simp;omega) _).trans hB4;have hl4:=z1b.lt;clear hg4 hB4))
      go_round
      case rel=>exact ⟨k+2,fs++[⟨fe,fa,fb⟩],xs,A',c',AA,cA,false,rfl,by go_num,by omega,by simp;omega,by omega,(of4.setT z1b (by decide) 0 _),(ox4.setT z1b (by decide) 0 _),ax (((HS.o _ (stepA_f hpF.o)).symm.trans hR.o |> fun h=>by rw[hnB.o] at h;exact h)),(by have h:=z1b.set_ 0 (.slice A' (fs.length+1) c');simpa using h),z0.far (by simp only[];omega) _,ax ((HB3.o.trans (hB34.mono (Nat.le_succ _))).setCell (Nat.le_refl _) _)⟩
      case measure=>simp[intOf];omega
    | none=>
     have hpO:aJ (parseF x=none):=ax hq;have hpt:pf=false:=by rw[hpf.o,hq];rfl
     subst hpt;clear hq;by_cases hx1:x=[116,114,117,101]
     ·subst hx1;have hst:aJ (stepA (fs,xs,false) [116,114,117,101]=some (fs,xs)):=ax (by rw[stepA_f0 hpO.o];rfl);clear hpO;by_cases hn1:k+1<ws.length
      ·have hni:(k:Int)+1<(ws.length:Int):=by omega
       have hdc:=ax (fun W=>hd4.o hn1 W);obtain ⟨y,hyy⟩:∃ y,y=ws[k+1]:=⟨_,rfl⟩;have hnb:nextB ws k=decide (y=[124]):=by unfold nextB;rw[List.getElem?_eq_getElem hn1,←hyy,decide_eq_decide];simp
       rw[←hyy] at hdc;clear hyy;by_cases hy:y=[124]
       ·subst hy;have hnB:aJ (nextB ws k=true):=ax (by rw[hnb];rfl);clear hnb;have hdy:=hdc.o w3 HB3.o;(go_wp2_with fail)
        go_round
        case rel=>exact ⟨k+2,fs,xs,AF,cF,AA,cA,true,rfl,by go_num,by omega,by omega,by omega,HF3.o.bz bel,HX3.o.bz bel,ax (((HS.o _ hst.o).symm.trans hR.o |> fun h=>by rw[hnB.o] at h;exact h)),k1.alloc _,k0.alloc _,ax (HB3.o.alloc (by omega) _)⟩
        case measure=>simp[intOf];omega
       ·have hnB:aJ (nextB ws k=false):=ax (by rw[hnb];simpa using hy);have hyb:(y == [124])=false:=by rw[bytes_eq];simpa using hy
        clear hnb hy;have hdy:=hdc.o w3 HB3.o;(go_wp2_with fail)
        go_round
        case rel=>exact ⟨k+2,fs,xs,AF,cF,AA,cA,false,rfl,by go_num,by omega,by omega,by omega,HF3.o.bz bel,HX3.o.bz bel,ax (((HS.o _ hst.o).symm.trans hR.o |> fun h=>by rw[hnB.o] at h;exact h)),k1.alloc _,k0.alloc _,ax (HB3.o.alloc (by omega) _)⟩
        case measure=>simp[intOf];omega
      ·have hni:¬(k:Int)+1<(ws.length:Int):=by omega
       have hnB:aJ (nextB ws k=false):=ax (by unfold nextB;rw[List.getElem?_eq_none (by omega)];rfl);(go_wp2_with fail)
       go_round
       case rel=>exact ⟨k+2,fs,xs,AF,cF,AA,cA,false,rfl,by go_num,by omega,by omega,by omega,HF3.o.bz bel,HX3.o.bz bel,ax (((HS.o _ hst.o).symm.trans hR.o |> fun h=>by rw[hnB.o] at h;exact h)),k1.alloc _,k0.alloc _,ax (HB3.o.alloc (by omega) _)⟩
       case measure=>simp[intOf];omega
     ·have hx1b:(x == [116,114,117,101])=false:=by rw[bytes_eq];simpa using hx1
      by_cases hx2:x=[101,109,112]
      ·subst hx2;have hst:aJ (stepA (fs,xs,false) [101,109,112]=some (fs,xs)):=ax (by rw[stepA_f0 hpO.o];rfl);clear hpO hx1 hx1b;by_cases hn1:k+1<ws.length
       ·have hni:(k:Int)+1<(ws.length:Int):=by omega
        have hdc:=ax (fun W=>hd4.o hn1 W);obtain ⟨y,hyy⟩:∃ y,y=ws[k+1]:=⟨_,rfl⟩;have hnb:nextB ws k=decide (y=[124]):=by unfold nextB;rw[List.getElem?_eq_getElem hn1,←hyy,decide_eq_decide];simp
        rw[←hyy] at hdc;clear hyy;by_cases hy:y=[124]
        ·subst hy;have hnB:aJ (nextB ws k=true):=ax (by rw[hnb];rfl);clear hnb;have hdy:=hdc.o w3 HB3.o;(go_wp2_with fail)
         go_round
         case rel=>exact ⟨k+2,fs,xs,AF,cF,AA,cA,true,rfl,by go_num,by omega,by omega,by omega,HF3.o.bz bel,HX3.o.bz bel,ax (((HS.o _ hst.o).symm.trans hR.o |> fun h=>by rw[hnB.o] at h;exact h)),k1.alloc _,k0.alloc _,ax (HB3.o.alloc (by omega) _)⟩
         case measure=>simp[intOf];omega
        ·have hnB:aJ (nextB ws k=false):=ax (by rw[hnb];simpa using hy);have hyb:(y == [124])=false:=by rw[bytes_eq];simpa using hy
         clear hnb hy;have hdy:=hdc.o w3 HB3.o;(go_wp2_with fail)
         go_round
         case rel=>exact ⟨k+2,fs,xs,AF,cF,AA,cA,false,rfl,by go_num,by omega,by omega,by omega,HF3.o.bz bel,HX3.o.bz bel,ax (((HS.o _ hst.o).symm.trans hR.o |> fun h=>by rw[hnB.o] at h;exact h)),k1.alloc _,k0.alloc _,ax (HB3.o.alloc (by omega) _)⟩
         case measure=>simp[intOf];omega
       ·have hni:¬(k:Int)+1<(ws.length:Int):=by omega
        have hnB:aJ (nextB ws k=false):=ax (by unfold nextB;rw[List.getElem?_eq_none (by omega)];rfl);(go_wp2_with fail)
        go_round
        case rel=>exact ⟨k+2,fs,xs,AF,cF,AA,cA,false,rfl,by go_num,by omega,by omega,by omega,HF3.o.bz bel,HX3.o.bz bel,ax (((HS.o _ hst.o).symm.trans hR.o |> fun h=>by rw[hnB.o] at h;exact h)),k1.alloc _,k0.alloc _,ax (HB3.o.alloc (by omega) _)⟩
        case measure=>simp[intOf];omega
      ·have hx2b:(x == [101,109,112])=false:=by rw[bytes_eq];simpa using hx2
       have hst:aJ (stepA (fs,xs,false) x=none):=ax (by rw[stepA_f0 hpO.o,if_pos ⟨hx1,hx2⟩]);clear hpO hx1 hx2;have hNo:aJ (parseA l=none):=ax (HP0.o (hR.o.symm.trans (HN.o _ hst.o)));(go_wp2_with fail);have kz:=(((k0.set_ 0 (.slice none 0 0)).set_ 1 (.slice none 0 0)).alloc (.cells #[.int .i64 yk,.int .i64 ya,.int .i64 yb] tA)).cell;refine bodyPost_ret (v:=.tuple #[.agg #[.slice none 0 0,.slice none 0 0],.bool false]) (by simp[results,Tryz.results143,go_sem,kz]) rfl ⟨_,by rw[hNo.o];rfl,?_,?_⟩
       ·rw[hNo.o];exact ⟨_,_,rfl,FactsO.nil _ _,AtomsO.nil _ _⟩
       ·have hb:=HW1.o.trans (HB3.o.mono (by omega:w.heap.size≤w1.heap.size));exact bel
   | true=>
    cases hq:parseX x with
    | some f=>
     have hpX:aJ (parseX x=some ⟨yk,ya,yb⟩):=ax (by rw[hq];exact congrArg some (hyz.o f hq).symm);have hpt:px=true:=by rw[hpx.o,hq];rfl
     subst hpt;clear hq;(go_wp2_with (at_builtin;refine appAL rfl _ _ rfl (base:=w1.heap.size+1) (xs:=xs) rfl (HX3.o.bz bel) rfl (AtomsV.one (f:=⟨yk,ya,yb⟩) (Blk.newE (by simp))) (by simp;omega) (by simp;omega) ?_;intro A' c' w4 of4 hg4 hB4;have z0:=Blk.zm (g:=w.heap.size) (hg:=hg4) blks (AtomsO.bz (w:=w3) HX3.o bel).1 (by decide);have z1b:=Blk.zm (g:=w1.heap.size) (hg:=hg4) blks (AtomsO.bz (w:=w3) HX3.o bel).1 (by decide);have z1c:=z1b.cell;have z1f:=z1b.frozen;have ox4:=FactsO.grownA (FactsO.bz (w:=w3) HF3.o bel) (AtomsO.bz (w:=w3) HX3.o bel) hg4;have hB34:Below (w1.heap.size+1) w3 w4:=(((Below.refl _ w3).alloc hz3 _).alloc (by simp;omega) _).trans hB4;have hl4:=z1b.lt;clear hg4 hB4))
     go_round
     case rel=>exact ⟨k+2,fs,xs++[⟨yk,ya,yb⟩],AF,cF,A',c',true,rfl,by go_num,by omega,by omega,by simp;omega,(ox4.setT z1b (by decide) 1 _),(of4.setT z1b (by decide) 1 _),ax ((HS.o _ (stepA_x hpX.o)).symm.trans hR.o),(by have h:=z1b.set_ 1 (.slice A' (xs.length+1) c');simpa using h),z0.far (by simp only[];omega) _,ax ((HB3.o.trans (hB34.mono (Nat.le_succ _))).setCell (Nat.le_refl _) _)⟩
     case measure=>simp[intOf];omega
    | none=>
     have hpO:aJ (parseX x=none):=ax hq;have hpt:px=false:=by rw[hpx.o,hq];rfl
     subst hpt;clear hq;by_cases hx1:x=[116,114,117,101]
     ·subst hx1;have hst:aJ (stepA (fs,xs,true) [116,114,117,101]=some (fs,xs)):=ax (by rw[stepA_x0 hpO.o];rfl);clear hpO;(go_wp2_with fail)
      go_round
      case rel=>exact ⟨k+2,fs,xs,AF,cF,AA,cA,true,rfl,by go_num,by omega,by omega,by omega,HF3.o.bz bel,HX3.o.bz bel,ax ((HS.o _ hst.o).symm.trans hR.o),k1.alloc _,k0.alloc _,ax (HB3.o.alloc (by omega) _)⟩
      case measure=>simp[intOf];omega
     ·have hx1b:(x == [116,114,117,101])=false:=by rw[bytes_eq];simpa using hx1
      by_cases hx2:x=[101,109,112]
      ·subst hx2;have hst:aJ (stepA (fs,xs,true) [101,109,112]=some (fs,xs)):=ax (by rw[stepA_x0 hpO.o];rfl);clear hpO hx1 hx1b;(go_wp2_with fail)
       go_round
       case rel=>exact ⟨k+2,fs,xs,AF,cF,AA,cA,true,rfl,by go_num,by omega,by omega,by omega,HF3.o.bz bel,HX3.o.bz bel,ax ((HS.o _ hst.o).symm.trans hR.o),k1.alloc _,k0.alloc _,ax (HB3.o.alloc (by omega) _)⟩
       case measure=>simp[intOf];omega
      ·have hx2b:(x == [101,109,112])=false:=by rw[bytes_eq];simpa using hx2
       have hst:aJ (stepA (fs,xs,true) x=none):=ax (by rw[stepA_x0 hpO.o,if_pos ⟨hx1,hx2⟩]);clear hpO hx1 hx2;have hNo:aJ (parseA l=none):=ax (HP0.o (hR.o.symm.trans (HN.o _ hst.o)));(go_wp2_with fail);have kz:=(((k0.set_ 0 (.slice none 0 0)).set_ 1 (.slice none 0 0)).alloc (.cells #[.int .i64 yk,.int .i64 ya,.int .i64 yb] tA)).cell;refine bodyPost_ret (v:=.tuple #[.agg #[.slice none 0 0,.slice none 0 0],.bool false]) (by simp[results,Tryz.results143,go_sem,kz]) rfl ⟨_,by rw[hNo.o];rfl,?_,?_⟩
       ·rw[hNo.o];exact ⟨_,_,rfl,FactsO.nil _ _,AtomsO.nil _ _⟩
       ·have hb:=HW1.o.trans (HB3.o.mono (by omega:w.heap.size≤w1.heap.size));exact bel
  ·have hki:¬(k:Int)<(ws.length:Int):=by omega
   have hE:=ax (HP1.o ⟨fs,xs⟩ hl3 (hR.o.symm.trans (readA_end (by omega))));have HA:aJ (AsnO wr (w1.heap.size+1) (.agg #[.slice AF fs.length cF,.slice AA xs.length cA]) ⟨fs,xs⟩):=ax ⟨_,_,rfl,HF.o,HX.o⟩;(go_wp2_with fail);refine (c_FormatAssertion _ ⟨fs,xs⟩ _ HA.o.rj).mono ?_;rintro e w5 ⟨rfl,hB5⟩;have HB5:=ax (bgo HB.o hB5);replace k0:=k0.nz hB5;replace k1:=k1.nz hB5;have HA5:=ax (HA.o.bz hB5);clear hB5 HA qk0 qk1;(replace qk0:=k0.z;replace qk1:=k1.z);obtain ⟨T,hT⟩:∃ T,T=fmtA ⟨fs,xs⟩:=⟨_,rfl⟩;rw[←hT] at hE ⊢;clear hT;by_cases ht:T=l
   ·subst ht;by_cases he:T=[]
    ·subst he;have hNo:aJ (parseA []=none):=ax (by rw[hE.o];rfl);clear hE;(go_wp2_with fail);have kz:=((k0.set_ 0 (.slice none 0 0)).set_ 1 (.slice none 0 0)).cell;refine bodyPost_ret (v:=.tuple #[.agg #[.slice none 0 0,.slice none 0 0],.bool false]) (by simp[results,Tryz.results143,go_sem,kz]) rfl ⟨_,by rw[hNo.o];rfl,?_,?_⟩
     ·rw[hNo.o];exact ⟨_,_,rfl,FactsO.nil _ _,AtomsO.nil _ _⟩
     ·have hb:=HW1.o.trans (HB5.o.mono (by omega:w.heap.size≤w1.heap.size));exact bel
    ·have heb:(T == [])=false:=by rw[bytes_eq];simpa using he
     have hYes:aJ (parseA T=some ⟨fs,xs⟩):=ax (by rw[hE.o,if_pos ⟨rfl,he⟩]);clear hE he;(go_wp2_with fail);have kz:=((k0.set_ 0 (.slice AF fs.length cF)).set_ 1 (.slice AA xs.length cA)).cell;refine bodyPost_ret (v:=.tuple #[.agg #[.slice AF fs.length cF,.slice AA xs.length cA],.bool true]) (by simp[results,Tryz.results143,go_sem,kz]) rfl ⟨_,by rw[hYes.o];rfl,?_,?_⟩
     ·rw[hYes.o];obtain ⟨fv,av,e,h1,h2⟩:=HA5.o;injection e with e;injection e with e;injection e with e1 e2;injection e2 with e2;subst e1 e2;exact ⟨_,_,rfl,((h1.setT k0 (by decide) 0 _).setT (k0.set_ _ _) (by decide) 1 _).bq (by omega),((h2.setT k0 (by decide) 0 _).setT (k0.set_ _ _) (by decide) 1 _).bq (by omega)⟩
     ·have hb:=HW1.o.trans (HB5.o.mono (by omega:w.heap.size≤w1.heap.size));exact bel
   ·have htb:(T == l)=false:=by rw[bytes_eq];simpa using ht
    have hNo:aJ (parseA l=none):=ax (by rw[hE.o,if_neg (fun h=>ht h.1)]);clear hE ht;(go_wp2_with fail);have kz:=((k0.set_ 0 (.slice none 0 0)).set_ 1 (.slice none 0 0)).cell;refine bodyPost_ret (v:=.tuple #[.agg #[.slice none 0 0,.slice none 0 0],.bool false]) (by simp[results,Tryz.results143,go_sem,kz]) rfl ⟨_,by rw[hNo.o];rfl,?_,?_⟩
    ·rw[hNo.o];exact ⟨_,_,rfl,FactsO.nil _ _,AtomsO.nil _ _⟩
    ·have hb:=HW1.o.trans (HB5.o.mono (by omega:w.heap.size≤w1.heap.size));exact bel
end
section
open Go Go.RowKit Go.Proofs
attribute [local go_sem ↓] Go.wp_at_zero Go.wp_at_succ
def strOfB:Value→Bs
 | .string s=>s.data.toList
 | _=>[]
theorem c_ofB {lo hi:Nat} (g p:Nat) (A:Option Addr) (c:Nat) (xs:List Bs) (w:World) (h:Rdr w g p) (hp:p≤1000000) (hx:StrsV w lo hi A xs) (hg:g<lo∨hi≤g) (hn:0<xs.length) :
  Calls Tryz.prog 175 #[.pointer (some ⟨g,0,none⟩),.slice A xs.length c] w fun e w'=>∃ m∈xs,e=.returned (sv m)∧Rdr w' g (p+1)∧Fr g w w':=by
 have H:=ax h;have HX:=ax hx;clear h hx;(go_enter Tryz.func175,Tryz.ntmps175);(go_wp2_with fail);refine (c_pick g p _ _ H.o hp).mono ?_;rintro e w1 ⟨m,rfl,hm,hR,hF⟩;have hlt:m<xs.length:=by omega
 obtain ⟨b,o,rfl,c0⟩:=StrsV.at (Rd.fr HX.o hF hg) hlt;have hmi:(m:Int)<(xs.length:Int):=by omega
 have HRF:=ax (And.intro hR hF);have hmem:=ax (List.getElem_mem hlt);obtain ⟨x,hxx⟩:∃ x,x=xs[m]:=⟨_,rfl⟩;rw[←hxx] at c0 hmem;clear hm hR hF hxx;(go_wp2_with fail);go_ret;exact ⟨x,hmem.o,rfl,HRF.o.1,HRF.o.2⟩
theorem c_ofLB (g p:Nat) (cs:Array Value) (x n:Nat) (w:World) (h:Rdr w g p) (hp:p≤1000000) (hk:Blk w x tS cs) (hcs:cs=(encS (cs.toList.map strOfB)).toArray) (hg:g<x) (hn:n=cs.size) (h0:0<cs.size) (hl:∀ u∈cs.toList.map strOfB,1≤u.length∧u.length≤4000) (hl1:cs.size≤100) :
  Calls Tryz.prog 175 #[.pointer (some ⟨g,0,none⟩),.slice (some ⟨x,0,none⟩) n n] w fun e w'=>∃ m:Bs,(1≤m.length∧m.length≤4000)∧e=.returned (sv m)∧Rdr w' g (p+1)∧Fr g w w':=by
 have e:n=(cs.toList.map strOfB).length:=by rw[hn];simp
 rw[e];refine (c_ofB (lo:=x) (hi:=x+1) g p _ _ (cs.toList.map strOfB) w h hp ⟨⟨by simp[encS],fun _=>⟨x,0,rfl,Nat.le_refl _,Nat.lt_succ_self _,fun j u hu=>?_⟩⟩,by unfold Lim;simp;omega⟩ (Or.inl hg) (by simpa using h0)).mono ?_
 ·rw[Nat.zero_add,hk.cell,hcs];simpa using hu
 ·rintro e w' ⟨m,hm,rfl,h1,h2⟩;exact ⟨m,hl m hm,rfl,h1,h2⟩
theorem c_l10Pre (g p:Nat) (w:World) (h:Rdr w g p) (hp:p≤900000) :
  Calls Tryz.prog 118 #[.pointer (some ⟨g,0,none⟩)] w fun e w'=>∃ r a q,e=.returned r∧AsnO w' w.heap.size r a∧(a.facts.length≤12∧a.atoms.length≤6)∧Rdr w' g q∧q≤p+40∧Fr g w w':=by
 have H:=ax h;have hlt:=h.lt;clear h;(go_enter Tryz.func118,Tryz.ntmps118);have k0:Blk (w.alloc (.cells #[.slice none 0 0,.slice none 0 0] 37)) w.heap.size 37 #[.slice none 0 0,.slice none 0 0]:=blks;have H0:=ax (H.o.bz (w':=w.alloc (.cells #[.slice none 0 0,.slice none 0 0] 37)) bel);have F0:aJ (Fr g w (w.alloc (.cells #[.slice none 0 0,.slice none 0 0] 37))):=ax ((Fr.refl g w).alloc _);have hs0:(w.alloc (.cells #[.slice none 0 0,.slice none 0 0] 37)).heap.size=w.heap.size+1:=by simp
 clear H;(go_wp2_with fail);generalize w.alloc (.cells #[.slice none 0 0,.slice none 0 0] 37)=W at k0 H0 F0 hs0 ⊢;refine (c_ofLB g p _ _ _ _ (H0.o.bz (bbox (Below.refl _ _) _)) (by omega) (Blk.newE (by omega)) (by rfl) (by omega) (by rfl) (by decide) (by decide) (by decide)).mono ?_;rintro e w1 ⟨l,hl,rfl,hR,hF⟩;have hFw:Fr g W w1:=((Fr.refl g W).alloc _).trans hF;replace k0:=k0.fr hFw (by omega);have hF1:aJ (Fr g w w1):=ax (F0.o.trans hFw);have HR1:=ax hR;have z1:=hF1.o.size;have hg1:g<w1.heap.size:=by omega
 clear hR hF H0 F0 hFw;obtain ⟨hl1,hl2⟩:=hl;have cP:=ax (fun W=>c_ParseAssertion l W (by omega))
 have hok:=ax (fun (h:(parseA l).isSome=true)=>(show ((parseA l).getD ⟨[],[]⟩).facts.length≤12∧((parseA l).getD ⟨[],[]⟩).atoms.length≤6 from by
  cases e:parseA l with
  | none=>rw[e] at h;cases h
  | some a=>exact zjC (parseA_valid e).1))
 obtain ⟨ok,hk⟩:∃ ok,ok=(parseA l).isSome:=⟨_,rfl⟩;obtain ⟨a,ha⟩:∃ a,a=(parseA l).getD ⟨[],[]⟩:=⟨_,rfl⟩;rw[←hk,←ha] at cP hok;clear hk ha hl1 hl2;have hl0:=k0.lt;(go_wp2_with fail);refine (cP.o _).mono ?_;rintro e w2 ⟨v,rfl,N2,hB2⟩;obtain ⟨fv,av,rfl,n1,n2⟩:=N2;obtain ⟨F,e1,rfl,-⟩:=n1.rj;obtain ⟨G,e2,rfl,-⟩:=n2.rj;have hbx:=bbox hB2 (.cells #[.slice F a.facts.length e1,.slice G a.atoms.length e2] 37);have N1:=ax ((n1.bz (bbox (Below.refl _ _) (.cells #[.slice F a.facts.length e1,.slice G a.atoms.length e2] 37))).bq (base':=w.heap.size) z1);have N2:=ax ((n2.bz (bbox (Below.refl _ _) (.cells #[.slice F a.facts.length e1,.slice G a.atoms.length e2] 37))).bq (base':=w.heap.size) z1);have HF2:aJ (Fr g w (w2.alloc (.cells #[.slice F a.facts.length e1,.slice G a.atoms.length e2] 37))):=ax (hF1.o.trans (Fr.ofBelow hbx));have HR2:=ax (HR1.o.bz hbx);have kx:Blk (w2.alloc (.cells #[.slice F a.facts.length e1,.slice G a.atoms.length e2] 37)) w2.heap.size 37 #[.slice F a.facts.length e1,.slice G a.atoms.length e2]:=Blk.new _ _ _;replace k0:=k0.nz hbx;have hz2:=hB2.size;have hs2:(w2.alloc (.cells #[.slice F a.facts.length e1,.slice G a.atoms.length e2] 37)).heap.size=w2.heap.size+1:=by simp
 clear n1 n2 hB2 hF1 HR1 cP hbx;cases ok
 ·(go_wp2_with fail);generalize (w2.alloc (.cells #[.slice F a.facts.length e1,.slice G a.atoms.length e2] 37))=W2 at k0 kx N1 N2 HF2 HR2 hs2 ⊢;refine (c_l6Chains g _ _ HR2.o (by omega)).mono ?_;rintro e w3 ⟨r3,a3,q3,rfl,o3,hv3,hf3,hx3,hR,hq,hF⟩;replace k0:=k0.fr hF (by omega);have HF3:=ax (HF2.o.trans hF);have HR3:=ax hR;have HO3:=ax (o3.bq (base':=w.heap.size) (by omega));obtain ⟨fv,av,rfl,m1,m2⟩:=HO3.o;obtain ⟨F3,e3,rfl,-⟩:=m1.rj;obtain ⟨G3,e4,rfl,-⟩:=m2.rj;have M1:=ax m1;have M2:=ax m2;clear hR hF o3 HO3 m1 m2;(replace qk0:=k0.cell;replace rk0:=k0.frozen;replace lk0:=k0.lt);(go_wp2_with fail);refine bodyPost_ret (v:=.agg #[.slice F3 a3.facts.length e3,.slice G3 a3.atoms.length e4]) (by simp[results,Tryz.results118,go_sem,qk0,lk0]) rfl ⟨_,a3,q3,rfl,⟨_,_,rfl,?_,?_⟩,by omega,?_,by omega,?_⟩
  ·exact (M1.o.setT k0 (by decide) 0 _).setT (k0.set_ 0 _) (by decide) 1 _
  ·exact (M2.o.setT k0 (by decide) 0 _).setT (k0.set_ 0 _) (by decide) 1 _
  ·exact (HR3.o.set_ (q:=⟨w.heap.size,0,none⟩) (by simp only;omega) _).set_ (q:=⟨w.heap.size,1,none⟩) (by simp only;omega) _
  ·exact (HF3.o.set_ (p:=⟨w.heap.size,0,none⟩) (Or.inr (Nat.le_refl _)) _).set_ (p:=⟨w.heap.size,1,none⟩) (Or.inr (Nat.le_refl _)) _
 ·have HOK:=ax (hok.o rfl);have lkx:=kx.lt;(go_wp2_with fail);generalize (w2.alloc (.cells #[.slice F a.facts.length e1,.slice G a.atoms.length e2] 37))=W1 at k0 kx N1 N2 HF2 HR2 hs2 lkx ⊢;refine (c_pick g _ 4 _ HR2.o (by omega)).mono ?_;rintro e w4 ⟨m,rfl,-,hR,hF⟩;replace k0:=k0.fr hF (by omega);replace kx:=kx.fr hF (by omega);have hzF:=hF.size;have hgW:g<W1.heap.size:=HR2.o.lt;have P1:=ax (N1.o.fr hF (by omega));have P2:=ax (N2.o.fr hF (by omega));replace HF2:=ax (HF2.o.trans hF);replace HR2:=ax hR;clear hR hF N1 N2;by_cases hm:(0:Int)<(m:Int)
  ·(replace qk0:=k0.cell;replace rk0:=k0.frozen;replace lk0:=k0.lt;replace qkx:=kx.cell;replace rkx:=kx.frozen;replace lkx:=kx.lt);(go_wp2_with fail);refine bodyPost_ret (v:=.agg #[.slice F a.facts.length e1,.slice G a.atoms.length e2]) (by simp[results,Tryz.results118,go_sem,qk0,lk0]) rfl ⟨_,a,p+1+1,rfl,⟨_,_,rfl,?_,?_⟩,HOK.o,?_,by omega,?_⟩
   ·exact (P1.o.setT k0 (by decide) 0 _).setT (k0.set_ 0 _) (by decide) 1 _
   ·exact (P2.o.setT k0 (by decide) 0 _).setT (k0.set_ 0 _) (by decide) 1 _
   ·exact (HR2.o.set_ (q:=⟨w.heap.size,0,none⟩) (by simp only;omega) _).set_ (q:=⟨w.heap.size,1,none⟩) (by simp only;omega) _
   ·exact (HF2.o.set_ (p:=⟨w.heap.size,0,none⟩) (Or.inr (Nat.le_refl _)) _).set_ (p:=⟨w.heap.size,1,none⟩) (Or.inr (Nat.le_refl _)) _
  ·(go_wp2_with fail);refine (c_l6Chains g _ _ HR2.o (by omega)).mono ?_;rintro e w3 ⟨r3,a3,q3,rfl,o3,hv3,hf3,hx3,hR,hq,hF⟩;replace k0:=k0.fr hF (by omega);have HF3:=ax (HF2.o.trans hF);have HR3:=ax hR;have HO3:=ax (o3.bq (base':=w.heap.size) (by omega));obtain ⟨fv,av,rfl,m1,m2⟩:=HO3.o;obtain ⟨F3,e3,rfl,-⟩:=m1.rj;obtain ⟨G3,e4,rfl,-⟩:=m2.rj;have M1:=ax m1;have M2:=ax m2;clear hR hF o3 HO3 m1 m2;(replace qk0:=k0.cell;replace rk0:=k0.frozen;replace lk0:=k0.lt);(go_wp2_with fail);refine bodyPost_ret (v:=.agg #[.slice F3 a3.facts.length e3,.slice G3 a3.atoms.length e4]) (by simp[results,Tryz.results118,go_sem,qk0,lk0]) rfl ⟨_,a3,q3,rfl,⟨_,_,rfl,?_,?_⟩,by omega,?_,by omega,?_⟩
   ·exact (M1.o.setT k0 (by decide) 0 _).setT (k0.set_ 0 _) (by decide) 1 _
   ·exact (M2.o.setT k0 (by decide) 0 _).setT (k0.set_ 0 _) (by decide) 1 _
   ·exact (HR3.o.set_ (q:=⟨w.heap.size,0,none⟩) (by simp only;omega) _).set_ (q:=⟨w.heap.size,1,none⟩) (by simp only;omega) _
   ·exact (HF3.o.set_ (p:=⟨w.heap.size,0,none⟩) (Or.inr (Nat.le_refl _)) _).set_ (p:=⟨w.heap.size,1,none⟩) (Or.inr (Nat.le_refl _)) _
end
section
open Go Go.RowKit
inductive Cms where
 | nil:Cms
 | cons (kind a b:Int) (test:Fct) (inv:Asn) (body els rest:Cms):Cms
deriving DecidableEq,Inhabited
def Cms.len:Cms→Nat
 | .nil=>0
 | .cons _ _ _ _ _ _ _ r=>r.len+1
def Cms.cost:Cms→Nat
 | .nil=>0
 | .cons _ _ _ _ i body els r=>i.facts.length+i.atoms.length+(body.len+body.cost)+(els.len+els.cost)+r.cost
def Cms.small (n:Nat):Cms→Prop
 | .nil=>True
 | .cons _ _ _ _ i body els r=>i.facts.length≤n∧i.atoms.length≤n∧body.len≤n∧els.len≤n∧body.small n∧els.small n∧r.small n
theorem Cms.cost_small {n:Nat}:∀ {L:Cms},L.cost≤n→L.small n
 | .nil,_=>trivial
 | .cons k a b t i body els r,h=>by
  simp only[Cms.cost] at h;exact ⟨by omega,by omega,by omega,by omega,Cms.cost_small (by omega),Cms.cost_small (by omega),Cms.cost_small (by omega)⟩
def Cms.drop:Nat→Cms→Cms
 | 0,L=>L
 | _+1,.nil=>.nil
 | n+1,.cons _ _ _ _ _ _ _ r=>r.drop n
theorem Cms.drop_len:∀ (n:Nat) (L:Cms),(L.drop n).len=L.len - n
 | 0,L=>rfl
 | n+1,.nil=>by simp[Cms.drop,Cms.len]
 | n+1,.cons _ _ _ _ _ _ _ r=>by simp only[Cms.drop,Cms.len];rw[Cms.drop_len n r];omega
theorem Cms.drop_all:∀ (L:Cms),L.drop L.len=.nil
 | .nil=>rfl
 | .cons k a b t i body els r=>by simp only[Cms.len,Cms.drop];exact Cms.drop_all r
theorem Cms.drop_succ:∀ (n:Nat) (L:Cms) {k a b:Int} {t:Fct} {i:Asn} {body els r:Cms},L.drop n=.cons k a b t i body els r→L.drop (n+1)=r
 | 0,.cons _ _ _ _ _ _ _ r,_,_,_,_,_,_,_,_,h=>by simp only[Cms.drop] at h ⊢;injection h
 | 0,.nil,_,_,_,_,_,_,_,_,h=>by cases h
 | n+1,.nil,_,_,_,_,_,_,_,_,h=>by cases h
 | n+1,.cons _ _ _ _ _ _ _ r,_,_,_,_,_,_,_,_,h=>Cms.drop_succ n r h
theorem Cms.cons_of_len:∀ {L:Cms},0<L.len→∃ k a b t i body els r,L=.cons k a b t i body els r
 | .nil,h=>by simp[Cms.len] at h
 | .cons k a b t i body els r,_=>⟨k,a,b,t,i,body,els,r,rfl⟩
def CmsAt (w:World) (lo hi:Nat):Cms→Nat→Nat→Prop
 | .nil,_,_=>True
 | .cons k a b t i body els r,bl,o=>
  (w.cell? ⟨bl,o,none⟩=some (.int .i64 k)∧w.cell? ⟨bl,o+1,none⟩=some (.int .i64 a)∧w.cell? ⟨bl,o+2,none⟩=some (.int .i64 b)∧
   w.cell? ⟨bl,o+3,none⟩=some (.bool t.eq)∧w.cell? ⟨bl,o+4,none⟩=some (.int .i64 t.a)∧w.cell? ⟨bl,o+5,none⟩=some (.int .i64 t.b))∧
  (∃ A c,w.cell? ⟨bl,o+6,none⟩=some (.slice A i.facts.length c)∧Rw w lo hi 3 A i.facts.length (encF i.facts))∧
  (∃ A c,w.cell? ⟨bl,o+7,none⟩=some (.slice A i.atoms.length c)∧Rw w lo hi 3 A i.atoms.length (encA i.atoms))∧
  (∃ A c,w.cell? ⟨bl,o+8,none⟩=some (.slice A body.len c)∧(0<body.len→∃ b' o',A=some ⟨b',o',none⟩∧lo≤b'∧b'<hi∧CmsAt w lo hi body b' o'))∧
  (∃ A c,w.cell? ⟨bl,o+9,none⟩=some (.slice A els.len c)∧(0<els.len→∃ b' o',A=some ⟨b',o',none⟩∧lo≤b'∧b'<hi∧CmsAt w lo hi els b' o'))∧
  CmsAt w lo hi r bl (o+10)
def CmsV (w:World) (lo hi:Nat) (A:Option Addr) (L:Cms):Prop:=0<L.len→∃ b o,A=some ⟨b,o,none⟩∧lo≤b∧b<hi∧CmsAt w lo hi L b o
section
variable {w w':World} {lo hi lo' hi':Nat}
theorem CmsAt.bz (hb:Below w.heap.size w w'):∀ {L:Cms} {bl o:Nat},CmsAt w lo hi L bl o→CmsAt w' lo hi L bl o
 | .nil,_,_,_=>trivial
 | .cons k a b t i body els r,bl,o,h=>by
  obtain ⟨⟨h0,h1,h2,h3,h4,h5⟩,⟨A6,c6,h6,g6⟩,⟨A7,c7,h7,g7⟩,⟨A8,c8,h8,g8⟩,⟨A9,c9,h9,g9⟩,hr⟩:=h;have hlt:bl<w.heap.size:=block_lt_of_cell h0;have hc:∀ j,w'.cell? ⟨bl,j,none⟩=w.cell? ⟨bl,j,none⟩:=fun j=>hb.cell (p:=⟨bl,j,none⟩) hlt;refine ⟨⟨(hc _).trans h0,(hc _).trans h1,(hc _).trans h2,(hc _).trans h3,(hc _).trans h4,(hc _).trans h5⟩,⟨A6,c6,(hc _).trans h6,g6.bz hb⟩,⟨A7,c7,(hc _).trans h7,g7.bz hb⟩,⟨A8,c8,(hc _).trans h8,fun hl=>?_⟩,⟨A9,c9,(hc _).trans h9,fun hl=>?_⟩,CmsAt.bz hb hr⟩
  ·obtain ⟨b',o',e,p1,p2,p3⟩:=g8 hl;exact ⟨b',o',e,p1,p2,CmsAt.bz hb p3⟩
  ·obtain ⟨b',o',e,p1,p2,p3⟩:=g9 hl;exact ⟨b',o',e,p1,p2,CmsAt.bz hb p3⟩
theorem CmsAt.mono (e1:lo'≤lo) (e2:hi≤hi'):∀ {L:Cms} {bl o:Nat},CmsAt w lo hi L bl o→CmsAt w lo' hi' L bl o
 | .nil,_,_,_=>trivial
 | .cons k a b t i body els r,bl,o,h=>by
  obtain ⟨h0,⟨A6,c6,h6,g6⟩,⟨A7,c7,h7,g7⟩,⟨A8,c8,h8,g8⟩,⟨A9,c9,h9,g9⟩,hr⟩:=h;refine ⟨h0,⟨A6,c6,h6,g6.mono e1 e2⟩,⟨A7,c7,h7,g7.mono e1 e2⟩,⟨A8,c8,h8,fun hl=>?_⟩,⟨A9,c9,h9,fun hl=>?_⟩,CmsAt.mono e1 e2 hr⟩
  ·obtain ⟨b',o',e,p1,p2,p3⟩:=g8 hl;exact ⟨b',o',e,by omega,by omega,CmsAt.mono e1 e2 p3⟩
  ·obtain ⟨b',o',e,p1,p2,p3⟩:=g9 hl;exact ⟨b',o',e,by omega,by omega,CmsAt.mono e1 e2 p3⟩
theorem CmsV.bz {A:Option Addr} {L:Cms} (h:CmsV w lo hi A L) (hb:Below w.heap.size w w'):CmsV w' lo hi A L:=fun hl=>by
 obtain ⟨b,o,e,p1,p2,p3⟩:=h hl;exact ⟨b,o,e,p1,p2,p3.bz hb⟩
theorem CmsV.mono {A:Option Addr} {L:Cms} (h:CmsV w lo hi A L) (e1:lo'≤lo) (e2:hi≤hi'):CmsV w lo' hi' A L:=fun hl=>by
 obtain ⟨b,o,e,p1,p2,p3⟩:=h hl;exact ⟨b,o,e,by omega,by omega,p3.mono e1 e2⟩
theorem CmsAt.drop:∀ (n:Nat) {L:Cms} {bl o:Nat},CmsAt w lo hi L bl o→CmsAt w lo hi (L.drop n) bl (o+n * 10)
 | 0,L,bl,o,h=>by simpa[Cms.drop] using h
 | n+1,.nil,bl,o,h=>trivial
 | n+1,.cons k a b t i body els r,bl,o,h=>by
  have:=CmsAt.drop n h.2.2.2.2.2
  rwa [show o+10+n * 10=o+(n+1) * 10 from by omega] at this
end
theorem Cms.small_drop {m:Nat}:∀ (n:Nat) {L:Cms},L.small m→(L.drop n).small m
 | 0,L,h=>h
 | n+1,.nil,h=>trivial
 | n+1,.cons k a b t i body els r,h=>Cms.small_drop n h.2.2.2.2.2.2
end
section
open Go Go.RowKit Go.Proofs
def Cms.sz:Cms→Nat
 | .nil=>0
 | .cons _ _ _ _ _ body els r=>body.sz+els.sz+r.sz+1
theorem Cms.sz_drop:∀ (n:Nat) (L:Cms),(L.drop n).sz≤L.sz
 | 0,L=>Nat.le_refl _
 | n+1,.nil=>Nat.le_refl _
 | n+1,.cons _ _ _ _ _ _ _ r=>by simp only[Cms.drop,Cms.sz];have:=Cms.sz_drop n r;omega
abbrev tC:Nat:=44
theorem infoC:(Tryz.prog.info? tC).map (fun i=>(i.zero,i.size,i.bytes))=some (some (.agg #[.int .i64 0,.int .i64 0,.int .i64 0,.bool false,.int .i64 0,.int .i64 0,.slice none 0 0,.slice none 0 0,.slice none 0 0,.slice none 0 0]),10,144):=by kernel_rfl
section
variable {w w':World} {lo hi lo' hi':Nat}
variable {v:Value} {L:Cms}
end
theorem AsnI.lo_ {w:World} {lo lo' hi:Nat} {v:Value} {x:Asn} (h:AsnI w lo hi v x) (hl:lo'≤lo):AsnI w lo' hi v x:=by
 obtain ⟨fv,av,e,h1,h2⟩:=h;exact ⟨fv,av,e,⟨h1.1.bq hl,h1.2⟩,⟨h2.1.bq hl,h2.2⟩⟩
def Cms.take:Nat→Cms→Cms
 | 0,_=>.nil
 | _+1,.nil=>.nil
 | n+1,.cons k a b t i body els r=>.cons k a b t i body els (r.take n)
theorem Cms.take_all:∀ (L:Cms),L.take L.len=L
 | .nil=>rfl
 | .cons k a b t i body els r=>by simp only[Cms.len,Cms.take];rw[Cms.take_all r]
theorem Cms.take_len:∀ (n:Nat) (L:Cms),n≤L.len→(L.take n).len=n
 | 0,L,_=>by cases L<;>rfl
 | n+1,.nil,h=>by simp[Cms.len] at h
 | n+1,.cons k a b t i body els r,h=>by simp only[Cms.len,Cms.take] at h ⊢;rw[Cms.take_len n r (by omega)]
section
variable {w w':World}
end
theorem wp_appX {P:Program} {o:Oper} {a:Act} {K:Act→World→Prop} {Q:Exit→Act→World→Prop} {w:World} (s x:Operand) (t:TypeId)
  (ho:o.op=.call { callee:=.builtin .append,args:=#[s,x],argTypes:=#[t,t] })
  {base:Nat} {e:TypeId} {z:Value} {size bytes:Nat} (ht:P.underlying t=some (.slice e)) (hinfo:(P.info? e).map (fun i=>(i.zero,i.size,i.bytes))=some (some z,size,bytes)) (hzs:z.cells.size=size) (hsz:0<size) (hby:bytes≤200)
  {v:Value} {n:Nat} {xs:List Value} (hs:a.eval s=v) (hown:w.ownsRow base e size v n xs)
  {ad:Addr} {m c:Nat} {news:List Value} (hx:a.eval x=.slice (some ad) m c) (hl:news.length=m * size) (hnews:∀ j u,news[j]? = some u→w.cell? (ad.add j)=some u) (h1:∀ u∈news,u.oneCell'=true)
  (hn:n+m≤1049600) (hb:base≤w.heap.size)
  (h:∀ v' w',w'.ownsRow base e size v' (n+m) (xs++news)→w.grownBy w' v.ownBlock→Below base w w'→(v'.ownBlock=v.ownBlock∨v'.ownBlock=some w.heap.size)→K (a.put o.dst v') w'):Oper.wp P o a w K Q:=by
 obtain ⟨i,hi',hz,hsize,hbytes⟩:=info_parts hinfo;obtain ⟨v',w',hr,h2,h3,h4,h5⟩:=run_append_own_at (P:=P) w base t o.type e i z size bytes ht hi' hz hsize hbytes hzs hsz v n xs hown ad m c news hl hnews h1 (by unfold maxLen;omega) (Nat.le_trans (Nat.mul_le_mul hn hby) (by omega)) hb;unfold Oper.wp execOp;simp only[ho,resolve,invoke,builtin,Sem.run_bind,Sem.run_pure,Result.andThen_ok,List.map_toArray,List.map_cons,List.map_nil,hs,hx,hr];exact h v' w' h2 h3 (own_row_below hown h3 hb) h5
section
variable {ops:Array Oper} {rest:List Oper} {o:Oper} {a:Act} {K:Act→World→Prop} {Q:Exit→Act→World→Prop} {E:Prop} {w:World} {base:Nat} {v:Value}
theorem wp_appIX (s x:Operand) (ho:o.op=.call { callee:=.builtin .append,args:=#[s,x],argTypes:=#[31,31] })
  {xs ys:List Int} (hs:a.eval s=v) (hown:IntsO w base v xs) {g0 c:Nat} {cs:Array Value} (hx:a.eval x=.slice (some ⟨g0,0,none⟩) ys.length c) (hk:Blk w g0 tI cs) (hcs:cs=(encI ys).toArray) (hn:xs.length+ys.length≤1049600) (hb:base≤w.heap.size)
  (h:∀ A' c' w',IntsO w' base (.slice A' (xs++ys).length c') (xs++ys)→w.grownBy w' v.ownBlock→Below base w w'→((Value.slice A' (xs++ys).length c').ownBlock=v.ownBlock∨(Value.slice A' (xs++ys).length c').ownBlock=some w.heap.size)→K (a.put o.dst (.slice A' (xs++ys).length c')) w'):Oper.wp Tryz.prog o a w K Q:=by
 have hadd:∀ j,(⟨g0,0,none⟩:Addr).add j=⟨g0,j,none⟩:=fun j=>by unfold Addr.add;split<;>simp_all
 refine wp_appX (news:=encI ys) s x 31 ho Tryz.underlying31 infoI rfl (by decide) (by decide) hs hown.1 hx (by simp[encI]) (fun j u hu=>?_) (encI_one _) hn hb ?_
 ·rw[hadd,hk.cell,hcs];simpa using hu
 ·intro v' w' h1 h2 h3 h4;have hO:IntsO w' base v' (xs++ys):=⟨by rw[List.length_append,show encI (xs++ys)=encI xs++encI ys from List.map_append];exact h1,by simp[Lim];omega⟩;obtain ⟨A',c',rfl,-⟩:=hO.rj;exact h A' c' w' hO h2 h3 h4
theorem appIX (hgd:o.guard=none) (s x:Operand) (ho:o.op=.call { callee:=.builtin .append,args:=#[s,x],argTypes:=#[31,31] })
  {xs ys:List Int} (hs:a.eval s=v) (hown:IntsO w base v xs) {g0 c:Nat} {cs:Array Value} (hx:a.eval x=.slice (some ⟨g0,0,none⟩) ys.length c) (hk:Blk w g0 tI cs) (hcs:cs=(encI ys).toArray) (hn:xs.length+ys.length≤1049600) (hb:base≤w.heap.size)
  (h:∀ A' c' w',IntsO w' base (.slice A' (xs++ys).length c') (xs++ys)→w.grownBy w' v.ownBlock→Below base w w'→((Value.slice A' (xs++ys).length c').ownBlock=v.ownBlock∨(Value.slice A' (xs++ys).length c').ownBlock=some w.heap.size)→wpList Tryz.prog ops Q rest (a.put o.dst (.slice A' (xs++ys).length c')) w'):wpList Tryz.prog ops Q (o :: rest) a w:=by
 unfold wpList;rw[if_pos (show Region.wanted o (yielded ops a.tmps)=true by simp[Region.wanted,hgd])];exact Or.inl (wp_appIX s x ho hs hown hx hk hcs hn hb h)
end
theorem wp_appLX {P:Program} {o:Oper} {a:Act} {K:Act→World→Prop} {Q:Exit→Act→World→Prop} {w:World} (s x:Operand) (t:TypeId)
  (ho:o.op=.call { callee:=.builtin .append,args:=#[s,x],argTypes:=#[t,t] })
  {base:Nat} {e:TypeId} {z:Value} {size bytes:Nat} (ht:P.underlying t=some (.slice e)) (hinfo:(P.info? e).map (fun i=>(i.zero,i.size,i.bytes))=some (some z,size,bytes)) (hzs:z.cells.size=size) (hsz:0<size) (hby:bytes≤200)
  {v:Value} {n:Nat} {xs:List Value} (hs:a.eval s=v) (hown:w.ownsRow base e size v n xs)
  {A:Option Addr} {m c lo hi:Nat} {news:List Value} (hx:a.eval x=.slice A m c) (hR:Rw w lo hi size A m news) (h1:∀ u∈news,u.oneCell'=true)
  (hn:n+m≤1049600) (hb:base≤w.heap.size)
  (h:∀ v' w',w'.ownsRow base e size v' (n+m) (xs++news)→w.grownBy w' v.ownBlock→Below base w w'→(v'.ownBlock=v.ownBlock∨v'.ownBlock=some w.heap.size)→K (a.put o.dst v') w'):Oper.wp P o a w K Q:=by
 obtain ⟨i,hi',hz,hsize,hbytes⟩:=info_parts hinfo
 have key:∀ (ad:Addr),A=some ad→(∀ j u,news[j]? = some u→w.cell? (ad.add j)=some u)→Oper.wp P o a w K Q:=by
  rintro ad rfl hnews;obtain ⟨v',w',hr,h2,h3,h4,h5⟩:=run_append_own_at (P:=P) w base t o.type e i z size bytes ht hi' hz hsize hbytes hzs hsz v n xs hown ad m c news hR.1 hnews h1 (by unfold maxLen;omega) (Nat.le_trans (Nat.mul_le_mul hn hby) (by omega)) hb;unfold Oper.wp execOp;simp only[ho,resolve,invoke,builtin,Sem.run_bind,Sem.run_pure,Result.andThen_ok,List.map_toArray,List.map_cons,List.map_nil,hs,hx,hr];exact h v' w' h2 h3 (own_row_below hown h3 hb) h5
 by_cases hm:m=0
 ·subst hm;have hnil:news=[]:=List.eq_nil_of_length_eq_zero (by simpa using hR.1);subst hnil
  cases A with
  | some ad=>exact key ad rfl (by simp)
  | none=>
   have hrun:=run_append_none (P:=P) t o.type i ht hi' v n c xs hown;unfold Oper.wp execOp;simp only[ho,resolve,invoke,builtin,Sem.run_bind,Sem.run_pure,Result.andThen_ok,List.map_toArray,List.map_cons,List.map_nil,hs,hx,hrun];exact h v w (by simpa using hown) (World.grownBy.refl _ _) (Below.refl _ _) (Or.inl rfl)
 ·have h0:0<m * size:=Nat.mul_pos (by omega) hsz;obtain ⟨b,off,rfl,_,_,hc⟩:=hR.2 h0;exact key _ rfl fun j u hu=>by rw[show (⟨b,off,none⟩:Addr).add j=⟨b,off+j,none⟩ from by unfold Addr.add;split<;>simp_all];exact hc j u hu
theorem wp_appIY {o:Oper} {a:Act} {K:Act→World→Prop} {Q:Exit→Act→World→Prop} {w:World} {base lo hi c:Nat} {v:Value} {A:Option Addr} (s x:Operand) (ho:o.op=.call { callee:=.builtin .append,args:=#[s,x],argTypes:=#[31,31] })
  {xs ys:List Int} (hs:a.eval s=v) (hown:IntsO w base v xs) (hx:a.eval x=.slice A ys.length c) (hR:IntsV w lo hi A ys) (hn:xs.length+ys.length≤1049600) (hb:base≤w.heap.size)
  (h:∀ A' c' w',IntsO w' base (.slice A' (xs++ys).length c') (xs++ys)→w.grownBy w' v.ownBlock→Below base w w'→((Value.slice A' (xs++ys).length c').ownBlock=v.ownBlock∨(Value.slice A' (xs++ys).length c').ownBlock=some w.heap.size)→K (a.put o.dst (.slice A' (xs++ys).length c')) w'):Oper.wp Tryz.prog o a w K Q:=by
 refine wp_appLX s x 31 ho Tryz.underlying31 infoI rfl (by decide) (by decide) hs hown.1 hx hR.raw (encI_one _) hn hb ?_;intro v' w' h1 h2 h3 h4;have hO:IntsO w' base v' (xs++ys):=⟨by rw[List.length_append,show encI (xs++ys)=encI xs++encI ys from List.map_append];exact h1,by simp[Lim];omega⟩;obtain ⟨A',c',rfl,-⟩:=hO.rj;exact h A' c' w' hO h2 h3 h4
theorem IntsO.grown {w w':World} {b:Nat} {v v':Value} {xs:List Int} (h:IntsO w b v' xs) (hg:w.grownBy w' v.ownBlock) (hne:∀ g,v'.ownBlock=some g→v.ownBlock≠some g):IntsO w' b v' xs:=by
 obtain ⟨⟨h1,h2⟩,h3⟩:=h;refine ⟨⟨h1,?_⟩,h3⟩;rcases h2 with h2|⟨k,cap,cur,hv,hk,hh,r⟩
 ·exact Or.inl h2
 ·exact Or.inr ⟨k,cap,cur,hv,hk,Blk.grown hh hg (fun e=>hne k (by rw[hv];rfl) e.symm),r⟩
def RwX (w:World) (X:Nat→Prop) (size:Nat) (A:Option Addr) (n:Nat) (xs:List Value):Prop:=
 xs.length=n * size∧(0<n * size→∃ b o,A=some ⟨b,o,none⟩∧X b∧∀ j u,xs[j]? = some u→w.cell? ⟨b,o+j,none⟩=some u)
def CmsX (w:World) (X:Nat→Prop):Cms→Nat→Nat→Prop
 | .nil,_,_=>True
 | .cons k a b t i body els r,bl,o=>
  (w.cell? ⟨bl,o,none⟩=some (.int .i64 k)∧w.cell? ⟨bl,o+1,none⟩=some (.int .i64 a)∧w.cell? ⟨bl,o+2,none⟩=some (.int .i64 b)∧
   w.cell? ⟨bl,o+3,none⟩=some (.bool t.eq)∧w.cell? ⟨bl,o+4,none⟩=some (.int .i64 t.a)∧w.cell? ⟨bl,o+5,none⟩=some (.int .i64 t.b))∧
  (∃ A c,w.cell? ⟨bl,o+6,none⟩=some (.slice A i.facts.length c)∧RwX w X 3 A i.facts.length (encF i.facts))∧
  (∃ A c,w.cell? ⟨bl,o+7,none⟩=some (.slice A i.atoms.length c)∧RwX w X 3 A i.atoms.length (encA i.atoms))∧
  (∃ A c,w.cell? ⟨bl,o+8,none⟩=some (.slice A body.len c)∧(0<body.len→∃ b' o',A=some ⟨b',o',none⟩∧X b'∧CmsX w X body b' o'))∧
  (∃ A c,w.cell? ⟨bl,o+9,none⟩=some (.slice A els.len c)∧(0<els.len→∃ b' o',A=some ⟨b',o',none⟩∧X b'∧CmsX w X els b' o'))∧
  CmsX w X r bl (o+10)
def PartX (w:World) (X:Nat→Prop) (A:Option Addr) (L:Cms):Prop:=0<L.len→∃ b o,A=some ⟨b,o,none⟩∧X b∧CmsX w X L b o
section
variable {w w':World} {X Y:Nat→Prop} {lo hi base:Nat}
theorem RwX.keep {size n:Nat} {A:Option Addr} {xs:List Value} (h:RwX w X size A n xs) (hk:∀ b,X b→b<w.heap.size→w'.heap[b]? = w.heap[b]?):RwX w' X size A n xs:=
 ⟨h.1,fun hn=>by
  obtain ⟨b,o,e,h1,hc⟩:=h.2 hn;have h0:=h.1;have hx:xs[0]? = some (xs[0]'(by omega)):=List.getElem?_eq_getElem (by omega);have hlt:b<w.heap.size:=block_lt_of_cell (hc 0 _ hx)
  exact ⟨b,o,e,h1,fun j u hu=>(World.cell?_of_block (a:=⟨b,o+j,none⟩) (hk b h1 hlt)).trans (hc j u hu)⟩⟩
theorem RwX.mono {size n:Nat} {A:Option Addr} {xs:List Value} (h:RwX w X size A n xs) (hXY:∀ b,X b→b<w.heap.size→Y b):RwX w Y size A n xs:=
 ⟨h.1,fun hn=>by
  obtain ⟨b,o,e,h1,hc⟩:=h.2 hn;have h0:=h.1;have hx:xs[0]? = some (xs[0]'(by omega)):=List.getElem?_eq_getElem (by omega);have hlt:b<w.heap.size:=block_lt_of_cell (hc 0 _ hx)
  exact ⟨b,o,e,hXY b h1 hlt,hc⟩⟩
theorem RwX.rw_ {size n:Nat} {A:Option Addr} {xs:List Value} (h:RwX w X size A n xs) (hX:∀ b,X b→lo≤b):Rw w lo w.heap.size size A n xs:=
 ⟨h.1,fun hn=>by
  obtain ⟨b,o,e,h1,hc⟩:=h.2 hn;have h0:=h.1;have hx:xs[0]? = some (xs[0]'(by omega)):=List.getElem?_eq_getElem (by omega)
  exact ⟨b,o,e,hX b h1,block_lt_of_cell (hc 0 _ hx),hc⟩⟩
theorem Rw.x {size n:Nat} {A:Option Addr} {xs:List Value} (h:Rw w lo hi size A n xs) (hX:∀ b,lo≤b→b<hi→X b):RwX w X size A n xs:=
 ⟨h.1,fun hn=>by
  obtain ⟨b,o,e,h1,h2,hc⟩:=h.2 hn
  exact ⟨b,o,e,hX b h1 h2,hc⟩⟩
theorem CmsX.lt {k a b:Int} {t:Fct} {i:Asn} {body els r:Cms} {bl o:Nat} (h:CmsX w X (.cons k a b t i body els r) bl o):bl<w.heap.size:=block_lt_of_cell h.1.1
theorem CmsX.lt_:∀ {L:Cms} {bl o:Nat},0<L.len→CmsX w X L bl o→bl<w.heap.size
 | .nil,_,_,h,_=>by simp[Cms.len] at h
 | .cons ..,_,_,_,h=>h.lt
theorem CmsX.keep (hk:∀ b,X b→b<w.heap.size→w'.heap[b]? = w.heap[b]?):∀ {L:Cms} {bl o:Nat},w'.heap[bl]? = w.heap[bl]?→CmsX w X L bl o→CmsX w' X L bl o
 | .nil,_,_,_,_=>trivial
 | .cons k a b t i body els r,bl,o,e1,h=>by
  obtain ⟨⟨h0,h1,h2,h3,h4,h5⟩,⟨A6,c6,h6,g6⟩,⟨A7,c7,h7,g7⟩,⟨A8,c8,h8,g8⟩,⟨A9,c9,h9,g9⟩,hr⟩:=h;have hc:∀ j,w'.cell? ⟨bl,j,none⟩=w.cell? ⟨bl,j,none⟩:=fun j=>World.cell?_of_block (a:=⟨bl,j,none⟩) e1;refine ⟨⟨(hc _).trans h0,(hc _).trans h1,(hc _).trans h2,(hc _).trans h3,(hc _).trans h4,(hc _).trans h5⟩,⟨A6,c6,(hc _).trans h6,g6.keep hk⟩,⟨A7,c7,(hc _).trans h7,g7.keep hk⟩,⟨A8,c8,(hc _).trans h8,fun hl=>?_⟩,⟨A9,c9,(hc _).trans h9,fun hl=>?_⟩,CmsX.keep hk e1 hr⟩
  ·obtain ⟨b',o',e,p1,p3⟩:=g8 hl;exact ⟨b',o',e,p1,CmsX.keep hk (hk b' p1 (CmsX.lt_ hl p3)) p3⟩
  ·obtain ⟨b',o',e,p1,p3⟩:=g9 hl;exact ⟨b',o',e,p1,CmsX.keep hk (hk b' p1 (CmsX.lt_ hl p3)) p3⟩
theorem CmsX.mono (hXY:∀ b,X b→b<w.heap.size→Y b):∀ {L:Cms} {bl o:Nat},CmsX w X L bl o→CmsX w Y L bl o
 | .nil,_,_,_=>trivial
 | .cons k a b t i body els r,bl,o,h=>by
  obtain ⟨h0,⟨A6,c6,h6,g6⟩,⟨A7,c7,h7,g7⟩,⟨A8,c8,h8,g8⟩,⟨A9,c9,h9,g9⟩,hr⟩:=h;refine ⟨h0,⟨A6,c6,h6,g6.mono hXY⟩,⟨A7,c7,h7,g7.mono hXY⟩,⟨A8,c8,h8,fun hl=>?_⟩,⟨A9,c9,h9,fun hl=>?_⟩,CmsX.mono hXY hr⟩
  ·obtain ⟨b',o',e,p1,p3⟩:=g8 hl;exact ⟨b',o',e,hXY b' p1 (CmsX.lt_ hl p3),CmsX.mono hXY p3⟩
  ·obtain ⟨b',o',e,p1,p3⟩:=g9 hl;exact ⟨b',o',e,hXY b' p1 (CmsX.lt_ hl p3),CmsX.mono hXY p3⟩
theorem CmsX.at_ (hX:∀ b,X b→lo≤b):∀ {L:Cms} {bl o:Nat},CmsX w X L bl o→CmsAt w lo w.heap.size L bl o
 | .nil,_,_,_=>trivial
 | .cons k a b t i body els r,bl,o,h=>by
  obtain ⟨h0,⟨A6,c6,h6,g6⟩,⟨A7,c7,h7,g7⟩,⟨A8,c8,h8,g8⟩,⟨A9,c9,h9,g9⟩,hr⟩:=h;refine ⟨h0,⟨A6,c6,h6,g6.rw_ hX⟩,⟨A7,c7,h7,g7.rw_ hX⟩,⟨A8,c8,h8,fun hl=>?_⟩,⟨A9,c9,h9,fun hl=>?_⟩,CmsX.at_ hX hr⟩
  ·obtain ⟨b',o',e,p1,p3⟩:=g8 hl;exact ⟨b',o',e,hX b' p1,CmsX.lt_ hl p3,CmsX.at_ hX p3⟩
  ·obtain ⟨b',o',e,p1,p3⟩:=g9 hl;exact ⟨b',o',e,hX b' p1,CmsX.lt_ hl p3,CmsX.at_ hX p3⟩
theorem PartX.keep {A:Option Addr} {L:Cms} (h:PartX w X A L) (hk:∀ b,X b→b<w.heap.size→w'.heap[b]? = w.heap[b]?):PartX w' X A L:=fun hl=>by
 obtain ⟨b,o,e,p1,p2⟩:=h hl;exact ⟨b,o,e,p1,p2.keep hk (hk b p1 (CmsX.lt_ hl p2))⟩
theorem PartX.mono {A:Option Addr} {L:Cms} (h:PartX w X A L) (hXY:∀ b,X b→b<w.heap.size→Y b):PartX w Y A L:=fun hl=>by
 obtain ⟨b,o,e,p1,p2⟩:=h hl;exact ⟨b,o,e,hXY b p1 (CmsX.lt_ hl p2),p2.mono hXY⟩
theorem PartX.v {A:Option Addr} {L:Cms} (h:PartX w X A L) (hX:∀ b,X b→lo≤b):CmsV w lo w.heap.size A L:=fun hl=>by
 obtain ⟨b,o,e,p1,p2⟩:=h hl;exact ⟨b,o,e,hX b p1,CmsX.lt_ hl p2,p2.at_ hX⟩
theorem PartX.nil (A:Option Addr):PartX w X A .nil:=fun h=>by simp[Cms.len] at h
end
def Cms.app:Cms→Cms→Cms
 | .nil,M=>M
 | .cons k a b t i body els r,M=>.cons k a b t i body els (r.app M)
theorem Cms.len_app:∀ (L M:Cms),(L.app M).len=L.len+M.len
 | .nil,M=>by simp[Cms.app,Cms.len]
 | .cons k a b t i body els r,M=>by simp only[Cms.app,Cms.len,Cms.len_app r M];omega
theorem Cms.cost_app:∀ (L M:Cms),(L.app M).cost=L.cost+M.cost
 | .nil,M=>by simp[Cms.app,Cms.cost]
 | .cons k a b t i body els r,M=>by simp only[Cms.app,Cms.cost,Cms.cost_app r M];omega
def tenL (k a b:Int) (t:Fct) (vF vA vB vE:Value):List Value:=[.int .i64 k,.int .i64 a,.int .i64 b,.bool t.eq,.int .i64 t.a,.int .i64 t.b,vF,vA,vB,vE]
def CmsT (w:World) (X:Nat→Prop):Cms→List Value→Prop
 | .nil,cs=>cs=[]
 | .cons k a b t i body els r,cs=>∃ AF cF AA cA AB cB AE cE rest,cs=tenL k a b t (.slice AF i.facts.length cF) (.slice AA i.atoms.length cA) (.slice AB body.len cB) (.slice AE els.len cE)++rest∧
   RwX w X 3 AF i.facts.length (encF i.facts)∧RwX w X 3 AA i.atoms.length (encA i.atoms)∧PartX w X AB body∧PartX w X AE els∧CmsT w X r rest
section
variable {w w':World} {X Y:Nat→Prop} {lo hi base:Nat}
theorem CmsT.len:∀ {L:Cms} {cs:List Value},CmsT w X L cs→cs.length=L.len * 10
 | .nil,cs,h=>by simp[CmsT] at h;simp[h,Cms.len]
 | .cons k a b t i body els r,cs,h=>by
  obtain ⟨AF,cF,AA,cA,AB,cB,AE,cE,rest,rfl,-,-,-,-,hr⟩:=h;simp only[List.length_append,tenL,List.length_cons,List.length_nil,CmsT.len hr,Cms.len];omega
theorem CmsT.keep (hk:∀ b,X b→b<w.heap.size→w'.heap[b]? = w.heap[b]?):∀ {L:Cms} {cs:List Value},CmsT w X L cs→CmsT w' X L cs
 | .nil,cs,h=>h
 | .cons k a b t i body els r,cs,h=>by
  obtain ⟨AF,cF,AA,cA,AB,cB,AE,cE,rest,e,h1,h2,h3,h4,hr⟩:=h;exact ⟨AF,cF,AA,cA,AB,cB,AE,cE,rest,e,h1.keep hk,h2.keep hk,h3.keep hk,h4.keep hk,CmsT.keep hk hr⟩
theorem CmsT.mono (hXY:∀ b,X b→b<w.heap.size→Y b):∀ {L:Cms} {cs:List Value},CmsT w X L cs→CmsT w Y L cs
 | .nil,cs,h=>h
 | .cons k a b t i body els r,cs,h=>by
  obtain ⟨AF,cF,AA,cA,AB,cB,AE,cE,rest,e,h1,h2,h3,h4,hr⟩:=h;exact ⟨AF,cF,AA,cA,AB,cB,AE,cE,rest,e,h1.mono hXY,h2.mono hXY,h3.mono hXY,h4.mono hXY,CmsT.mono hXY hr⟩
theorem CmsT.x {g:Nat}:∀ {L:Cms} {cs:List Value} {o:Nat},CmsT w X L cs→(∀ j u,cs[j]? = some u→w.cell? ⟨g,o+j,none⟩=some u)→CmsX w X L g o
 | .nil,cs,_,_,_=>trivial
 | .cons k a b t i body els r,cs,o,h,hc=>by
  obtain ⟨AF,cF,AA,cA,AB,cB,AE,cE,rest,rfl,h1,h2,h3,h4,hr⟩:=h;refine ⟨⟨hc 0 _ rfl,hc 1 _ rfl,hc 2 _ rfl,hc 3 _ rfl,hc 4 _ rfl,hc 5 _ rfl⟩,⟨AF,cF,hc 6 _ rfl,h1⟩,⟨AA,cA,hc 7 _ rfl,h2⟩,⟨AB,cB,hc 8 _ rfl,h3⟩,⟨AE,cE,hc 9 _ rfl,h4⟩,CmsT.x hr fun j u hu=>?_⟩;have:=hc (10+j) u (by rw[List.getElem?_append_right (by simp[tenL]),show 10+j - (tenL k a b t (.slice AF i.facts.length cF) (.slice AA i.atoms.length cA) (.slice AB body.len cB) (.slice AE els.len cE)).length=j by simp[tenL]];exact hu)
  rwa [show o+(10+j)=o+10+j by omega] at this
theorem CmsT.app:∀ {L M:Cms} {cs ds:List Value},CmsT w X L cs→CmsT w X M ds→CmsT w X (L.app M) (cs++ds)
 | .nil,M,cs,ds,h,h'=>by simp only[CmsT] at h;subst h;exact h'
 | .cons k a b t i body els r,M,cs,ds,h,h'=>by
  obtain ⟨AF,cF,AA,cA,AB,cB,AE,cE,rest,rfl,h1,h2,h3,h4,hr⟩:=h;exact ⟨AF,cF,AA,cA,AB,cB,AE,cE,rest++ds,List.append_assoc ..,h1,h2,h3,h4,CmsT.app hr h'⟩
end
def CmsN (w:World) (base:Nat) (v:Value) (L:Cms):Prop:=∃ cs,w.ownsRow base tC 10 v L.len cs∧CmsT w (fun b=>base≤b∧v.ownBlock≠some b) L cs∧L.len≤1049600
section
variable {w w':World} {base base':Nat} {v:Value} {L:Cms}
theorem CmsN.bz (h:CmsN w base v L) (hb:Below w.heap.size w w'):CmsN w' base v L:=by
 obtain ⟨cs,h1,h2,h3⟩:=h;exact ⟨cs,own_below h1 hb,h2.keep fun b _ hl=>hb.block b hl,h3⟩
theorem CmsN.fr {g:Nat} (h:CmsN w base v L) (hf:Fr g w w') (hg:g<base):CmsN w' base v L:=by
 obtain ⟨cs,h1,h2,h3⟩:=h;exact ⟨cs,own_fr h1 hf hg,h2.keep fun b hb hl=>hf.block b hl (by omega),h3⟩
theorem CmsN.bq (h:CmsN w base v L) (hb:base'≤base):CmsN w base' v L:=by
 obtain ⟨cs,h1,h2,h3⟩:=h;exact ⟨cs,own_lower h1 hb,h2.mono fun b hx _=>⟨by omega,hx.2⟩,h3⟩
theorem CmsN.rj (h:CmsN w base v L):∃ A c,v=.slice A L.len c∧CmsV w base w.heap.size A L:=by
 obtain ⟨cs,⟨hl,h2⟩,h3,h4⟩:=h;rcases h2 with ⟨rfl,hn⟩|⟨g,cap,cur,rfl,hb,hg,hn,hm,hs,ht⟩
 ·exact ⟨none,0,by rw[hn],fun hp=>by omega⟩
 ·refine ⟨_,_,rfl,fun hp=>⟨g,0,rfl,hb,Blk.lt hg,CmsX.at_ (fun b hx=>hx.1) (CmsT.x h3 fun j u hu=>?_)⟩⟩;rw[Nat.zero_add,cell_of_row w g j cur tC (0,0) hg];rw[←ht,List.getElem?_take] at hu
  split at hu
  ·simpa using hu
  ·cases hu
theorem CmsN.nil (w:World) (base:Nat):CmsN w base (.slice none 0 0) .nil:=⟨[],World.ownsRow_nil _ _ _ _,rfl,by simp[Cms.len]⟩
theorem CmsN.empty (w:World) {base:Nat} (hb:base≤w.heap.size):CmsN (w.alloc (.cells #[] tC)) base (.slice (some ⟨w.heap.size,0,none⟩) 0 0) .nil:=
 ⟨[],own_lower (own_empty w _ _) hb,rfl,by simp[Cms.len]⟩
theorem CmsN.lim (h:CmsN w base v L):L.len≤1049600:=by obtain ⟨_,_,_,h⟩:=h;exact h
end
theorem CmsN.grow {w w':World} {base:Nat} {v v':Value} {L:Cms} {k a b:Int} {t:Fct} {i:Asn} {body els:Cms} {AF AA AB AE:Option Addr} {cF cA cB cE:Nat} {cs:List Value}
  (hT:CmsT w (fun b=>base≤b∧v.ownBlock≠some b) L cs) (hl:L.len+1≤1049600)
  (h1:RwX w (fun b=>base≤b∧v.ownBlock≠some b) 3 AF i.facts.length (encF i.facts)) (h2:RwX w (fun b=>base≤b∧v.ownBlock≠some b) 3 AA i.atoms.length (encA i.atoms))
  (h3:PartX w (fun b=>base≤b∧v.ownBlock≠some b) AB body) (h4:PartX w (fun b=>base≤b∧v.ownBlock≠some b) AE els)
  (ho:w'.ownsRow base tC 10 v' (L.len+1) (cs++tenL k a b t (.slice AF i.facts.length cF) (.slice AA i.atoms.length cA) (.slice AB body.len cB) (.slice AE els.len cE)))
  (hg:w.grownBy w' v.ownBlock) (hv:v'.ownBlock=v.ownBlock∨v'.ownBlock=some w.heap.size):CmsN w' base v' (L.app (.cons k a b t i body els .nil)):=by
 have hk:∀ b,(base≤b∧v.ownBlock≠some b)→b<w.heap.size→w'.heap[b]? = w.heap[b]?:=fun b hb hlt=>hg.block b hlt (fun e=>hb.2 e.symm);have hlen:(L.app (.cons k a b t i body els .nil)).len=L.len+1:=by rw[Cms.len_app];rfl
 refine ⟨cs++tenL k a b t (.slice AF i.facts.length cF) (.slice AA i.atoms.length cA) (.slice AB body.len cB) (.slice AE els.len cE),by rw[hlen];exact ho,?_,by omega⟩
 have hT2:CmsT w (fun b=>base≤b∧v.ownBlock≠some b) (L.app (.cons k a b t i body els .nil)) (cs++tenL k a b t (.slice AF i.facts.length cF) (.slice AA i.atoms.length cA) (.slice AB body.len cB) (.slice AE els.len cE)):=
  hT.app ⟨AF,cF,AA,cA,AB,cB,AE,cE,[],by rw[List.append_nil],h1,h2,h3,h4,rfl⟩
 have hT3:=(hT2.mono (Y:=fun b=>(base≤b∧v.ownBlock≠some b)∧b<w.heap.size) fun b hb hlt=>⟨hb,hlt⟩).keep (w':=w') fun b hb hlt=>hk b hb.1 hlt;refine hT3.mono fun b hb _=>⟨hb.1.1,fun e=>?_⟩;rcases hv with hv|hv
 ·exact hb.1.2 (hv.symm.trans e)
 ·rw[hv] at e;injection e with e;omega
def noAsn (i:Asn):Bool:=decide (i.facts.length=0)&&decide (i.atoms.length=0)
def noFct (t:Fct):Bool:=decide (t=⟨false,0,0⟩)
def basicB (k:Int):Bool:=decide (1≤k∧k≤5)
theorem c_spec_l8NoInv (A1 A2:Option Addr) (c1 c2:Nat) (i:Asn) (w:World) (h1:i.facts.length≤1049600) (h2:i.atoms.length≤1049600):Calls Tryz.prog 182 #[.agg #[.slice A1 i.facts.length c1,.slice A2 i.atoms.length c2]] w fun e w'=>e=.returned (.bool (noAsn i))∧Below w.heap.size w w':=by
 obtain ⟨R,hR⟩:∃ R,R=noAsn i:=⟨_,rfl⟩;rw[←hR];unfold noAsn at hR;replace hR:=ax hR;by_cases q1:i.facts.length=0
 all_goals by_cases q2:i.atoms.length=0
 all_goals
  (go_enter Tryz.func182,Tryz.ntmps182);go_wp2;go_ret;exact ⟨zjD (by rw[hR.o];simp_all),bel⟩
theorem c_impl_noAssertion (A1 A2:Option Addr) (c1 c2:Nat) (i:Asn) (w:World) (h1:i.facts.length≤1049600) (h2:i.atoms.length≤1049600):Calls Tryz.prog 256 #[.agg #[.slice A1 i.facts.length c1,.slice A2 i.atoms.length c2]] w fun e w'=>e=.returned (.bool (noAsn i))∧Below w.heap.size w w':=by
 obtain ⟨R,hR⟩:∃ R,R=noAsn i:=⟨_,rfl⟩;rw[←hR];unfold noAsn at hR;replace hR:=ax hR;by_cases q1:i.facts.length=0
 all_goals by_cases q2:i.atoms.length=0
 all_goals
  (go_enter Tryz.func256,Tryz.ntmps256);go_wp2;go_ret;exact ⟨zjD (by rw[hR.o];simp_all),bel⟩
theorem c_spec_l8NoFact (t:Fct) (w:World):Calls Tryz.prog 236 #[t.val] w fun e w'=>e=.returned (.bool (noFct t))∧Below w.heap.size w w':=by
 obtain ⟨q,a,b⟩:=t;(go_enter Tryz.func236,Tryz.ntmps236);go_wp2
 all_goals
  go_ret;exact ⟨zjD (by simp_all [noFct]),bel⟩
theorem c_impl_isBasic (k a b:Int) (t:Fct) (vF vA vB vE:Value) (w:World):Calls Tryz.prog 255 #[.agg #[.int .i64 k,.int .i64 a,.int .i64 b,.bool t.eq,.int .i64 t.a,.int .i64 t.b,vF,vA,vB,vE]] w fun e w'=>e=.returned (.bool (basicB k))∧Below w.heap.size w w':=by
 by_cases h:1≤k
 ·by_cases h2:k≤5
  all_goals
   (go_enter Tryz.func255,Tryz.ntmps255);go_wp2;go_ret;exact ⟨zjD (by simp[basicB,h,h2]),bel⟩
 ·(go_enter Tryz.func255,Tryz.ntmps255);go_wp2;go_ret;exact ⟨zjD (by simp[basicB];omega),bel⟩
def plainB (t:Fct) (i:Asn) (body els:Cms):Bool:=noFct t&&(noAsn i&&(decide (body.len=0)&&decide (els.len=0)))
def fieldsB (k a b:Int):Bool:=
 if k=1∨k=2 then isProgB a&&jq b else if k=3 then jq a&&jq b else if k=4 then isProgB a&&decide (b=0) else if k=5 then jq a&&decide (b=0) else false
theorem c_spec_l8Basic_no (k a b:Int) (t:Fct) (i:Asn) (A1 A2 A3 A4:Option Addr) (c1 c2 c3 c4:Nat) (body els:Cms) (w:World) (h1:i.facts.length≤1049600) (h2:i.atoms.length≤1049600) (h3:body.len≤1049600) (h4:els.len≤1049600) (hn:plainB t i body els=false) :
  Calls Tryz.prog 183 #[.agg #[.int .i64 k,.int .i64 a,.int .i64 b,.bool t.eq,.int .i64 t.a,.int .i64 t.b,.slice A1 i.facts.length c1,.slice A2 i.atoms.length c2,.slice A3 body.len c3,.slice A4 els.len c4]] w fun e w'=>e=.returned (.bool false)∧Below w.heap.size w w':=by
 obtain ⟨x,hx⟩:∃ x,x=noFct t:=⟨_,rfl⟩;obtain ⟨y,hy⟩:∃ y,y=noAsn i:=⟨_,rfl⟩;unfold plainB at hn;rw[←hx,←hy] at hn;replace hx:=ax hx;replace hy:=ax hy;replace hn:=ax hn;(go_enter Tryz.func183,Tryz.ntmps183);(go_wp2_with fail);refine (c_spec_l8NoFact t _).mono ?_;rintro e w1 ⟨rfl,hB1⟩;rw[←hx.o];have hB:=bgo (w:=w) bel hB1;have K0:=(Blk.nz (g:=w.heap.size) (Blk.new w _ _) hB1);have q0:=K0.cell;have l0:=K0.lt;cases x
 ·(go_wp2_with fail);go_ret;exact ⟨zjD rfl,hB⟩
 (go_wp2_with fail);refine (c_spec_l8NoInv A1 A2 c1 c2 i _ h1 h2).mono ?_;rintro e w2 ⟨rfl,hB2⟩;rw[←hy.o];have hBB:=bgo hB hB2;have K1:=K0.nz hB2;clear q0 l0;have q0:=K1.cell;have l0:=K1.lt;cases y
 ·(go_wp2_with fail);go_ret;exact ⟨zjD rfl,hBB⟩
 by_cases z1:body.len=0
 case neg=>
  have z1':0<body.len:=by omega
  (go_wp2_with fail);go_ret;exact ⟨zjD rfl,hBB⟩
 by_cases z2:els.len=0
 case neg=>
  have z2':0<els.len:=by omega
  (go_wp2_with fail);go_ret;exact ⟨zjD rfl,hBB⟩
 exact absurd hn.o (by simp[z1,z2])
theorem c_spec_l8Basic_yes (k a b:Int) (t:Fct) (i:Asn) (A1 A2 A3 A4:Option Addr) (c1 c2 c3 c4:Nat) (body els:Cms) (w:World) (h1:i.facts.length≤1049600) (h2:i.atoms.length≤1049600) (hn:plainB t i body els=true) :
  Calls Tryz.prog 183 #[.agg #[.int .i64 k,.int .i64 a,.int .i64 b,.bool t.eq,.int .i64 t.a,.int .i64 t.b,.slice A1 i.facts.length c1,.slice A2 i.atoms.length c2,.slice A3 body.len c3,.slice A4 els.len c4]] w fun e w'=>e=.returned (.bool (fieldsB k a b))∧Below w.heap.size w w':=by
 have hn':noFct t=true∧noAsn i=true∧body.len=0∧els.len=0:=by simpa[plainB] using hn
 obtain ⟨e1,e2,e3,e4⟩:=hn';rw[e3,e4];clear hn e3 e4;replace e1:=ax e1;replace e2:=ax e2;obtain ⟨R,hR⟩:∃ R,R=fieldsB k a b:=⟨_,rfl⟩;rw[←hR];unfold fieldsB at hR;obtain ⟨pa,hpa⟩:∃ pa,pa=isProgB a:=⟨_,rfl⟩;obtain ⟨ta,hta⟩:∃ ta,ta=jq a:=⟨_,rfl⟩;obtain ⟨tb,htb⟩:∃ tb,tb=jq b:=⟨_,rfl⟩;rw[←hpa,←hta,←htb] at hR;replace hpa:=ax hpa;replace hta:=ax hta;replace htb:=ax htb;replace hR:=ax hR;(go_enter Tryz.func183,Tryz.ntmps183);(go_wp2_with fail);refine (c_spec_l8NoFact t _).mono ?_;rintro e w1 ⟨rfl,hB1⟩;rw[e1.o];have hB:=bgo (w:=w) bel hB1;have K0:=(Blk.nz (g:=w.heap.size) (Blk.new w _ _) hB1);have q0:=K0.cell;have l0:=K0.lt;(go_wp2_with fail);refine (c_spec_l8NoInv A1 A2 c1 c2 i _ h1 h2).mono ?_;rintro e w2 ⟨rfl,hB2⟩;rw[e2.o];have hBB:=bgo hB hB2;have K1:=K0.nz hB2;clear q0 l0;have q0:=K1.cell;have l0:=K1.lt;by_cases k1:k=1∨k=2
 ·have hR2:=ax (show R=(pa&&tb) from by rw[hR.o,if_pos k1]);clear hR;rcases k1 with rfl|rfl
  all_goals
   cases pa
   all_goals
    cases tb
    all_goals
     (go_wp2_with (first|(go_at_call 173;refine (c_spec_l8Prog a _).mono ?_;rintro e w' ⟨rfl,rfl⟩;rw[←hpa.o])|(go_at_call 174;refine (c_spec_l1Is b _).mono ?_;rintro e w' ⟨rfl,rfl⟩;rw[←htb.o])));go_ret;exact ⟨zjD (by rw[hR2.o];rfl),hBB⟩
 by_cases k3:k=3
 ·have hR2:=ax (show R=(ta&&tb) from by rw[hR.o,if_neg k1,if_pos k3]);clear hR;subst k3;clear k1;cases ta
  all_goals
   cases tb
   all_goals
    (go_wp2_with (first|(go_at_call 174;refine (c_spec_l1Is a _).mono ?_;rintro e w' ⟨rfl,rfl⟩;rw[←hta.o])|(go_at_call 174;refine (c_spec_l1Is b _).mono ?_;rintro e w' ⟨rfl,rfl⟩;rw[←htb.o])));go_ret;exact ⟨zjD (by rw[hR2.o];rfl),hBB⟩
 by_cases k4:k=4
 ·have hR2:=ax (show R=(pa&&decide (b=0)) from by rw[hR.o,if_neg k1,if_neg k3,if_pos k4]);clear hR;subst k4;clear k1 k3;cases pa
  all_goals
   by_cases b0:b=0
   all_goals
    have hb0:=ax b0;(go_wp2_with (go_at_call 173;refine (c_spec_l8Prog a _).mono ?_;rintro e w' ⟨rfl,rfl⟩;rw[←hpa.o]));go_ret;exact ⟨zjD (by rw[hR2.o];first|rfl|(simp_all)),hBB⟩
 by_cases k5:k=5
 ·have hR2:=ax (show R=(ta&&decide (b=0)) from by rw[hR.o,if_neg k1,if_neg k3,if_neg k4,if_pos k5]);clear hR;subst k5;clear k1 k3 k4;cases ta
  all_goals
   by_cases b0:b=0
   all_goals
    have hb0:=ax b0;(go_wp2_with (go_at_call 174;refine (c_spec_l1Is a _).mono ?_;rintro e w' ⟨rfl,rfl⟩;rw[←hta.o]));go_ret;exact ⟨zjD (by rw[hR2.o];first|rfl|(simp_all)),hBB⟩
 ·have hR2:=ax (show R=false from by rw[hR.o,if_neg k1,if_neg k3,if_neg k4,if_neg k5]);clear hR;have ka:k≠1:=fun e=>k1 (.inl e);have kb:k≠2:=fun e=>k1 (.inr e);clear k1;(go_wp2_with fail);go_ret;exact ⟨zjD (by rw[hR2.o]),hBB⟩
def fvalB (k a b:Int) (t:Fct) (i:Asn) (body els:Cms):Bool:=
 if k=6 then decide (a=0)&&(decide (b=0)&&(t.valid&&noAsn i))
 else if k=7 then decide (a=0)&&(decide (b=0)&&(t.valid&&(i.valid&&decide (els.len=0))))
 else plainB t i body els&&fieldsB k a b
def Cms.shape:Cms→Nat→Bool
 | .nil,_=>true
 | .cons k a b t i body els r,d=>decide (0<d)&&(fvalB k a b t i body els&&(body.shape (d - 1)&&(els.shape (d - 1)&&r.shape d)))
def Cms.count:Cms→Nat→Nat
 | .nil,_=>0
 | .cons _ _ _ _ _ body els r,d=>if 0<d then body.count (d - 1)+els.count (d - 1)+1+r.count d else 0
theorem Cms.count_shape:∀ {L:Cms} {d:Nat},L.shape d=true→L.count d=L.sz
 | .nil,_,_=>rfl
 | .cons k a b t i body els r,d,h=>by
  simp only[Cms.shape,Bool.and_eq_true,decide_eq_true_eq] at h;obtain ⟨h0,-,h1,h2,h3⟩:=h;simp only[Cms.count,Cms.sz,if_pos h0,Cms.count_shape h1,Cms.count_shape h2,Cms.count_shape h3];omega
theorem Cms.count_le:∀ (L:Cms) (d:Nat),L.count d≤L.sz
 | .nil,_=>Nat.le_refl _
 | .cons k a b t i body els r,d=>by
  simp only[Cms.count,Cms.sz];have h1:=Cms.count_le body (d - 1);have h2:=Cms.count_le els (d - 1);have h3:=Cms.count_le r d
  split<;>omega
theorem Cms.len_sz:∀ (L:Cms),L.len≤L.sz
 | .nil=>Nat.le_refl _
 | .cons k a b t i body els r=>by simp only[Cms.len,Cms.sz];have:=Cms.len_sz r;omega
theorem Cms.sz_cost:∀ (L:Cms),L.sz≤L.len+L.cost
 | .nil=>Nat.le_refl _
 | .cons k a b t i body els r=>by
  simp only[Cms.sz,Cms.len,Cms.cost];have h1:=Cms.sz_cost body;have h2:=Cms.sz_cost els;have h3:=Cms.sz_cost r;omega
def Cms.prog (L:Cms):Bool:=L.shape 4&&decide (L.sz≤16)
theorem fvalB_basic {k a b:Int} {t:Fct} {i:Asn} {body els:Cms} (h6:k≠6) (h7:k≠7):fvalB k a b t i body els=(plainB t i body els&&fieldsB k a b):=by
 unfold fvalB;rw[if_neg h6,if_neg h7]
theorem fieldsB_basic {k a b:Int} (h:fieldsB k a b=true):1≤k∧k≤5:=by
 unfold fieldsB at h
 split at h
 ·rename_i h1;rcases h1 with rfl|rfl<;>omega
 split at h
 ·omega
 split at h
 ·omega
 split at h
 ·omega
 ·cases h
theorem Cms.shape_drop:∀ (n:Nat) {L:Cms} {d:Nat},L.shape d=true→(L.drop n).shape d=true
 | 0,L,d,h=>h
 | n+1,.nil,d,h=>rfl
 | n+1,.cons k a b t i body els r,d,h=>by
  simp only[Cms.shape,Bool.and_eq_true] at h;exact Cms.shape_drop n h.2.2.2.2
def isMark (l m:Bs) (i:Nat):Bool:=decide ((l.drop i).take m.length=m)
def findM (l m:Bs):Option Nat:=(List.range (l.length+1 - m.length)).find? (isMark l m)
def splitM (l m:Bs):Bs×Bs×Bool:=match findM l m with
 | some i=>(l.take i,l.drop (i+m.length),true)
 | none=>(l,[],false)
theorem findM_some {l m:Bs} {k:Nat} (hk:k+m.length≤l.length) (h:isMark l m k=true) (hn:∀ j,j<k→isMark l m j=false):findM l m=some k:=by
 unfold findM;rw[List.find?_range_eq_some];exact ⟨h,by simp;omega,fun j hj=>by simp[hn j hj]⟩
theorem findM_none {l m:Bs} (hn:∀ j,j+m.length≤l.length→isMark l m j=false):findM l m=none:=by
 unfold findM;rw[List.find?_eq_none];intro j hj;simp only[List.mem_range] at hj;simp[hn j (by omega)]
theorem splitM_len (l m:Bs):(splitM l m).1.length≤l.length∧(splitM l m).2.1.length≤l.length:=by
 unfold splitM;split<;>simp<;>omega
def bareL (l:Bs):Bs×Bool:=if l.length<2∨l.head?≠some 91∨l.getLast?≠some 93 then (l,false) else ((l.drop 1).take (l.length - 2),true)
structure Hd where
 k:Int
 a:Int
 b:Int
 t:Fct
 i:Asn
def pT (l:Bs):Int:=((parseT l).getD 0:Nat)
def fctZ:Fct:=⟨false,0,0⟩
def pF (l:Bs):Fct:=(parseF l).getD fctZ
def pA (l:Bs):Asn:=(parseA l).getD ⟨[],[]⟩
def asgnPF (x y:Bs):Hd:=⟨if (bareL y).2 then 2 else if (bareL x).2 then 3 else 1,pT (bareL x).1,pT (bareL y).1,fctZ,⟨[],[]⟩⟩
def wordF (word rest:Bs):Hd:=
 if word=[110,101,119] then ⟨4,pT rest,0,fctZ,⟨[],[]⟩⟩
 else if word=[102,114,101,101] then ⟨5,pT rest,0,fctZ,⟨[],[]⟩⟩
 else if word=[105,102] then ⟨6,0,0,pF rest,⟨[],[]⟩⟩
 else ⟨7,0,0,pF (splitM rest [32,119,105,116,104,32]).1,pA (splitM rest [32,119,105,116,104,32]).2.1⟩
def headF (l:Bs):Hd:=if (splitM l [58,61]).2.2 then asgnPF (splitM l [58,61]).1 (splitM l [58,61]).2.1 else wordF (splitM l [32]).1 (splitM l [32]).2.1
abbrev endL:Bs:=[101,110,100]
abbrev elseL:Bs:=[101,108,115,101]
def Cms.one1 (h:Hd) (body els r:Cms):Cms:=.cons h.k h.a h.b h.t h.i body els r
def blkF (ls:List Bs):Nat→Nat→Nat→Cms×Option Nat
 | 0,p,_=>(.nil,some p)
 | n+1,p,d=>
  if p+1<ls.length∧ls.getD p []≠endL∧ls.getD p []≠elseL then
   if (headF (ls.getD p [])).k=6∨(headF (ls.getD p [])).k=7 then
    if d<1 then (.nil,none)
    else match blkF ls n (p+1) (d - 1) with
     | (body,none)=>(.one1 (headF (ls.getD p [])) body .nil .nil,none)
     | (body,some m)=>
      if m<ls.length∧ls.getD m []=elseL then
       match blkF ls n (m+1) (d - 1) with
       | (els,none)=>(.one1 (headF (ls.getD p [])) body els .nil,none)
       | (els,some q)=>(.one1 (headF (ls.getD p [])) body els (blkF ls n (q+1) d).1,(blkF ls n (q+1) d).2)
      else (.one1 (headF (ls.getD p [])) body .nil (blkF ls n (m+1) d).1,(blkF ls n (m+1) d).2)
   else (.one1 (headF (ls.getD p [])) .nil .nil (blkF ls n (p+1) d).1,(blkF ls n (p+1) d).2)
  else (.nil,some p)
theorem blkF_le (ls:List Bs):∀ (n p d:Nat) {m:Nat},(blkF ls n p d).2=some m→p≤m∧m≤max p (ls.length+d)
 | 0,p,d,m,h=>by simp[blkF] at h;omega
 | n+1,p,d,m,h=>by
  unfold blkF at h
  split at h
  ·rename_i hc
   split at h
   ·split at h
    ·cases h
    ·split at h
     ·cases h
     ·rename_i body q hq;have h1:=blkF_le ls n (p+1) (d - 1) (by rw[hq])
      split at h
      ·rename_i hm
       split at h
       ·cases h
       ·rename_i els r hr;have h2:=blkF_le ls n (q+1) (d - 1) (by rw[hr]);have h3:=blkF_le ls n (r+1) d h;omega
      ·have h3:=blkF_le ls n (q+1) d h;omega
   ·have h1:=blkF_le ls n (p+1) d h;omega
  ·injection h with h;omega
def lineL (k a b:Int) (t:Fct) (i:Asn):Bs:=
 if k=1 then tnameL a++[58,61]++tnameL b
 else if k=2 then tnameL a++[58,61,91]++tnameL b++[93]
 else if k=3 then [91]++tnameL a++[93,58,61]++tnameL b
 else if k=4 then [110,101,119,32]++tnameL a
 else if k=5 then [102,114,101,101,32]++tnameL a
 else if k=6 then [105,102,32]++fmtF t
 else [119,104,105,108,101,32]++fmtF t++[32,119,105,116,104,32]++textA i
def textL:Cms→Bs
 | .nil=>[]
 | .cons k a b t i body els r=>lineL k a b t i++[10]++textL body++(if 0<els.len then [101,108,115,101,10]++textL els else [])++(if k=6∨k=7 then [101,110,100,10] else [])++textL r
def fmtP (L:Cms):Bs:=if L.prog then textL L else []
def readP (l:Bs):Cms:=(blkF (splitL 10 l) ((splitL 10 l).length+1) 0 4).1
def parsesP (l:Bs):Bool:=decide (l.length≤4000)&&(decide (fmtP (readP l)=l)&&(readP l).prog)
def parseP (l:Bs):Cms:=if parsesP l then readP l else .nil
theorem lineL_len {k a b:Int} {t:Fct} {i:Asn} (h1:i.facts.length≤12) (h2:i.atoms.length≤6):(lineL k a b t i).length≤230:=by
 have ha:=tnameL_len a;have hb:=tnameL_len b;have ht:=fmtF_len t;have hi:=textA_len i;unfold lineL
 repeat' split
 all_goals simp only[List.length_append,List.length_cons,List.length_nil];omega
theorem Asn.valid_len {i:Asn} (h:i.valid=true):i.facts.length≤12∧i.atoms.length≤6:=by
 simp only[Asn.valid,factsValid,Bool.and_eq_true,decide_eq_true_eq] at h;exact ⟨h.1.1,h.2.1⟩
theorem fval_inv {k a b:Int} {t:Fct} {i:Asn} {body els:Cms} (h:fvalB k a b t i body els=true):i.facts.length≤12∧i.atoms.length≤6:=by
 unfold fvalB at h
 split at h
 ·simp only[Bool.and_eq_true,noAsn,decide_eq_true_eq] at h;have:=h.2.2.2;omega
 split at h
 ·simp only[Bool.and_eq_true] at h;exact Asn.valid_len h.2.2.2.1
 ·simp only[plainB,Bool.and_eq_true,noAsn,decide_eq_true_eq] at h;have:=h.1.2.1;omega
theorem textL_len:∀ {L:Cms} {d:Nat},L.shape d=true→(textL L).length≤L.sz * 250
 | .nil,_,_=>by simp[textL,Cms.sz]
 | .cons k a b t i body els r,d,h=>by
  simp only[Cms.shape,Bool.and_eq_true] at h;have h1:=textL_len h.2.2.1;have h2:=textL_len h.2.2.2.1;have h3:=textL_len h.2.2.2.2;have h4:=fval_inv h.2.1;have h5:=lineL_len (k:=k) (a:=a) (b:=b) (t:=t) h4.1 h4.2
  have h6:(if 0<els.len then ([101,108,115,101,10]:Bs)++textL els else []).length≤5+els.sz * 250:=by
   split
   ·simp only[List.length_append,List.length_cons,List.length_nil];omega
   ·simp
  have h7:(if k=6∨k=7 then ([101,110,100,10]:Bs) else []).length≤4:=by split<;>simp
  simp only[textL,List.length_append,List.length_cons,List.length_nil,Cms.sz];omega
theorem prog_shape {L:Cms} (h:L.prog=true):L.shape 4=true∧L.sz≤16:=by
 unfold Cms.prog at h;simpa only[Bool.and_eq_true,decide_eq_true_eq] using h
theorem sliceLH (l:Bs) (i j:Nat) (ii jj:Int) (hi:ii=i) (hj:jj=j) (hij:i≤j) (hjl:j≤l.length) (w:World):(Instr.slice 9 (sv l) (some (.int .i64 ii)) (some (.int .i64 jj)) none).run Tryz.prog w=.ok (sv ((l.drop i).take (j - i))) w:=by
 subst hi hj;rw[run_slice_string w 9 _ .i64 .i64 _ _ Tryz.underlying9 (by omega) (by omega) (by simp[ByteArray.size];omega)];simp only[Int.toNat_natCast,bext]
theorem sliceH (l:Bs) (j:Nat) (jj:Int) (hj:jj=j) (hjl:j≤l.length) (w:World):(Instr.slice 9 (sv l) none (some (.int .i64 jj)) none).run Tryz.prog w=.ok (sv (l.take j)) w:=by
 subst hj;rw[run_slice_string_h w 9 _ Tryz.underlying9 .i64 _ (by omega) (by simp[ByteArray.size];omega)];simp only[Int.toNat_natCast,bext,List.drop_zero,Nat.sub_zero]
theorem sliceL (l:Bs) (i:Nat) (ii:Int) (hi:ii=i) (hil:i≤l.length) (w:World):(Instr.slice 9 (sv l) (some (.int .i64 ii)) none none).run Tryz.prog w=.ok (sv (l.drop i)) w:=by
 subst hi;rw[run_slice_string_l w 9 _ Tryz.underlying9 .i64 _ (by omega) (by simp[ByteArray.size];omega)];simp only[Int.toNat_natCast,bext];rw[List.take_of_length_le (by simp[ByteArray.size])]
theorem c_l8Split (l m:Bs) (w:World) (hl:l.length≤2000000) (hm:m.length≤100):Calls Tryz.prog 278 #[sv l,sv m] w fun e w'=>e=.returned (.tuple #[sv (splitM l m).1,sv (splitM l m).2.1,.bool (splitM l m).2.2])∧Below w.heap.size w w':=by
 (go_enter Tryz.func278,Tryz.ntmps278);(go_wp2_with fail)
 go_loopw [7] (fun i wr=>∃ k:Nat,k≤l.length+1∧i=.int .i64 k∧aJ (∀ j:Nat,j<k→isMark l m j=false)∧wr=w) (fun i _=>l.length+2 - (intOf i).toNat)
 case atStart=>exact ⟨0,by omega,rfl,ax fun j h=>by omega,rfl⟩
 case round=>
  obtain ⟨k,hk,rfl,HN,rfl⟩:=hrel;by_cases hle:k+m.length≤l.length
  ·have hki:(k:Int)+(m.length:Int)≤(l.length:Int):=by omega
   cases he:isMark l m k
   ·obtain ⟨z,hz⟩:∃ z,z=(l.drop k).take m.length:=⟨_,rfl⟩;have hsl:=fun W:World=>sliceLH l k (k+m.length) (k:Int) ((k:Int)+(m.length:Int)) rfl (by omega) (by omega) hle W;rw[Nat.add_sub_cancel_left,←hz] at hsl
    have hzm:(z == m)=false:=by
     unfold isMark at he;rw[bytes_eq,hz];exact he
    have HM:aJ (∀ j:Nat,j<k+1→isMark l m j=false):=ax fun j hj=>by
     by_cases e:j=k
     ·subst e;exact he
     ·exact HN.o j (by omega)
    clear he hz;(go_wp2_with fail)
    go_round
    case rel=>exact ⟨k+1,by omega,by go_num,HM,by first|rfl|trivial⟩
    case measure=>simp[intOf];omega
   ·have hsl:=fun W:World=>sliceLH l k (k+m.length) (k:Int) ((k:Int)+(m.length:Int)) rfl (by omega) (by omega) hle W;rw[Nat.add_sub_cancel_left,show (l.drop k).take m.length=m from of_decide_eq_true he] at hsl;have hs2:=fun W:World=>sliceH l k (k:Int) rfl (by omega) W;have hs3:=fun W:World=>sliceL l (k+m.length) ((k:Int)+(m.length:Int)) (by omega) (by omega) W;have HR:=ax (findM_some hle he HN.o);have hS:aJ (splitM l m=(l.take k,l.drop (k+m.length),true)):=ax (by unfold splitM;rw[HR.o]);clear he HR;(go_wp2_with fail);(go_quiet (fail));(go_wp2_with fail);refine bodyPost_ret (v:=.tuple #[sv (l.take k),sv (l.drop (k+m.length)),.bool true]) (by simp[results,Tryz.results278,go_sem]) rfl ⟨by rw[hS.o],bel⟩
  ·have hki:¬(k:Int)+(m.length:Int)≤(l.length:Int):=by omega
   have hS:aJ (splitM l m=(l,[],false)):=ax (by unfold splitM;rw[findM_none (fun j hj=>HN.o j (by omega))]);(go_wp2_with fail);refine bodyPost_ret (v:=.tuple #[sv l,sv [],.bool false]) (by simp[results,Tryz.results278,go_sem]) rfl ⟨by rw[hS.o],bel⟩
theorem bare_no {l:Bs} (h:l.length<2∨l.head?≠some 91∨l.getLast?≠some 93):bareL l=(l,false):=by unfold bareL;rw[if_pos h]
theorem bare_yes {l:Bs} (h:2≤l.length) (h1:l[0]'(by omega)=91) (h2:l[l.length - 1]'(by omega)=93):bareL l=((l.drop 1).take (l.length - 2),true):=by
 unfold bareL;rw[if_neg];rintro (h3|h3|h3)
 ·omega
 ·exact h3 (by rw[List.head?_eq_getElem?,List.getElem?_eq_getElem (by omega),h1])
 ·exact h3 (by rw[List.getLast?_eq_getElem?,List.getElem?_eq_getElem (by omega),h2])
theorem c_l8Bare (l:Bs) (w:World) (hl:l.length≤2000000):Calls Tryz.prog 297 #[sv l] w fun e w'=>e=.returned (.tuple #[sv (bareL l).1,.bool (bareL l).2])∧Below w.heap.size w w':=by
 by_cases h2:l.length<2
 ·have h2i:(l.length:Int)<2:=by omega
  have hR:=ax (bare_no (Or.inl h2));clear h2;(go_enter Tryz.func297,Tryz.ntmps297);(go_wp2_with fail);refine bodyPost_ret (v:=.tuple #[sv l,.bool false]) (by simp[results,Tryz.results297,go_sem]) rfl ⟨by rw[hR.o],bel⟩
 ·have h2i:¬(l.length:Int)<2:=by omega
  have h0i:(0:Int)<(l.length:Int):=by omega
  obtain ⟨n,hn⟩:∃ n,n+1=l.length:=⟨l.length - 1,by omega⟩;have hni:(l.length:Int) - 1=(n:Int):=by omega
  have hnl:(n:Int)<(l.length:Int):=by omega
  have hx:=bidx l 0 (by omega);have hy:=bidx l n (by omega);by_cases ha:l[0]'(by omega)=91
  ·by_cases hb:l[n]'(by omega)=93
   ·have hR:=ax (bare_yes (by omega) ha (by simpa[←hn] using hb));rw[ha] at hx;rw[hb] at hy;have h1n:(1:Int)≤(n:Int):=by omega
    have hnn:(n:Int)≤(l.length:Int):=by omega
    have hsl:=fun W:World=>sliceLH l 1 n 1 (n:Int) rfl rfl (by omega) (by omega) W;rw[show n - 1=l.length - 2 by omega] at hsl;clear ha hb;(go_enter Tryz.func297,Tryz.ntmps297);(go_wp2_with fail);refine bodyPost_ret (v:=.tuple #[sv ((l.drop 1).take (l.length - 2)),.bool true]) (by simp[results,Tryz.results297,go_sem]) rfl ⟨by rw[hR.o],bel⟩
   ·have hR:=ax (bare_no (l:=l) (Or.inr (Or.inr (by rw[List.getLast?_eq_getElem?,←hn,Nat.add_sub_cancel,List.getElem?_eq_getElem (by omega)];simpa using hb))));rw[ha] at hx;obtain ⟨c,hc⟩:∃ c,c=l[n]'(by omega):=⟨_,rfl⟩;rw[←hc] at hy hb;have hb1:((c.toNat:Int) == 93)=false:=by rw[show (93:Int)=((93:Nat):Int) from rfl,u8_eq c 93 (by decide)];simpa using hb
    have hb2:¬((c.toNat:Int)=93):=by simpa using hb1
    clear hc hb ha;(go_enter Tryz.func297,Tryz.ntmps297);(go_wp2_with fail);refine bodyPost_ret (v:=.tuple #[sv l,.bool false]) (by simp[results,Tryz.results297,go_sem]) rfl ⟨by rw[hR.o],bel⟩
  ·have hR:=ax (bare_no (l:=l) (Or.inr (Or.inl (by rw[List.head?_eq_getElem?,List.getElem?_eq_getElem (by omega)];simpa using ha))));obtain ⟨c,hc⟩:∃ c,c=l[0]'(by omega):=⟨_,rfl⟩;rw[←hc] at hx ha;have hb1:((c.toNat:Int) == 91)=false:=by rw[show (91:Int)=((91:Nat):Int) from rfl,u8_eq c 91 (by decide)];simpa using ha
   have hb2:¬((c.toNat:Int)=91):=by simpa using hb1
   clear hc ha;(go_enter Tryz.func297,Tryz.ntmps297);(go_wp2_with fail);refine bodyPost_ret (v:=.tuple #[sv l,.bool false]) (by simp[results,Tryz.results297,go_sem]) rfl ⟨by rw[hR.o],bel⟩
theorem c_spec_l8Basic (k a b:Int) (t:Fct) (i:Asn) (A1 A2 A3 A4:Option Addr) (c1 c2 c3 c4:Nat) (body els:Cms) (w:World) (h1:i.facts.length≤1049600) (h2:i.atoms.length≤1049600) (h3:body.len≤1049600) (h4:els.len≤1049600) :
  Calls Tryz.prog 183 #[.agg #[.int .i64 k,.int .i64 a,.int .i64 b,.bool t.eq,.int .i64 t.a,.int .i64 t.b,.slice A1 i.facts.length c1,.slice A2 i.atoms.length c2,.slice A3 body.len c3,.slice A4 els.len c4]] w fun e w'=>e=.returned (.bool (plainB t i body els&&fieldsB k a b))∧Below w.heap.size w w':=by
 cases hn:plainB t i body els
 ·exact c_spec_l8Basic_no k a b t i A1 A2 A3 A4 c1 c2 c3 c4 body els w h1 h2 h3 h4 hn
 ·exact c_spec_l8Basic_yes k a b t i A1 A2 A3 A4 c1 c2 c3 c4 body els w h1 h2 hn
theorem and4 {R F x y z:Bool} (h:R=(F&&(x&&(y&&z)))):(F=false→R=false)∧(x=false→R=false)∧(y=false→R=false)∧(F=true→x=true→y=true→R=z):=by
 subst h;cases F<;>cases x<;>cases y<;>simp
theorem l8Shape_go:∀ (N:Nat) (L:Cms),L.sz<N→∀ (A:Option Addr) (c d lo hi:Nat) (w:World),CmsV w lo hi A L→L.len≤1049600→L.small 1049600→d≤4→
  Calls Tryz.prog 128 #[.slice A L.len c,.int .i64 d] w fun e w'=>e=.returned (.bool (L.shape d))∧Below w.heap.size w w':=by
 intro N
 induction N with
 | zero=>intro L h;omega
 | succ N IH=>
  intro L hsz A c d lo hi w hV hlen hsm hd;replace IH:=ax IH;replace hV:=ax hV;replace hsm:=ax hsm;replace hsz:=ax hsz;obtain ⟨n,hn⟩:∃ n,n=L.len:=⟨_,rfl⟩;obtain ⟨R,hR⟩:∃ R,R=L.shape d:=⟨_,rfl⟩;rw[←hn,←hR];rw[←hn] at hlen;replace hn:=ax hn;replace hR:=ax hR;rcases Nat.eq_zero_or_pos d with rfl|hd0
  ·by_cases q1:0<n
   ·(go_enter Tryz.func128,Tryz.ntmps128);(go_wp2_with fail);go_ret;refine ⟨zjD ?_,bel⟩;rw[hR.o];obtain ⟨k,a,b,t,i,body,els,r,eL⟩:=Cms.cons_of_len (L:=L) (by rw[←hn.o];exact q1);rw[eL];rfl
   ·obtain rfl:n=0:=by omega
    have e0:R=true:=by
     rw[hR.o]
     have e1:L=.nil:=by
      have:=hn.o
      cases L with
      | nil=>rfl
      | cons=>simp[Cms.len] at this
     rw[e1];rfl
    replace e0:=ax e0;(go_enter Tryz.func128,Tryz.ntmps128);(go_wp2_with fail)
    go_loopw [5] (fun x wr=>x=.int .i64 0∧Below w.heap.size w wr) (fun _ _=>0)
    case atStart=>exact ⟨rfl,bel⟩
    case round=>
     obtain ⟨rfl,hB⟩:=hrel;(go_wp2_with fail);go_ret;exact ⟨zjD e0.o.symm,hB⟩
  obtain ⟨d,rfl⟩:∃ e,d=e+1:=⟨d - 1,by omega⟩;clear hd0;(go_enter Tryz.func128,Tryz.ntmps128);(go_wp2_with fail)
  go_loopw [5] (fun x wr=>∃ j:Nat,j≤n∧x=.int .i64 j∧aJ (R=(L.drop j).shape (d+1))∧Below w.heap.size w wr) (fun x _=>n - (intOf x).toNat)
  case atStart=>exact ⟨0,Nat.zero_le _,rfl,hR,bel⟩
  case round=>
   obtain ⟨j,hj,rfl,HR,hB⟩:=hrel;by_cases hlt:j<n
   ·have hpos:0<(L.drop j).len:=by rw[Cms.drop_len,←hn.o];omega
    obtain ⟨k,a,b,t,i,body,els,r,eL⟩:=Cms.cons_of_len hpos;obtain ⟨bl,o,rfl,-,-,hAt⟩:=(hV.o.bz hB) (by rw[←hn.o];omega);have hD:=hAt.drop j;have hS:=Cms.small_drop j hsm.o;have hZ:=Cms.sz_drop j L;have hDs:=Cms.drop_succ j L eL;have HR':=HR.o;rw[eL] at hD hS hZ HR';obtain ⟨⟨p0,p1,p2,p3,p4,p5⟩,⟨A6,c6,p6,g6⟩,⟨A7,c7,p7,g7⟩,⟨A8,c8,p8,g8⟩,⟨A9,c9,p9,g9⟩,-⟩:=hD;obtain ⟨s1,s2,s3,s4,s5,s6,-⟩:=hS;simp only[Cms.sz] at hZ;have hbs:body.sz<N:=by have:=hsz.o;omega
    have hes:els.sz<N:=by have:=hsz.o;omega
    have gA:aJ (AsnV wr lo hi (.agg #[.slice A6 i.facts.length c6,.slice A7 i.atoms.length c7]) i):=⟨_,_,_,_,rfl,⟨g6,s1⟩,⟨g7,s2⟩⟩;have gB:aJ (CmsV wr lo hi A8 body):=g8;have gE:aJ (CmsV wr lo hi A9 els):=g9;rw[Cms.shape,decide_eq_true (by omega),Bool.true_and,Nat.add_sub_cancel,←hDs] at HR';obtain ⟨F,hF⟩:∃ F,F=fvalB k a b t i body els:=⟨_,rfl⟩;obtain ⟨x1,hx1⟩:∃ x,x=body.shape d:=⟨_,rfl⟩;obtain ⟨x2,hx2⟩:∃ x,x=els.shape d:=⟨_,rfl⟩;rw[←hF,←hx1,←hx2] at HR';obtain ⟨z1,z2,z3,z4⟩:=and4 HR';replace z1:=ax z1;replace z2:=ax z2;replace z3:=ax z3;replace z4:=ax z4;replace hF:=ax hF;replace hx1:=ax hx1;replace hx2:=ax hx2;replace hbs:=ax hbs;replace hes:=ax hes;replace s5:=ax s5;replace s6:=ax s6;obtain ⟨tv,htv⟩:∃ x,x=t.valid:=⟨_,rfl⟩;obtain ⟨ni,hni⟩:∃ x,x=noAsn i:=⟨_,rfl⟩;obtain ⟨iv,hiv⟩:∃ x,x=i.valid:=⟨_,rfl⟩;obtain ⟨pf,hpf⟩:∃ x,x=(plainB t i body els&&fieldsB k a b):=⟨_,rfl⟩;replace htv:=ax htv;replace hni:=ax hni;replace hiv:=ax hiv;replace hpf:=ax hpf;clear hZ hpos hAt g6 g7 g8 g9 HR HR' hDs eL;by_cases k6:k=6
    ·subst k6;by_cases a0:a=0
     case neg=>
      (go_wp2_with fail);go_ret;exact ⟨zjD (z1.o (hF.o.trans (by unfold fvalB;rw[if_pos rfl];simp[a0]))).symm,(bbox hB _)⟩
     subst a0;by_cases b0:b=0
     case neg=>
      (go_wp2_with fail);go_ret;exact ⟨zjD (z1.o (hF.o.trans (by unfold fvalB;rw[if_pos rfl];simp[b0]))).symm,(bbox hB _)⟩
     subst b0;(go_wp2_with fail);refine (c_spec_FactValid t _).mono ?_;rintro e w1 ⟨rfl,hBx⟩;rw[←htv.o];have hB2:Below w.heap.size w w1:=bgo (bbox hB _) hBx;have k0:Blk w1 wr.heap.size tC #[.int .i64 6,.int .i64 0,.int .i64 0,.bool t.eq,.int .i64 t.a,.int .i64 t.b,.slice A6 i.facts.length c6,.slice A7 i.atoms.length c7,.slice A8 body.len c8,.slice A9 els.len c9]:=Blk.nz blks hBx;have q0:=k0.cell;have l0:=k0.lt;have hW:Below wr.heap.size wr w1:=bgo (bbox (Below.refl _ _) _) hBx;clear hBx;cases tv
     case false=>
      (go_wp2_with fail);go_ret;exact ⟨zjD (z1.o (hF.o.trans (by unfold fvalB;rw[if_pos rfl];simp[←htv.o]))).symm,hB2⟩
     (go_wp2_with fail);refine (c_spec_l8NoInv A6 A7 c6 c7 i _ s1 s2).mono ?_;rintro e w2 ⟨rfl,hBx⟩;rw[←hni.o];replace hB2:=bgo hB2 hBx;replace k0:=k0.nz hBx;replace q0:=k0.cell;replace l0:=k0.lt;replace hW:=bgo hW hBx;clear hBx;cases ni
     case false=>
      (go_wp2_with fail);go_ret;exact ⟨zjD (z1.o (hF.o.trans (by unfold fvalB;rw[if_pos rfl];simp[←hni.o]))).symm,hB2⟩
     have HFt:=ax (show F=true from hF.o.trans (by unfold fvalB;rw[if_pos rfl];simp[←hni.o,←htv.o]));(go_wp2_with fail);refine (IH.o body hbs.o A8 c8 d lo hi _ (gB.o.bz hW) s3 s5.o (by omega)).mono ?_;rintro e w8 ⟨rfl,hBx⟩;rw[←hx1.o];replace hB2:=bgo hB2 hBx;replace k0:=k0.nz hBx;replace q0:=k0.cell;replace l0:=k0.lt;replace hW:=bgo hW hBx;clear hBx;cases x1
     ·(go_wp2_with fail);go_ret;exact ⟨zjD (z2.o (by simp)).symm,hB2⟩
     (go_wp2_with fail);refine (IH.o els hes.o A9 c9 d lo hi _ (gE.o.bz hW) s4 s6.o (by omega)).mono ?_;rintro e w9 ⟨rfl,hBx⟩;rw[←hx2.o];replace hB2:=bgo hB2 hBx;replace k0:=k0.nz hBx;replace q0:=k0.cell;replace l0:=k0.lt;clear hBx hW;cases x2
     ·(go_wp2_with fail);go_ret;exact ⟨zjD (z3.o (by simp)).symm,hB2⟩
     go_wp2_with fail
     go_round
     case rel=>exact ⟨j+1,by omega,by go_num,ax (z4.o HFt.o (by simp) (by simp)),hB2⟩
     case measure=>simp[intOf];omega
    by_cases k7:k=7
    ·subst k7;by_cases a0:a=0
     case neg=>
      (go_wp2_with fail);go_ret;exact ⟨zjD (z1.o (hF.o.trans (by unfold fvalB;rw[if_neg (by decide),if_pos rfl];simp[a0]))).symm,(bbox hB _)⟩
     subst a0;by_cases b0:b=0
     case neg=>
      (go_wp2_with fail);go_ret;exact ⟨zjD (z1.o (hF.o.trans (by unfold fvalB;rw[if_neg (by decide),if_pos rfl];simp[b0]))).symm,(bbox hB _)⟩
     subst b0;(go_wp2_with fail);refine (c_spec_FactValid t _).mono ?_;rintro e w4 ⟨rfl,hBx⟩;rw[←htv.o];have hB2:Below w.heap.size w w4:=bgo (bbox hB _) hBx;have k0:Blk w4 wr.heap.size tC #[.int .i64 7,.int .i64 0,.int .i64 0,.bool t.eq,.int .i64 t.a,.int .i64 t.b,.slice A6 i.facts.length c6,.slice A7 i.atoms.length c7,.slice A8 body.len c8,.slice A9 els.len c9]:=Blk.nz blks hBx;have q0:=k0.cell;have l0:=k0.lt;have hW:Below wr.heap.size wr w4:=bgo (bbox (Below.refl _ _) _) hBx;clear hBx;cases tv
     case false=>
      (go_wp2_with fail);go_ret;exact ⟨zjD (z1.o (hF.o.trans (by unfold fvalB;rw[if_neg (by decide),if_pos rfl];simp[←htv.o]))).symm,hB2⟩
     (go_wp2_with fail);refine (vz _ i _ (gA.o.bz hW)).mono ?_;rintro e w5 ⟨rfl,hBx⟩;rw[←hiv.o];replace hB2:=bgo hB2 hBx;replace k0:=k0.nz hBx;replace q0:=k0.cell;replace l0:=k0.lt;replace hW:=bgo hW hBx;clear hBx;cases iv
     case false=>
      (go_wp2_with fail);go_ret;exact ⟨zjD (z1.o (hF.o.trans (by unfold fvalB;rw[if_neg (by decide),if_pos rfl];simp[←hiv.o]))).symm,hB2⟩
     by_cases e0:els.len=0
     case neg=>
      have e1:0<els.len:=by omega
      (go_wp2_with fail);go_ret;exact ⟨zjD (z1.o (hF.o.trans (by unfold fvalB;rw[if_neg (by decide),if_pos rfl];simp[e0]))).symm,hB2⟩
     have HFt0:=ax (show F=true from hF.o.trans (by unfold fvalB;rw[if_neg (by decide),if_pos rfl];simp[←hiv.o,←htv.o,e0]));have HI2:aJ (∀ (w:World),CmsV w lo hi A9 els→Calls Tryz.prog 128 #[.slice A9 0 c9,.int .i64 d] w fun e w'=>e=.returned (.bool (els.shape d))∧Below w.heap.size w w'):=fun w h=>by have h2:=IH.o els hes.o A9 c9 d lo hi w h s4 s6.o (by omega);rwa [e0] at h2
     rw[e0] at k0 q0;have He0:=ax e0;clear e0;have HFt:=ax (HFt0.o);(go_wp2_with fail);refine (IH.o body hbs.o A8 c8 d lo hi _ (gB.o.bz hW) s3 s5.o (by omega)).mono ?_;rintro e w8 ⟨rfl,hBx⟩;rw[←hx1.o];replace hB2:=bgo hB2 hBx;replace k0:=k0.nz hBx;replace q0:=k0.cell;replace l0:=k0.lt;replace hW:=bgo hW hBx;clear hBx;cases x1
     ·(go_wp2_with fail);go_ret;exact ⟨zjD (z2.o (by simp)).symm,hB2⟩
     (go_wp2_with fail);refine (HI2.o _ (gE.o.bz hW)).mono ?_;rintro e w9 ⟨rfl,hBx⟩;rw[←hx2.o];replace hB2:=bgo hB2 hBx;replace k0:=k0.nz hBx;replace q0:=k0.cell;replace l0:=k0.lt;clear hBx hW;cases x2
     ·(go_wp2_with fail);go_ret;exact ⟨zjD (z3.o (by simp)).symm,hB2⟩
     go_wp2_with fail
     go_round
     case rel=>exact ⟨j+1,by omega,by go_num,ax (z4.o HFt.o (by simp) (by simp)),hB2⟩
     case measure=>simp[intOf];omega
    have HFb:=ax (hF.o.trans ((fvalB_basic k6 k7).trans hpf.o.symm));(go_wp2_with fail);refine (c_spec_l8Basic k a b t i A6 A7 A8 A9 c6 c7 c8 c9 body els _ s1 s2 s3 s4).mono ?_;rintro e w7 ⟨rfl,hBx⟩;rw[←hpf.o];have hB2:Below w.heap.size w w7:=bgo (bbox hB _) hBx;have k0:Blk w7 wr.heap.size tC #[.int .i64 k,.int .i64 a,.int .i64 b,.bool t.eq,.int .i64 t.a,.int .i64 t.b,.slice A6 i.facts.length c6,.slice A7 i.atoms.length c7,.slice A8 body.len c8,.slice A9 els.len c9]:=Blk.nz blks hBx;have q0:=k0.cell;have l0:=k0.lt;have hW:Below wr.heap.size wr w7:=bgo (bbox (Below.refl _ _) _) hBx;clear hBx;cases pf
    case false=>
     (go_wp2_with fail);go_ret;exact ⟨zjD (z1.o HFb.o).symm,hB2⟩
    have HFt:=ax (HFb.o);(go_wp2_with fail);refine (IH.o body hbs.o A8 c8 d lo hi _ (gB.o.bz hW) s3 s5.o (by omega)).mono ?_;rintro e w8 ⟨rfl,hBx⟩;rw[←hx1.o];replace hB2:=bgo hB2 hBx;replace k0:=k0.nz hBx;replace q0:=k0.cell;replace l0:=k0.lt;replace hW:=bgo hW hBx;clear hBx;cases x1
    ·(go_wp2_with fail);go_ret;exact ⟨zjD (z2.o (by simp)).symm,hB2⟩
    (go_wp2_with fail);refine (IH.o els hes.o A9 c9 d lo hi _ (gE.o.bz hW) s4 s6.o (by omega)).mono ?_;rintro e w9 ⟨rfl,hBx⟩;rw[←hx2.o];replace hB2:=bgo hB2 hBx;replace k0:=k0.nz hBx;replace q0:=k0.cell;replace l0:=k0.lt;clear hBx hW;cases x2
    ·(go_wp2_with fail);go_ret;exact ⟨zjD (z3.o (by simp)).symm,hB2⟩
    go_wp2_with fail
    go_round
    case rel=>exact ⟨j+1,by omega,by go_num,ax (z4.o HFt.o (by simp) (by simp)),hB2⟩
    case measure=>simp[intOf];omega
   ·(go_wp2_with fail);go_ret;obtain rfl:j=n:=by omega
    have e1:L.drop j=.nil:=by rw[hn.o];exact Cms.drop_all L
    have h2:=HR.o;rw[e1] at h2;exact ⟨zjD h2.symm,hB⟩
theorem l8Count_go:∀ (N:Nat) (L:Cms),L.sz<N→∀ (A:Option Addr) (c d lo hi:Nat) (D:Int) (w:World),D=d→CmsV w lo hi A L→L.len≤1049600→L.small 1049600→L.sz≤4200000→d≤4→
  Calls Tryz.prog 129 #[.slice A L.len c,.int .i64 D] w fun e w'=>e=.returned (.int .i64 (L.count d))∧Below w.heap.size w w':=by
 intro N
 induction N with
 | zero=>intro L h;omega
 | succ N IH=>
  intro L hsz A c d lo hi D w hD hV hlen hsm hcz hd;replace IH:=ax IH;replace hV:=ax hV;replace hsm:=ax hsm;replace hsz:=ax hsz;replace hcz:=ax hcz;obtain ⟨n,hn⟩:∃ n,n=L.len:=⟨_,rfl⟩;obtain ⟨R,hR⟩:∃ R,R=L.count d:=⟨_,rfl⟩;have hRz:R≤4200000:=by rw[hR];exact Nat.le_trans (Cms.count_le L d) hcz.o
  rw[←hn,←hR];rw[←hn] at hlen;replace hn:=ax hn;replace hR:=ax hR;rcases Nat.eq_zero_or_pos d with rfl|hd0
  ·subst hD;have e0:aJ (R=0):=by rw[aJ,hR.o];cases L<;>simp[Cms.count]
   (go_enter Tryz.func129,Tryz.ntmps129);(go_wp2_with fail)
   go_loopw [5,6] (fun m x wr=>m=.int .i64 0∧x=.int .i64 0∧Below w.heap.size w wr) (fun _ _ _=>0)
   case atStart=>exact ⟨rfl,rfl,bel⟩
   case round=>
    obtain ⟨rfl,rfl,hB⟩:=hrel;by_cases q1:0<n
    all_goals
     (go_wp2_with fail);go_ret;exact ⟨by rw[e0.o];rfl,hB⟩
  obtain ⟨d,rfl⟩:∃ e,d=e+1:=⟨d - 1,by omega⟩;clear hd0;have hD1:0<D:=by omega
  have hD4:D≤4:=by omega
  replace hD:=ax hD;(go_enter Tryz.func129,Tryz.ntmps129);(go_wp2_with fail)
  go_loopw [5,6] (fun y x wr=>∃ j m:Nat,j≤n∧x=.int .i64 j∧y=.int .i64 m∧m≤R∧aJ (R=m+(L.drop j).count (d+1))∧Below w.heap.size w wr) (fun _ x _=>n - (intOf x).toNat)
  case atStart=>exact ⟨0,0,Nat.zero_le _,rfl,rfl,Nat.zero_le _,ax (by rw[Nat.zero_add];exact hR.o),bel⟩
  case round=>
   obtain ⟨j,m,hj,rfl,rfl,hmR,HR,hB⟩:=hrel;by_cases hlt:j<n
   ·have hpos:0<(L.drop j).len:=by rw[Cms.drop_len,←hn.o];omega
    obtain ⟨k,a,b,t,i,body,els,r,eL⟩:=Cms.cons_of_len hpos;obtain ⟨bl,o,rfl,-,-,hAt⟩:=(hV.o.bz hB) (by rw[←hn.o];omega);have hD:=hAt.drop j;have hS:=Cms.small_drop j hsm.o;have hZ:=Cms.sz_drop j L;have hDs:=Cms.drop_succ j L eL;have HR':=HR.o;rw[eL] at hD hS hZ HR';obtain ⟨⟨p0,p1,p2,p3,p4,p5⟩,⟨A6,c6,p6,g6⟩,⟨A7,c7,p7,g7⟩,⟨A8,c8,p8,g8⟩,⟨A9,c9,p9,g9⟩,-⟩:=hD;obtain ⟨s1,s2,s3,s4,s5,s6,-⟩:=hS;simp only[Cms.sz] at hZ;have hbs:body.sz<N:=by have:=hsz.o;omega
    have hes:els.sz<N:=by have:=hsz.o;omega
    have hbz:body.sz≤4200000:=by have:=hcz.o;omega
    have hez:els.sz≤4200000:=by have:=hcz.o;omega
    have gB:aJ (CmsV wr lo hi A8 body):=g8;have gE:aJ (CmsV wr lo hi A9 els):=g9;rw[Cms.count,if_pos (by omega),Nat.add_sub_cancel,←hDs] at HR';obtain ⟨x1,hx1⟩:∃ x,x=body.count d:=⟨_,rfl⟩;obtain ⟨x2,hx2⟩:∃ x,x=els.count d:=⟨_,rfl⟩;rw[←hx1,←hx2] at HR';have y1:m+x1+x2+1≤R:=by omega
    replace HR':=ax HR';replace hx1:=ax hx1;replace hx2:=ax hx2;replace hbs:=ax hbs;replace hes:=ax hes;replace hbz:=ax hbz;replace hez:=ax hez;replace s5:=ax s5;replace s6:=ax s6;clear hZ hpos hAt g6 g7 g8 g9 HR hDs eL s1 s2;(go_wp2_with fail);have hlt8:=block_lt_of_cell p8;have i1:IntKind.i64.wrap ((m:Int)+1)=(m:Int)+1:=IntWalk.i64_in _ (by omega);have i2:IntKind.i64.wrap ((m:Int)+1+x1)=(m:Int)+1+x1:=IntWalk.i64_in _ (by omega);have i3:IntKind.i64.wrap ((m:Int)+1+x1+x2)=(m:Int)+1+x1+x2:=IntWalk.i64_in _ (by omega);have i4:IntKind.i64.wrap (D - 1)=D - 1:=IntWalk.i64_in _ (by omega);clear p0 p1 p2 p3 p4 p5 p6 p7;refine wp_region_noPanic ?_;refine wp_region_held_drew (S:=(fun w'=>w'.cell? ⟨bl,o+j * 10+8,none⟩=some (.slice A8 body.len c8)∧w'.cell? ⟨bl,o+j * 10+9,none⟩=some (.slice A9 els.len c9))) (by kernel_rfl) (⟨p8,p9⟩) (fun aH=>?_);refine tk2 0 rfl aH (h:=tk2 1 rfl aH (h:=tk2 2 rfl aH (h:=?_)));(try simp only[zz]);refine tk2 3 rfl aH (h:=tk2 4 rfl aH (h:=tk2 5 rfl aH (h:=?_)));(try simp only[zz]);refine tk2 6 rfl aH (h:=tk2 7 rfl aH (h:=tk2 8 rfl aH (h:=?_)));(try simp only[zz]);refine tk2 11 rfl aH (h:=tk2 12 rfl aH (h:=tk2 13 rfl aH (h:=?_)));(try simp only[zz]);refine tk2 14 rfl aH (h:=tk2 15 rfl aH (h:=tk2 16 rfl aH (h:=?_)));(try simp only[zz]);refine tk2 17 rfl aH (h:=?_);refine rdc 9 rfl fun K hK=>?_;(try simp only[zz]);(go_simp;refine (IH.o body hbs.o A8 c8 d lo hi _ _ (by have:=hD.o;push_cast at this;omega) (gB.o.bz bel) s3 s5.o hbz.o (by omega)).mono ?_;rintro e w8 ⟨rfl,hBx⟩;rw[←hx1.o];replace hB:=bgo hB.drew hBx;replace gE:=ax ((gE.o.bz (Below.refl _ _).drew).bz hBx);replace p8:=(hBx.cell (p:=⟨bl,o+j * 10+8,none⟩) hlt8).trans p8;replace p9:=(hBx.cell (p:=⟨bl,o+j * 10+9,none⟩) hlt8).trans p9;clear hBx hlt8;have hlt8:=block_lt_of_cell p8);refine hK.out _ _ (⟨p8,p9⟩) ?_;clear aH hK K;intro aH;(try simp only[zz]);refine tk2 10 rfl aH (h:=?_);refine rdc 18 rfl fun K hK=>?_;(try simp only[zz]);(go_simp;refine (IH.o els hes.o A9 c9 d lo hi _ _ (by have:=hD.o;push_cast at this;omega) gE.o s4 s6.o hez.o (by omega)).mono ?_;rintro e w9 ⟨rfl,hBx⟩;rw[←hx2.o];replace hB:=bgo hB hBx;replace p8:=(hBx.cell (p:=⟨bl,o+j * 10+8,none⟩) hlt8).trans p8;replace p9:=(hBx.cell (p:=⟨bl,o+j * 10+9,none⟩) hlt8).trans p9;clear hBx hlt8);refine hK.out _ _ (⟨p8,p9⟩) ?_;clear aH hK K;intro aH;(try simp only[zz]);refine tk2 19 rfl aH (h:=tk2 20 rfl aH (h:=?_));(try simp only[zz]);refine dn1 ?_;clear p8 p9 i1 i2 i3 i4;(go_wp2_with fail)
    go_round
    case rel=>exact ⟨j+1,m+x1+x2+1,by omega,by go_num,by push_cast;congr 1;omega,by omega,ax (by have:=HR'.o;omega),hB⟩
    case measure=>simp[intOf];omega
   ·(go_wp2_with fail);go_ret;obtain rfl:j=n:=by omega
    have e1:L.drop j=.nil:=by rw[hn.o];exact Cms.drop_all L
    have h2:=HR.o;rw[e1] at h2;exact ⟨by rw[h2];rfl,hB⟩
theorem c_spec_ProgramV4 {lo hi:Nat} (L:Cms) (A:Option Addr) (c:Nat) (w:World) (hV:CmsV w lo hi A L) (hlen:L.len≤1049600) (hsm:L.small 1049600) (hz:L.sz≤4200000) :
  Calls Tryz.prog 55 #[.slice A L.len c] w fun e w'=>e=.returned (.bool L.prog)∧Below w.heap.size w w':=by
 obtain ⟨R,hR⟩:∃ R,R=L.prog:=⟨_,rfl⟩;obtain ⟨x,hx⟩:∃ x,x=L.shape 4:=⟨_,rfl⟩;rw[←hR];rw[Cms.prog,←hx] at hR;have hc:x=true→L.count 4=L.sz:=fun h=>Cms.count_shape (by rw[←hx];exact h);replace hc:=ax hc;replace hR:=ax hR;replace hx:=ax hx;replace hV:=ax hV;replace hsm:=ax hsm;(go_enter Tryz.func55,Tryz.ntmps55);(go_wp2_with fail);refine (l8Shape_go _ L (Nat.lt_succ_self _) A c 4 lo hi w hV.o hlen hsm.o (by omega)).mono ?_;rintro e w1 ⟨rfl,hB1⟩;rw[←hx.o];cases x
 ·(go_wp2_with fail);go_ret;exact ⟨zjD (by rw[hR.o];rfl),hB1⟩
 (go_wp2_with fail);refine (l8Count_go _ L (Nat.lt_succ_self _) A c 4 lo hi 4 w1 rfl (hV.o.bz hB1) hlen hsm.o hz (by omega)).mono ?_;rintro e w2 ⟨rfl,hB2⟩;rw[hc.o (by simp)];have hB:=bgo hB1 hB2;(go_wp2_with fail);go_ret;exact ⟨zjD (by rw[hR.o,Bool.true_and];simp;omega),hB⟩
theorem c_spec_ProgramValid {lo hi:Nat} (L:Cms) (A:Option Addr) (c:Nat) (w:World) (hV:CmsV w lo hi A L) (hlen:L.len≤1049600) (hsm:L.small 1049600) (hz:L.sz≤1049600) :
  Calls Tryz.prog 55 #[.slice A L.len c] w fun e w'=>e=.returned (.bool L.prog)∧Below w.heap.size w w':=
 c_spec_ProgramV4 L A c w hV hlen hsm (by omega)
theorem CmsN.part {w:World} {base n c:Nat} {A:Option Addr} {L:Cms} (h:CmsN w base (.slice A n c) L):PartX w (fun b=>base≤b) A L:=fun hl=>by
 obtain ⟨cs,⟨hlen,h2⟩,h3,h4⟩:=h;rcases h2 with ⟨e,hn⟩|⟨g,cap,cur,e,hb,hg,hn,hm,hs,ht⟩
 ·omega
 ·injection e with e1 e2 e3;subst e1;refine ⟨g,0,rfl,hb,(CmsT.x h3 fun j u hu=>?_).mono fun b hx _=>hx.1⟩;rw[Nat.zero_add,cell_of_row w g j cur tC (0,0) hg];rw[←ht,List.getElem?_take] at hu
  split at hu
  ·simpa using hu
  ·cases hu
theorem PartX.fr {w w':World} {base g:Nat} {A:Option Addr} {L:Cms} (h:PartX w (fun b=>base≤b) A L) (hf:Fr g w w') (hg:g<base):PartX w' (fun b=>base≤b) A L:=h.keep fun b hb hl=>hf.block b hl (by omega)
theorem RwX.fr {w w':World} {base g size n:Nat} {A:Option Addr} {xs:List Value} (h:RwX w (fun b=>base≤b) size A n xs) (hf:Fr g w w') (hg:g<base):RwX w' (fun b=>base≤b) size A n xs:=h.keep fun b hb hl=>hf.block b hl (by omega)
theorem RwX.none (w:World) (X:Nat→Prop) (size:Nat) (A:Option Addr):RwX w X size A 0 []:=⟨by simp,fun h=>by omega⟩
section
variable {ops:Array Oper} {rest:List Oper} {o:Oper} {a:Act} {Q:Exit→Act→World→Prop} {w:World} {base:Nat} {v:Value}
theorem appCX (hgd:o.guard=none) (s x:Operand) (ho:o.op=.call { callee:=.builtin .append,args:=#[s,x],argTypes:=#[42,42] })
  {n:Nat} {cs:List Value} (hs:a.eval s=v) (hown:w.ownsRow base tC 10 v n cs) {g0 c:Nat} {arr:Array Value} (ten:List Value) (hx:a.eval x=.slice (some ⟨g0,0,none⟩) 1 c) (hk:Blk w g0 tC arr) (hcs:arr=ten.toArray) (ht:ten.length=10) (h1:∀ u∈ten,u.oneCell'=true) (hn:n+1≤1049600) (hb:base≤w.heap.size)
  (h:∀ A' c' w',w'.ownsRow base tC 10 (.slice A' (n+1) c') (n+1) (cs++ten)→w.grownBy w' v.ownBlock→Below base w w'→((Value.slice A' (n+1) c').ownBlock=v.ownBlock∨(Value.slice A' (n+1) c').ownBlock=some w.heap.size)→wpList Tryz.prog ops Q rest (a.put o.dst (.slice A' (n+1) c')) w'):wpList Tryz.prog ops Q (o :: rest) a w:=by
 have hadd:∀ j,(⟨g0,0,none⟩:Addr).add j=⟨g0,j,none⟩:=fun j=>by unfold Addr.add;split<;>simp_all
 unfold wpList;rw[if_pos (show Region.wanted o (yielded ops a.tmps)=true by simp[Region.wanted,hgd])];refine Or.inl (wp_appX (news:=ten) s x 42 ho Tryz.underlying42 infoC rfl (by decide) (by decide) hs hown hx (by rw[ht]) (fun j u hu=>?_) h1 hn hb ?_)
 ·rw[hadd,hk.cell,hcs];simpa using hu
 ·intro v' w' q1 q2 q3 q4;obtain ⟨q1a,q1b⟩:=q1;rcases q1b with ⟨rfl,e⟩|⟨k,cap,cur,rfl,r⟩
  ·omega
  ·exact h _ _ w' ⟨q1a,Or.inr ⟨k,cap,cur,rfl,r⟩⟩ q2 q3 q4
end
theorem tenOne (k a b:Int) (t:Fct) (AF AA AB AE:Option Addr) (nF nA nB nE cF cA cB cE:Nat):∀ u∈tenL k a b t (.slice AF nF cF) (.slice AA nA cA) (.slice AB nB cB) (.slice AE nE cE),u.oneCell'=true:=by
 intro u hu;simp only[tenL,List.mem_cons,List.not_mem_nil,or_false] at hu;rcases hu with rfl|rfl|rfl|rfl|rfl|rfl|rfl|rfl|rfl|rfl<;>rfl
theorem ten0 {w:World} {g:Nat} {t:TypeId} {x0 x1 x2 x3 x4 x5 x6 x7 x8 x9 v0 v1 v2 v3 v4 v5 v6 v7 v8 v9:Value} (h:Blk w g t #[x0,x1,x2,x3,x4,x5,x6,x7,x8,x9]):Blk (((((((((((w).setCell ⟨g,0,none⟩ v0).setCell ⟨g,1,none⟩ v1).setCell ⟨g,2,none⟩ v2).setCell ⟨g,3,none⟩ v3).setCell ⟨g,4,none⟩ v4).setCell ⟨g,5,none⟩ v5).setCell ⟨g,6,none⟩ v6).setCell ⟨g,7,none⟩ v7).setCell ⟨g,8,none⟩ v8).setCell ⟨g,9,none⟩ v9) g t #[v0,v1,v2,v3,v4,v5,v6,v7,v8,v9]:=by
 have h2:=((((((((((h.set_ 0 v0).set_ 1 v1).set_ 2 v2).set_ 3 v3).set_ 4 v4).set_ 5 v5).set_ 6 v6).set_ 7 v7).set_ 8 v8).set_ 9 v9);simp only[List.setIfInBounds_toArray,List.set_cons_zero,List.set_cons_succ] at h2;exact h2
theorem retW {P:Program} {F:Func} {Q:Ending→World→Prop} {a:Act} {T:World} {D:World→Prop} (hd:D T) (h:∀ T,D T→bodyPost P F Q Exit.ret a T):bodyPost P F Q Exit.ret a T:=h T hd
def simC (k a b:Int):Array Value:=#[.int .i64 k,.int .i64 a,.int .i64 b,.bool false,.int .i64 0,.int .i64 0,.slice none 0 0,.slice none 0 0,.slice none 0 0,.slice none 0 0]
theorem c_l8Simple (g p:Nat) (w:World) (h:Rdr w g p) (hp:p≤999990) :
  Calls Tryz.prog 226 #[.pointer (some ⟨g,0,none⟩)] w fun e w'=>∃ k a b,e=.returned (.agg (simC k a b))∧Rdr w' g (p+3)∧Fr g w w':=by
 have H:=ax h;have hlt:=h.lt;clear h;have hgn:g≠w.heap.size:=by omega
 (go_enter Tryz.func226,Tryz.ntmps226);have k0:Blk (w.alloc (.cells (simC 0 0 0) tC)) w.heap.size tC (simC 0 0 0):=Blk.new _ _ _;(go_wp2_with fail);refine (c_pick g p 5 _ (H.o.bz bel) (by omega)).mono ?_;rintro e w1 ⟨m,rfl,hm,hR1,hF1⟩;have k1:=k0.fr hF1 (Ne.symm hgn);have F1:Fr g w w1:=((Fr.refl g w).alloc _).trans hF1;have hm5:(m:Int)<5:=by omega
 replace hR1:=ax hR1;replace F1:=ax F1;clear k0 hF1 hm;(go_wp2_with fail);refine (c_numL g (p+1) [1,2,3,1,4] _ _ _ _ (hR1.o.bz bel) (by omega) (Blk.new _ _ _) (by rfl) (by have:=hR1.o.lt;omega) (by rfl) (by simp) (by simp)).mono ?_;rintro e w2 ⟨a,-,rfl,hR2,hF2⟩;have k2:=(k1.alloc _).fr hF2 (Ne.symm hgn);have F2:=ax ((F1.o.alloc _).trans hF2);replace hR2:=ax hR2;clear k1 hF2 hR1 F1;(go_wp2_with fail);refine (c_numL g (p+1+1) [2,0,1,3,5] _ _ _ _ (hR2.o.bz bel) (by omega) (Blk.new _ _ _) (by rfl) (by have:=hR2.o.lt;omega) (by rfl) (by simp) (by simp)).mono ?_;rintro e w3 ⟨b,-,rfl,hR3,hF3⟩;have k3:=(k2.alloc _).fr hF3 (Ne.symm hgn);have F3:=ax ((F2.o.alloc _).trans hF3);replace hR3:=ax hR3;clear k2 hF3 hR2 F2;have lt3:=k3.lt;have c0:w3.cell? ⟨w.heap.size,0,none⟩=some (.int .i64 0):=k3.cell 0;have c1:w3.cell? ⟨w.heap.size,1,none⟩=some (.int .i64 0):=k3.cell 1;have c2:w3.cell? ⟨w.heap.size,2,none⟩=some (.int .i64 0):=k3.cell 2;have c3:w3.cell? ⟨w.heap.size,3,none⟩=some (.bool false):=k3.cell 3;have c4:w3.cell? ⟨w.heap.size,4,none⟩=some (.int .i64 0):=k3.cell 4;have c5:w3.cell? ⟨w.heap.size,5,none⟩=some (.int .i64 0):=k3.cell 5;have c6:w3.cell? ⟨w.heap.size,6,none⟩=some (.slice none 0 0):=k3.cell 6;have c7:w3.cell? ⟨w.heap.size,7,none⟩=some (.slice none 0 0):=k3.cell 7;have c8:w3.cell? ⟨w.heap.size,8,none⟩=some (.slice none 0 0):=k3.cell 8;have c9:w3.cell? ⟨w.heap.size,9,none⟩=some (.slice none 0 0):=k3.cell 9;have f3:=k3.frozen;have hgw:g<w3.heap.size:=by omega
 unfold simC at k3;by_cases q4:1+(m:Int)=4
 ·(go_wp2_with fail);refine retW (D:=fun T=>Blk T w.heap.size tC #[.int .i64 4,.int .i64 a,.int .i64 0,.bool false,.int .i64 0,.int .i64 0,.slice none 0 0,.slice none 0 0,.slice none 0 0,.slice none 0 0]∧Rdr T g (p+3)∧Fr g w T) ⟨(ten0 k3).alloc _,?_,?_⟩ ?_
  ·refine Rdr.bz ?_ (bbox (Below.refl _ _) _)
   iterate 10 (refine Rdr.set_ ?_ (by simp only;omega) _)
   exact hR3.o
  ·refine Fr.alloc ?_ _
   iterate 10 (refine Fr.set_ ?_ (Or.inr (Nat.le_refl _)) _)
   exact F3.o
  ·rintro T ⟨kT,r1,r2⟩;have t:=kT.cell;exact bodyPost_ret (v:=.agg (simC 4 a 0)) (by simp[results,Tryz.results226,go_sem,simC,t]) rfl ⟨_,_,_,rfl,r1,r2⟩
 ·have q4':=beq_false_of_ne q4;by_cases q5:1+(m:Int)=5
  ·(go_wp2_with fail);refine retW (D:=fun T=>Blk T w.heap.size tC #[.int .i64 5,.int .i64 a,.int .i64 0,.bool false,.int .i64 0,.int .i64 0,.slice none 0 0,.slice none 0 0,.slice none 0 0,.slice none 0 0]∧Rdr T g (p+3)∧Fr g w T) ⟨(ten0 k3).alloc _,?_,?_⟩ ?_
   ·refine Rdr.bz ?_ (bbox (Below.refl _ _) _)
    iterate 10 (refine Rdr.set_ ?_ (by simp only;omega) _)
    exact hR3.o
   ·refine Fr.alloc ?_ _
    iterate 10 (refine Fr.set_ ?_ (Or.inr (Nat.le_refl _)) _)
    exact F3.o
   ·rintro T ⟨kT,r1,r2⟩;have t:=kT.cell;exact bodyPost_ret (v:=.agg (simC 5 a 0)) (by simp[results,Tryz.results226,go_sem,simC,t]) rfl ⟨_,_,_,rfl,r1,r2⟩
  ·have q5':=beq_false_of_ne q5;(go_wp2_with fail);refine retW (D:=fun T=>Blk T w.heap.size tC #[.int .i64 (1+(m:Int)),.int .i64 a,.int .i64 b,.bool false,.int .i64 0,.int .i64 0,.slice none 0 0,.slice none 0 0,.slice none 0 0,.slice none 0 0]∧Rdr T g (p+3)∧Fr g w T) ⟨(ten0 k3).alloc _,?_,?_⟩ ?_
   ·refine Rdr.bz ?_ (bbox (Below.refl _ _) _)
    iterate 10 (refine Rdr.set_ ?_ (by simp only;omega) _)
    exact hR3.o
   ·refine Fr.alloc ?_ _
    iterate 10 (refine Fr.set_ ?_ (Or.inr (Nat.le_refl _)) _)
    exact F3.o
   ·rintro T ⟨kT,r1,r2⟩;have t:=kT.cell;exact bodyPost_ret (v:=.agg (simC (1+(m:Int)) a b)) (by simp[results,Tryz.results226,go_sem,simC,t]) rfl ⟨_,_,_,rfl,r1,r2⟩
theorem c_l8Test (g p:Nat) (w:World) (h:Rdr w g p) (hp:p≤999990) :
  Calls Tryz.prog 227 #[.pointer (some ⟨g,0,none⟩)] w fun e w'=>∃ f:Fct,e=.returned f.val∧Rdr w' g (p+3)∧Fr g w w':=by
 have H:=ax h;have hlt:=h.lt;clear h;(go_enter Tryz.func227,Tryz.ntmps227);have k0:Blk (w.alloc (.cells #[.bool false,.int .i64 0,.int .i64 0] tF)) w.heap.size tF #[.bool false,.int .i64 0,.int .i64 0]:=Blk.new _ _ _;(go_wp2_with fail);refine (c_pick g p 3 _ (H.o.bz bel) (by omega)).mono ?_;rintro e w1 ⟨m,rfl,-,hR,hF⟩;replace k0:=k0.fr hF (by omega);have HF1:=ax (((Fr.refl g w).alloc (.cells #[.bool false,.int .i64 0,.int .i64 0] tF)).trans hF);have HR1:=ax hR;clear hR hF;(go_wp2_with fail);refine (c_numL g (p+1) [1,2,3] _ _ _ _ (HR1.o.bz bel) (by omega) (Blk.new _ _ _) (by rfl) (by have:=HR1.o.lt;omega) (by rfl) (by simp) (by simp)).mono ?_;rintro e w2 ⟨a,-,rfl,hR,hF⟩;replace k0:=(k0.alloc _).fr hF (by omega);have HF2:=ax ((HF1.o.alloc _).trans hF);have HR2:=ax hR;clear hR hF;(go_wp2_with fail);refine (c_numL g (p+1+1) [0,2,0,5] _ _ _ _ (HR2.o.bz bel) (by omega) (Blk.new _ _ _) (by rfl) (by have:=HR2.o.lt;omega) (by rfl) (by simp) (by simp)).mono ?_;rintro e w3 ⟨b,-,rfl,hR,hF⟩;replace k0:=(k0.alloc _).fr hF (by omega);have HF3:=ax ((HF2.o.alloc _).trans hF);have HR3:=ax hR;clear hR hF;(replace qk0:=k0.cell;replace rk0:=k0.frozen;replace lk0:=k0.lt);(go_wp2_with fail);refine bodyPost_ret (v:=(Fct.mk ((m:Int) == 0) a b).val) (by simp[results,Tryz.results227,go_sem,qk0]) rfl ⟨⟨(m:Int) == 0,a,b⟩,rfl,?_,?_⟩
 ·repeat (first|exact HR3.o|refine Rdr.set_ ?_ (by simp only;omega) _)
 ·repeat (first|exact HF3.o|refine Fr.set_ ?_ (Or.inr (Nat.le_refl _)) _)
theorem ten0_far {w:World} {g k:Nat} {v0 v1 v2 v3 v4 v5 v6 v7 v8 v9:Value} (h:k≠g):(((((((((((w).setCell ⟨g,0,none⟩ v0).setCell ⟨g,1,none⟩ v1).setCell ⟨g,2,none⟩ v2).setCell ⟨g,3,none⟩ v3).setCell ⟨g,4,none⟩ v4).setCell ⟨g,5,none⟩ v5).setCell ⟨g,6,none⟩ v6).setCell ⟨g,7,none⟩ v7).setCell ⟨g,8,none⟩ v8).setCell ⟨g,9,none⟩ v9).heap[k]? = w.heap[k]?:=by
 iterate 9 (refine (Below.heap_setCell _ _ _ k h).trans ?_)
 exact Below.heap_setCell _ _ _ k h
theorem Rdr.ten {w:World} {g p cb:Nat} {v0 v1 v2 v3 v4 v5 v6 v7 v8 v9:Value} (h:Rdr w g p) (hc:g<cb):Rdr (((((((((((w).setCell ⟨cb,0,none⟩ v0).setCell ⟨cb,1,none⟩ v1).setCell ⟨cb,2,none⟩ v2).setCell ⟨cb,3,none⟩ v3).setCell ⟨cb,4,none⟩ v4).setCell ⟨cb,5,none⟩ v5).setCell ⟨cb,6,none⟩ v6).setCell ⟨cb,7,none⟩ v7).setCell ⟨cb,8,none⟩ v8).setCell ⟨cb,9,none⟩ v9) g p:=by
 iterate 10 (refine Rdr.set_ ?_ (by simp only;omega) _)
 exact h
theorem Fr.ten {a w:World} {g cb:Nat} {v0 v1 v2 v3 v4 v5 v6 v7 v8 v9:Value} (h:Fr g a w) (hc:a.heap.size≤cb):Fr g a (((((((((((w).setCell ⟨cb,0,none⟩ v0).setCell ⟨cb,1,none⟩ v1).setCell ⟨cb,2,none⟩ v2).setCell ⟨cb,3,none⟩ v3).setCell ⟨cb,4,none⟩ v4).setCell ⟨cb,5,none⟩ v5).setCell ⟨cb,6,none⟩ v6).setCell ⟨cb,7,none⟩ v7).setCell ⟨cb,8,none⟩ v8).setCell ⟨cb,9,none⟩ v9):=by
 iterate 10 (refine Fr.set_ ?_ (Or.inr hc) _)
 exact h
def CmdIn (w:World) (X:Nat→Prop) (cb n:Nat):Prop:=∃ (k a b:Int) (t:Fct) (i:Asn) (body els:Cms) (AF:Option Addr) (cF:Nat) (AA:Option Addr) (cA:Nat) (AB:Option Addr) (cB:Nat) (AE:Option Addr) (cE:Nat),Blk w cb tC #[.int .i64 k,.int .i64 a,.int .i64 b,.bool t.eq,.int .i64 t.a,.int .i64 t.b,.slice AF i.facts.length cF,.slice AA i.atoms.length cA,.slice AB body.len cB,.slice AE els.len cE]∧RwX w X 3 AF i.facts.length (encF i.facts)∧RwX w X 3 AA i.atoms.length (encA i.atoms)∧PartX w X AB body∧PartX w X AE els∧i.facts.length+i.atoms.length+(body.len+body.cost)+(els.len+els.cost)≤n
theorem CmdIn.ten {w:World} {X:Nat→Prop} {cb n:Nat} {x0 x1 x2 x3 x4 x5 x6 x7 x8 x9:Value} (h:Blk w cb tC #[x0,x1,x2,x3,x4,x5,x6,x7,x8,x9]) (hX:∀ b,X b→b≠cb) {k a b:Int} {t:Fct} {i:Asn} {body els:Cms} {AF AA AB AE:Option Addr} {cF cA cB cE:Nat}
  (h1:RwX w X 3 AF i.facts.length (encF i.facts)) (h2:RwX w X 3 AA i.atoms.length (encA i.atoms)) (h3:PartX w X AB body) (h4:PartX w X AE els) (hn:i.facts.length+i.atoms.length+(body.len+body.cost)+(els.len+els.cost)≤n) :
  CmdIn (((((((((((w).setCell ⟨cb,0,none⟩ (.int .i64 k)).setCell ⟨cb,1,none⟩ (.int .i64 a)).setCell ⟨cb,2,none⟩ (.int .i64 b)).setCell ⟨cb,3,none⟩ (.bool t.eq)).setCell ⟨cb,4,none⟩ (.int .i64 t.a)).setCell ⟨cb,5,none⟩ (.int .i64 t.b)).setCell ⟨cb,6,none⟩ (.slice AF i.facts.length cF)).setCell ⟨cb,7,none⟩ (.slice AA i.atoms.length cA)).setCell ⟨cb,8,none⟩ (.slice AB body.len cB)).setCell ⟨cb,9,none⟩ (.slice AE els.len cE)) X cb n:=
 ⟨k,a,b,t,i,body,els,AF,cF,AA,cA,AB,cB,AE,cE,ten0 h,h1.keep fun b hb _=>ten0_far (hX b hb),h2.keep fun b hb _=>ten0_far (hX b hb),h3.keep fun b hb _=>ten0_far (hX b hb),h4.keep fun b hb _=>ten0_far (hX b hb),hn⟩
theorem CmdIn.els_ {w:World} {X:Nat→Prop} {cb n:Nat} {v:Value} (hX:∀ b,X b→b≠cb) {k a b:Int} {t:Fct} {i:Asn} {body els:Cms} {AF AA AB AE:Option Addr} {cF cA cB cE:Nat}
  (h:Blk w cb tC #[.int .i64 k,.int .i64 a,.int .i64 b,.bool t.eq,.int .i64 t.a,.int .i64 t.b,.slice AF i.facts.length cF,.slice AA i.atoms.length cA,.slice AB body.len cB,v])
  (h1:RwX w X 3 AF i.facts.length (encF i.facts)) (h2:RwX w X 3 AA i.atoms.length (encA i.atoms)) (h3:PartX w X AB body) (h4:PartX w X AE els) (hn:i.facts.length+i.atoms.length+(body.len+body.cost)+(els.len+els.cost)≤n) :
  CmdIn (w.setCell ⟨cb,9,none⟩ (.slice AE els.len cE)) X cb n:=
 have hk:∀ b,X b→b<w.heap.size→(w.setCell ⟨cb,9,none⟩ (.slice AE els.len cE)).heap[b]? = w.heap[b]?:=fun b hb _=>Below.heap_setCell w ⟨cb,9,none⟩ (.slice AE els.len cE) b (hX b hb)
 ⟨k,a,b,t,i,body,els,AF,cF,AA,cA,AB,cB,AE,cE,(by have h0:=h.set_ 9 (.slice AE els.len cE);simpa only[List.setIfInBounds_toArray,List.set_cons_zero,List.set_cons_succ] using h0),h1.keep hk,h2.keep hk,h3.keep hk,h4.keep hk,hn⟩
theorem CmdIn.fr {g:Nat} {w w':World} {X:Nat→Prop} {cb n:Nat} (h:CmdIn w X cb n) (hf:Fr g w w') (hX:∀ b,X b→b≠g) (hc:cb≠g):CmdIn w' X cb n:=by
 obtain ⟨k,a,b,t,i,body,els,AF,cF,AA,cA,AB,cB,AE,cE,h0,h1,h2,h3,h4,hn⟩:=h;have hk:∀ b,X b→b<w.heap.size→w'.heap[b]? = w.heap[b]?:=fun b hb hl=>hf.block b hl (hX b hb);exact ⟨k,a,b,t,i,body,els,AF,cF,AA,cA,AB,cB,AE,cE,h0.fr hf hc,h1.keep hk,h2.keep hk,h3.keep hk,h4.keep hk,hn⟩
theorem CmdIn.lt {w:World} {X:Nat→Prop} {cb n:Nat} (h:CmdIn w X cb n):cb<w.heap.size:=by
 obtain ⟨k,a,b,t,i,body,els,AF,cF,AA,cA,AB,cB,AE,cE,h0,-⟩:=h;exact h0.lt
theorem CmdIn.more {w:World} {X:Nat→Prop} {cb n m:Nat} (h:CmdIn w X cb n) (hm:n≤m):CmdIn w X cb m:=by
 obtain ⟨k,a,b,t,i,body,els,AF,cF,AA,cA,AB,cB,AE,cE,h0,h1,h2,h3,h4,hn⟩:=h;exact ⟨k,a,b,t,i,body,els,AF,cF,AA,cA,AB,cB,AE,cE,h0,h1,h2,h3,h4,by omega⟩
theorem CmdIn.simple {w:World} {X:Nat→Prop} {cb:Nat} {k a b:Int} (h:Blk w cb tC #[.int .i64 k,.int .i64 a,.int .i64 b,.bool false,.int .i64 0,.int .i64 0,.slice none 0 0,.slice none 0 0,.slice none 0 0,.slice none 0 0]):CmdIn w X cb 0:=
 ⟨k,a,b,⟨false,0,0⟩,⟨[],[]⟩,.nil,.nil,none,0,none,0,none,0,none,0,h,RwX.none ..,RwX.none ..,PartX.nil _,PartX.nil _,by simp[Cms.len,Cms.cost]⟩
theorem CmsN.own_lt {w:World} {base:Nat} {v:Value} {L:Cms} (h:CmsN w base v L):∀ b,v.ownBlock=some b→base≤b∧b<w.heap.size:=by
 obtain ⟨cs,⟨hl,h2⟩,h3,h4⟩:=h;intro b hb;rcases h2 with ⟨rfl,hn⟩|⟨g,cap,cur,rfl,hg0,hg,hn,hm,hs,ht⟩
 ·simp[Value.ownBlock] at hb
 ·simp[Value.ownBlock] at hb;subst hb;exact ⟨hg0,Blk.lt hg⟩
def CpN (w:World) (lo hi:Nat) (v:Value) (L:Cms):Prop:=∃ cs,w.ownsRow lo tC 10 v L.len cs∧CmsT w (fun b=>(lo≤b∧b<hi)∧v.ownBlock≠some b) L cs∧L.len≤1049600∧(∀ g,v.ownBlock=some g→g<hi)
def CpAt (w:World) (vo:Option Nat):Cms→List Value→Nat→Nat→Prop
 | .nil,cs,lo,hi=>cs=[]∧lo≤hi
 | .cons k a b t i body els r,cs,lo,hi=>∃ AF cF AA cA AB cB AE cE rest m0 m1 m2 m3,cs=tenL k a b t (.slice AF i.facts.length cF) (.slice AA i.atoms.length cA) (.slice AB body.len cB) (.slice AE els.len cE)++rest∧
   (lo≤m0∧m0≤m1∧m1≤m2∧m2≤m3∧∀ g,vo=some g→¬(m0≤g∧g<m3))∧RwX w (fun b=>m0≤b∧b<m1) 3 AF i.facts.length (encF i.facts)∧RwX w (fun b=>m0≤b∧b<m1) 3 AA i.atoms.length (encA i.atoms)∧
   CpN w m1 m2 (.slice AB body.len cB) body∧PartX w (fun b=>m2≤b∧b<m3) AE els∧CpAt w vo r rest m3 hi
def CpO (w:World) (base:Nat) (v:Value) (L:Cms):Prop:=∃ cs,w.ownsRow base tC 10 v L.len cs∧CpAt w v.ownBlock L cs base w.heap.size∧L.len≤1049600
section
variable {w w':World} {lo hi base:Nat} {v:Value} {L:Cms} {vo vo':Option Nat}
theorem own_keep {base size n:Nat} {t:TypeId} {v:Value} {cs:List Value} (h:w.ownsRow base t size v n cs) (hk:∀ g,v.ownBlock=some g→g<w.heap.size→w'.heap[g]? = w.heap[g]?):w'.ownsRow base t size v n cs:=by
 obtain ⟨hl,h2⟩:=h;refine ⟨hl,?_⟩;rcases h2 with ⟨rfl,hn⟩|⟨g,cap,cur,rfl,hb,hg,hn,hm,hs,ht⟩
 ·exact Or.inl ⟨rfl,hn⟩
 ·have e:=hk g (by simp[Value.ownBlock]) (Blk.lt hg);exact Or.inr ⟨g,cap,cur,rfl,hb,e.trans hg,hn,hm,hs,ht⟩
theorem CmsN.cp (h:CmsN w base v L):CpN w base w.heap.size v L:=by
 have hl:=h.own_lt;obtain ⟨cs,h1,h2,h3⟩:=h;exact ⟨cs,h1,h2.mono fun b hx hl=>⟨⟨hx.1,hl⟩,hx.2⟩,h3,fun g hg=>(hl g hg).2⟩
theorem CpN.keep (h:CpN w lo hi v L) (hk:∀ b,lo≤b→b<hi→b<w.heap.size→w'.heap[b]? = w.heap[b]?):CpN w' lo hi v L:=by
 obtain ⟨cs,h1,h2,h3,h4⟩:=h
 have hge:∀ g,v.ownBlock=some g→lo≤g:=by
  obtain ⟨_,h0⟩:=h1;intro g hg;rcases h0 with ⟨rfl,hn⟩|⟨g',cap,cur,rfl,hb,_⟩
  ·simp[Value.ownBlock] at hg
  ·simp[Value.ownBlock] at hg;omega
 exact ⟨cs,own_keep h1 fun g hg hl=>hk g (hge g hg) (h4 g hg) hl,h2.keep fun b hb hl=>hk b hb.1.1 hb.1.2 hl,h3,h4⟩
theorem CpN.n (h:CpN w lo hi v L):CmsN w lo v L:=by
 obtain ⟨cs,h1,h2,h3,h4⟩:=h;exact ⟨cs,h1,h2.mono fun b hx _=>⟨hx.1.1,hx.2⟩,h3⟩
theorem CpN.part {A:Option Addr} {n c:Nat} (h:CpN w lo hi (.slice A n c) L):PartX w (fun b=>lo≤b∧b<hi) A L:=fun hl=>by
 obtain ⟨cs,⟨hlen,h2⟩,h3,h4,h5⟩:=h;rcases h2 with ⟨e,hn⟩|⟨g,cap,cur,e,hb,hg,hn,hm,hs,ht⟩
 ·omega
 ·injection e with e1 e2 e3;subst e1;refine ⟨g,0,rfl,⟨hb,h5 g (by simp[Value.ownBlock])⟩,(CmsT.x h3 fun j u hu=>?_).mono fun b hx _=>hx.1⟩;rw[Nat.zero_add,cell_of_row w g j cur tC (0,0) hg];rw[←ht,List.getElem?_take] at hu
  split at hu
  ·simpa using hu
  ·cases hu
theorem CpAt.le:∀ {L:Cms} {cs:List Value} {lo hi:Nat},CpAt w vo L cs lo hi→lo≤hi
 | .nil,_,_,_,h=>h.2
 | .cons k a b t i body els r,_,_,_,h=>by
  obtain ⟨AF,cF,AA,cA,AB,cB,AE,cE,rest,m0,m1,m2,m3,-,⟨h0,h1,h2,h3,-⟩,-,-,-,-,h⟩:=h;have:=CpAt.le h;omega
theorem CpAt.hi_ {hi':Nat}:∀ {L:Cms} {cs:List Value} {lo hi:Nat},CpAt w vo L cs lo hi→hi≤hi'→CpAt w vo L cs lo hi'
 | .nil,_,_,_,h,e=>⟨h.1,Nat.le_trans h.2 e⟩
 | .cons k a b t i body els r,_,_,_,h,e=>by
  obtain ⟨AF,cF,AA,cA,AB,cB,AE,cE,rest,m0,m1,m2,m3,p1,p2,p3,p4,p5,p6,h⟩:=h;exact ⟨AF,cF,AA,cA,AB,cB,AE,cE,rest,m0,m1,m2,m3,p1,p2,p3,p4,p5,p6,CpAt.hi_ h e⟩
theorem CpAt.keep:∀ {L:Cms} {cs:List Value} {lo hi:Nat},CpAt w vo L cs lo hi→(∀ b,lo≤b→b<hi→vo≠some b→b<w.heap.size→w'.heap[b]? = w.heap[b]?)→CpAt w' vo L cs lo hi
 | .nil,_,_,_,h,_=>h
 | .cons k a b t i body els r,_,lo,hi,h,hk=>by
  obtain ⟨AF,cF,AA,cA,AB,cB,AE,cE,rest,m0,m1,m2,m3,p1,⟨q0,q1,q2,q3,q4⟩,p3,p4,p5,p6,h⟩:=h;have hle:=CpAt.le h;have hk3:∀ b,m0≤b→b<m3→b<w.heap.size→w'.heap[b]? = w.heap[b]?:=fun b h1 h2 h3=>hk b (by omega) (by omega) (fun e=>q4 b e ⟨h1,h2⟩) h3
  exact ⟨AF,cF,AA,cA,AB,cB,AE,cE,rest,m0,m1,m2,m3,p1,⟨q0,q1,q2,q3,q4⟩,p3.keep fun b hb hl=>hk3 b hb.1 (by omega) hl,p4.keep fun b hb hl=>hk3 b hb.1 (by omega) hl,
   p5.keep fun b h1 h2 hl=>hk3 b (by omega) (by omega) hl,p6.keep fun b hb hl=>hk3 b (by omega) hb.2 hl,CpAt.keep h fun b h1 h2 h3 h4=>hk b (by omega) h2 h3 h4⟩
theorem CpAt.own:∀ {L:Cms} {cs:List Value} {lo hi:Nat},CpAt w vo L cs lo hi→(∀ g,vo'=some g→vo=some g∨hi≤g)→CpAt w vo' L cs lo hi
 | .nil,_,_,_,h,_=>h
 | .cons k a b t i body els r,_,lo,hi,h,hv=>by
  obtain ⟨AF,cF,AA,cA,AB,cB,AE,cE,rest,m0,m1,m2,m3,p1,⟨q0,q1,q2,q3,q4⟩,p3,p4,p5,p6,h⟩:=h;have hle:=CpAt.le h;exact ⟨AF,cF,AA,cA,AB,cB,AE,cE,rest,m0,m1,m2,m3,p1,⟨q0,q1,q2,q3,fun g hg hx=>(hv g hg).elim (fun e=>q4 g e hx) (fun e=>by omega)⟩,p3,p4,p5,p6,CpAt.own h hv⟩
theorem CpAt.T:∀ {L:Cms} {cs:List Value} {lo hi:Nat},CpAt w vo L cs lo hi→CmsT w (fun b=>lo≤b∧vo≠some b) L cs
 | .nil,_,_,_,h=>h.1
 | .cons k a b t i body els r,_,lo,hi,h=>by
  obtain ⟨AF,cF,AA,cA,AB,cB,AE,cE,rest,m0,m1,m2,m3,p1,⟨q0,q1,q2,q3,q4⟩,p3,p4,p5,p6,h⟩:=h;have hx:∀ b,m0≤b→b<m3→lo≤b∧vo≠some b:=fun b h1 h2=>⟨by omega,fun e=>q4 b e ⟨h1,h2⟩⟩
  exact ⟨AF,cF,AA,cA,AB,cB,AE,cE,rest,p1,p3.mono fun b hb _=>hx b hb.1 (by omega),p4.mono fun b hb _=>hx b hb.1 (by omega),p5.part.mono fun b hb _=>hx b (by omega) (by omega),p6.mono fun b hb _=>hx b (by omega) hb.2,
   (CpAt.T h).mono fun b hb _=>⟨by omega,hb.2⟩⟩
theorem CpAt.lo_ {lo':Nat}:∀ {L:Cms} {cs:List Value} {lo hi:Nat},CpAt w vo L cs lo hi→lo'≤lo→CpAt w vo L cs lo' hi
 | .nil,_,_,_,h,e=>⟨h.1,Nat.le_trans e h.2⟩
 | .cons k a b t i body els r,_,_,_,h,e=>by
  obtain ⟨AF,cF,AA,cA,AB,cB,AE,cE,rest,m0,m1,m2,m3,p1,⟨q0,q⟩,h⟩:=h;exact ⟨AF,cF,AA,cA,AB,cB,AE,cE,rest,m0,m1,m2,m3,p1,⟨by omega,q⟩,h⟩
theorem CpAt.app {M:Cms} {ds:List Value} {m:Nat}:∀ {L:Cms} {cs:List Value} {lo:Nat},CpAt w vo L cs lo m→CpAt w vo M ds m hi→CpAt w vo (L.app M) (cs++ds) lo hi
 | .nil,cs,lo,h,h'=>by
  obtain ⟨rfl,h⟩:=h;exact h'.lo_ h
 | .cons k a b t i body els r,_,lo,h,h'=>by
  obtain ⟨AF,cF,AA,cA,AB,cB,AE,cE,rest,m0,m1,m2,m3,rfl,p2,p3,p4,p5,p6,h⟩:=h;exact ⟨AF,cF,AA,cA,AB,cB,AE,cE,rest++ds,m0,m1,m2,m3,List.append_assoc ..,p2,p3,p4,p5,p6,CpAt.app h h'⟩
theorem CpO.n (h:CpO w base v L):CmsN w base v L:=by
 obtain ⟨cs,h1,h2,h3⟩:=h;exact ⟨cs,h1,h2.T,h3⟩
theorem CpO.bz (h:CpO w base v L) (hb:Below w.heap.size w w'):CpO w' base v L:=by
 obtain ⟨cs,h1,h2,h3⟩:=h;exact ⟨cs,own_below h1 hb,(h2.keep fun b _ _ _ hl=>hb.block b hl).hi_ hb.size,h3⟩
theorem CpO.empty (w:World) {base:Nat} (hb:base≤w.heap.size):CpO (w.alloc (.cells #[] tC)) base (.slice (some ⟨w.heap.size,0,none⟩) 0 0) .nil:=
 ⟨[],own_lower (own_empty w _ _) hb,⟨rfl,by simp;omega⟩,by simp[Cms.len]⟩
theorem CpO.grow {v':Value} {k a b:Int} {t:Fct} {i:Asn} {body els:Cms} {AF AA AB AE:Option Addr} {cF cA cB cE:Nat} {cs:List Value} {m m1 m2 m3:Nat}
  (hT:CpAt w v.ownBlock L cs base m) (hv0:∀ g,v.ownBlock=some g→g<m) (hl:L.len+1≤1049600) (e1:m≤m1) (e2:m1≤m2) (e3:m2≤m3) (e4:m3≤w.heap.size)
  (h1:RwX w (fun b=>m≤b∧b<m1) 3 AF i.facts.length (encF i.facts)) (h2:RwX w (fun b=>m≤b∧b<m1) 3 AA i.atoms.length (encA i.atoms))
  (h3:CpN w m1 m2 (.slice AB body.len cB) body) (h4:PartX w (fun b=>m2≤b∧b<m3) AE els)
  (ho:w'.ownsRow base tC 10 v' (L.len+1) (cs++tenL k a b t (.slice AF i.facts.length cF) (.slice AA i.atoms.length cA) (.slice AB body.len cB) (.slice AE els.len cE)))
  (hg:w.grownBy w' v.ownBlock) (hv:v'.ownBlock=v.ownBlock∨v'.ownBlock=some w.heap.size) (hz:w.heap.size≤w'.heap.size):CpO w' base v' (L.app (.cons k a b t i body els .nil)):=by
 have hlen:(L.app (.cons k a b t i body els .nil)).len=L.len+1:=by rw[Cms.len_app];rfl
 refine ⟨cs++tenL k a b t (.slice AF i.facts.length cF) (.slice AA i.atoms.length cA) (.slice AB body.len cB) (.slice AE els.len cE),by rw[hlen];exact ho,?_,by omega⟩
 have hM:CpAt w v.ownBlock (.cons k a b t i body els .nil) (tenL k a b t (.slice AF i.facts.length cF) (.slice AA i.atoms.length cA) (.slice AB body.len cB) (.slice AE els.len cE)) m w.heap.size:=
  ⟨AF,cF,AA,cA,AB,cB,AE,cE,[],m,m1,m2,m3,by rw[List.append_nil],⟨Nat.le_refl _,e1,e2,e3,fun g hg hx=>by have:=hv0 g hg;omega⟩,h1,h2,h3,h4,rfl,e4⟩
 have hA:=((hT.app hM).keep (w':=w') fun b _ _ hb hlt=>hg.block b hlt (fun e=>hb e.symm))
 exact (hA.own fun g hg=>by
  rcases hv with hv|hv
  ·exact Or.inl (hv▸hg)
  ·rw[hv] at hg;injection hg with hg;exact Or.inr (by omega)).hi_ hz
end
theorem below_ten {a w:World} {cb:Nat} {v0 v1 v2 v3 v4 v5 v6 v7 v8 v9:Value} (h:Below a.heap.size a w) (hc:a.heap.size≤cb):Below a.heap.size a (((((((((((w).setCell ⟨cb,0,none⟩ v0).setCell ⟨cb,1,none⟩ v1).setCell ⟨cb,2,none⟩ v2).setCell ⟨cb,3,none⟩ v3).setCell ⟨cb,4,none⟩ v4).setCell ⟨cb,5,none⟩ v5).setCell ⟨cb,6,none⟩ v6).setCell ⟨cb,7,none⟩ v7).setCell ⟨cb,8,none⟩ v8).setCell ⟨cb,9,none⟩ v9):=by
 iterate 10 (refine Below.setCell ?_ (by simp only;exact hc) _)
 exact h
theorem own_ten {w:World} {cb base size n:Nat} {t e:TypeId} {v:Value} {xs:List Value} {cs:Array Value} {v0 v1 v2 v3 v4 v5 v6 v7 v8 v9:Value} (h:w.ownsRow base e size v n xs) (hk:Blk w cb t cs) (ht:t≠e):World.ownsRow (((((((((((w).setCell ⟨cb,0,none⟩ v0).setCell ⟨cb,1,none⟩ v1).setCell ⟨cb,2,none⟩ v2).setCell ⟨cb,3,none⟩ v3).setCell ⟨cb,4,none⟩ v4).setCell ⟨cb,5,none⟩ v5).setCell ⟨cb,6,none⟩ v6).setCell ⟨cb,7,none⟩ v7).setCell ⟨cb,8,none⟩ v8).setCell ⟨cb,9,none⟩ v9) base e size v n xs:=by
 refine own_keep h fun g hg _=>ten0_far fun e0=>?_;obtain ⟨_,h2⟩:=h;rcases h2 with ⟨rfl,_⟩|⟨g',cap,cur,rfl,_,hh,_⟩
 ·simp[Value.ownBlock] at hg
 ·simp only[Value.ownBlock,Option.some.injEq] at hg;subst hg e0;exact Blk.ne_ hk hh ht rfl
theorem c_l8Assign (x y:Bs) (w:World) (hx:x.length≤2000000) (hy:y.length≤2000000):Calls Tryz.prog 279 #[sv x,sv y] w fun e w'=>e=.returned (.agg (simC (asgnPF x y).k (asgnPF x y).a (asgnPF x y).b))∧Below w.heap.size w w':=by
 have c1:=ax (fun w=>c_l8Bare x w hx);have c2:=ax (fun w=>c_l8Bare y w hy);have hA:aJ (asgnPF x y=⟨if (bareL y).2 then 2 else if (bareL x).2 then 3 else 1,pT (bareL x).1,pT (bareL y).1,fctZ,⟨[],[]⟩⟩):=ax rfl;have hta:=ax (show pT (bareL x).1=(((parseT (bareL x).1).getD 0:Nat):Int) from rfl);have htb:=ax (show pT (bareL y).1=(((parseT (bareL y).1).getD 0:Nat):Int) from rfl);obtain ⟨bx,hbx⟩:∃ b,b=(bareL x).2:=⟨_,rfl⟩;obtain ⟨by',hby⟩:∃ b,b=(bareL y).2:=⟨_,rfl⟩;obtain ⟨sx,hsx⟩:∃ b,b=(bareL x).1:=⟨_,rfl⟩;obtain ⟨sy,hsy⟩:∃ b,b=(bareL y).1:=⟨_,rfl⟩;rw[←hbx,←hsx] at c1;rw[←hby,←hsy] at c2;rw[←hbx,←hby,←hsx,←hsy] at hA;rw[←hsx] at hta;rw[←hsy] at htb;clear hbx hby hsx hsy;obtain ⟨ta,hta2⟩:∃ t:Int,t=pT sx:=⟨_,rfl⟩;obtain ⟨tb,htb2⟩:∃ t:Int,t=pT sy:=⟨_,rfl⟩;rw[←hta2] at hA hta;rw[←htb2] at hA htb;clear hta2 htb2;have k0:Blk (w.alloc (.cells (simC 0 0 0) tC)) w.heap.size tC (simC 0 0 0):=Blk.new _ _ _;(go_enter Tryz.func279,Tryz.ntmps279);(go_wp2_with fail);refine (c1.o _).mono ?_;rintro e w1 ⟨rfl,hB1⟩;replace k0:=k0.nz hB1;have HB1:=ax (bgo (w:=w) (bel:Below w.heap.size w (w.alloc (.cells (simC 0 0 0) tC))) hB1);clear hB1;(go_wp2_with fail);refine (c2.o _).mono ?_;rintro e w2 ⟨rfl,hB2⟩;replace k0:=k0.nz hB2;have HB2:=ax (bgo HB1.o hB2);clear hB2 HB1;(go_wp2_with fail);refine (c_ParseTerm sx _).mono ?_;rintro e w3 ⟨rfl,rfl⟩;rw[←hta.o];(go_wp2_with fail);refine (c_ParseTerm sy _).mono ?_;rintro e w3 ⟨rfl,rfl⟩;rw[←htb.o];have q0:=k0.cell;have r0:=k0.frozen;have l0:=k0.lt;unfold simC at q0 k0;cases by'
 ·cases bx
  ·(go_wp2_with fail);refine retW (D:=fun T=>Blk T w.heap.size tC (simC 1 ta tb)∧Below w.heap.size w T) ⟨ten0 k0,below_ten HB2.o (Nat.le_refl _)⟩ ?_;rintro T ⟨kT,r1⟩;have t:=kT.cell;exact bodyPost_ret (v:=.agg (simC 1 ta tb)) (by simp[results,Tryz.results279,go_sem,simC,t]) rfl ⟨by rw[hA.o];rfl,r1⟩
  ·(go_wp2_with fail);refine retW (D:=fun T=>Blk T w.heap.size tC (simC 3 ta tb)∧Below w.heap.size w T) ⟨ten0 k0,below_ten HB2.o (Nat.le_refl _)⟩ ?_;rintro T ⟨kT,r1⟩;have t:=kT.cell;exact bodyPost_ret (v:=.agg (simC 3 ta tb)) (by simp[results,Tryz.results279,go_sem,simC,t]) rfl ⟨by rw[hA.o];rfl,r1⟩
 ·cases bx
  ·(go_wp2_with fail);refine retW (D:=fun T=>Blk T w.heap.size tC (simC 2 ta tb)∧Below w.heap.size w T) ⟨ten0 k0,below_ten HB2.o (Nat.le_refl _)⟩ ?_;rintro T ⟨kT,r1⟩;have t:=kT.cell;exact bodyPost_ret (v:=.agg (simC 2 ta tb)) (by simp[results,Tryz.results279,go_sem,simC,t]) rfl ⟨by rw[hA.o];rfl,r1⟩
  ·(go_wp2_with fail);refine retW (D:=fun T=>Blk T w.heap.size tC (simC 2 ta tb)∧Below w.heap.size w T) ⟨ten0 k0,below_ten HB2.o (Nat.le_refl _)⟩ ?_;rintro T ⟨kT,r1⟩;have t:=kT.cell;exact bodyPost_ret (v:=.agg (simC 2 ta tb)) (by simp[results,Tryz.results279,go_sem,simC,t]) rfl ⟨by rw[hA.o];rfl,r1⟩
end
end Go.Proofs.YtjaohekkmlkinaaGreat
