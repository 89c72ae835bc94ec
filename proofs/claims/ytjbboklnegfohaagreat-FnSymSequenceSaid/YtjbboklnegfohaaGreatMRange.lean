/- What the reader draws: assertions, sometimes made invalid. -/
import Derived.Test.YtjbboklnegfohaaGreatMDrawC
import Derived.Deep.LoopGhost
import Derived.Deep.RegionHeld3
import Derived.Laws.CopyOwn
import Derived.RangeFuncWrites
import Derived.RangeFuncLeaves
import Derived.RangeFuncBound
import Derived.RangeFuncCalls
import Derived.WalkKit
import Derived.OwnWalkIn
import Derived.TacticsInMore
import Derived.LoopNIn
import Derived.LoopIn
import Derived.OrdersIn
set_option linter.unusedSimpArgs false
set_option linter.unusedVariables false
set_option maxRecDepth 100000
set_option maxHeartbeats 25600000
namespace Go.Proofs.YtjbboklnegfohaaGreat
open List (all_eq_true append_nil cons_append dropLast drop_eq_getElem_cons drop_length filter_append filter_congr filter_cons filter_cons_of_pos flatMap_cons getElem_mem getLast length_append length_cons length_map length_nil length_singleton length_take map map_append map_cons mem_append mem_cons mem_cons_of_mem mem_cons_self mem_filter mem_flatMap mem_range nil_append not_mem_nil range take take_length)
section
open Go Go.RowKit Go.Proofs
theorem Hq{lo hi:Nat}(g p:Nat)(v:Value)(a:au)(w:World)(h:dX w g p)(hp:p<=999900)(ha:aM w lo hi v a)(hl:a.facts.length<=900)(hl2:a.atoms.length<=900) :
  Calls Tryz.prog 11 #[.pointer (some ⟨g,0,none⟩),v] w fun e w'=>∃r a' q,e=.returned r/\aI w' w.heap.size r a'/\a'.facts.length<=a.facts.length+14/\a'.atoms.length<=a.atoms.length+7/\dX w' g q/\q<=p+4/\Fr g w w':=by
 have H:=ax h;have hV:=ax ha;have hlt:=h.lt;obtain⟨A1,c1,A2,c2,rfl,-,-⟩:=ha;clear h;(go_enter Tryz.func11,Tryz.ntmps11);have kr:ae ((w.alloc (.cells #[.slice A1 a.facts.length c1,.slice A2 a.atoms.length c2] 26)).alloc (.cells #[.slice none 0 0,.slice none 0 0] 26)) (w.heap.size+1) 26 #[.slice none 0 0,.slice none 0 0]:=az;(go_wp2_with fail);refine(oG _ a _ (hV.o.bz aj)).mono ?_;rintro e w1 ⟨r,rfl,o,hB1⟩;have hB:=aP (w:=w) aj hB1;replace kr:=kr.nz hB1;replace o:=o.bq (base':=w.heap.size) (by simp;omega);obtain⟨fv,av,rfl,o1,o2⟩:=o;obtain⟨F,e1,rfl,-⟩:=o1.rj;obtain⟨G,e2,rfl,-⟩:=o2.rj;have uh:aJ (Fr g w w1):=Fr.uN hB;have HR1:aJ (dX w1 g p):=H.o.bz hB;have l1:=kr.lt;obtain⟨x2,hx2⟩:∃x2,x2=w1.heap.size:=⟨_,rfl⟩;have lx:w.heap.size+2<=x2:=by omega
 have ko:ae (w1.alloc (.cells #[.slice F a.facts.length e1,.slice G a.atoms.length e2] 26)) x2 26 #[.slice F a.facts.length e1,.slice G a.atoms.length e2]:=by rw[hx2];exact ae.new _ _ _
 have O1:=ax (o1.bz (ai aU (.cells #[.slice F a.facts.length e1,.slice G a.atoms.length e2] 26)));have O2:=ax (o2.bz (ai aU (.cells #[.slice F a.facts.length e1,.slice G a.atoms.length e2] 26)));clear hB1 hB o1 o2;(go_wp2_with fail);refine(iw g p 50 _ (HR1.o.bz aj) (by omega)).mono ?_;rintro e w2 ⟨m,rfl,-,hR,hF⟩;rw[<-hx2];replace kr:=(kr.alloc (.cells #[.slice F a.facts.length e1,.slice G a.atoms.length e2] 26)).fr hF;replace ko:=ko.fr hF;have pQ:=ax ((uh.o.alloc _).trans hF);have HR2:=ax hR;have L9:=ax (O1.o.fr hF hlt);have BA:=ax (O2.o.fr hF hlt);have lk:=ko.lt;have hne:w.heap.size+1≠x2:=by omega
 clear hR hF uh HR1 O1 O2 l1 hx2;(replace Kz:=ko.z;replace uS:=kr.cell;replace EF:=kr.frozen;replace EG:=kr.lt);by_cases hm0:(m:Int)=0
 ·have t0:((m:Int) == 0)=true:=by simpa using hm0
  clear hm0;(go_wp2_with (at_builtin;refine gN (xs:=a.facts) (ys:=[⟨false,9,0⟩]) (base:=w.heap.size) rfl _ _ rfl rfl (L9.o.bz aj) rfl (aG.Bz (ae.dA rfl)) (by simp;omega) (by simp;omega) ?_;intro A4 d4 w4 o4 hg4 hB4;rw[length_append,length_singleton] at o4⊢));have tu:Fr g w w4:=(pQ.o.alloc _).Er hB4 bn;have BV:dX w4 g (p+1):=(HR2.o.bz (ai aU _)).jE hB4 hlt;have k4:=ae.zm (hg:=hg4) (ko.alloc _) (L9.o.bz (ai aU _)).1 (by decide);have Es:=ae.zm (hg:=hg4) (kr.alloc _) (L9.o.bz (ai aU _)).1 (by decide);have Mw:=af.lY (BA.o.bz (ai aU _)) (L9.o.bz (ai aU _)) hg4;have hrd:aG w4 w.heap.size w4.heap.size A4 (a.facts++[⟨false,9,0⟩]):=o4.dG.2;have Pg:=tu.size;have HH:=ax (And.intro tu (And.intro BV (And.intro Mw hrd)));clear tu BV Mw hrd o4 hg4 hB4 ko kr Kz uS EF EG;have Ru:=Ho g (p+1) A4 d4 (a.facts++[⟨false,9,0⟩]) w4 HH.o.2.1 (by omega) HH.o.2.2.2 (by simp;omega);rw[length_append,length_singleton] at Ru;refine Ru.mono ?_;clear Ru;rintro e w5 ⟨r5,fs',q,rfl,o5,QI,BU,hq5,zq⟩;obtain⟨B,d5,rfl,-⟩:=o5.rj;replace k4:=k4.fr zq;replace Es:=Es.fr zq;have HFs:=ax (HH.o.1.trans zq);have HAs:=ax (HH.o.2.2.1.fr zq hlt);have HRs:=ax BU;have HOs:=ax (o5.bq (base':=w.heap.size) Pg);have HLn:=ax QI;clear zq BU o5 HH QI;(replace eZ:=k4.z;replace Pj:=Es.cell;replace Yc:=Es.frozen;replace Yd:=Es.lt);(go_wp2_with fail);have JD:=Es.fz x2 0 (.slice B fs'.length d5);refine bodyPost_ret (v:=.agg #[.slice B fs'.length d5,.slice G a.atoms.length e2]) (by simp[results,Tryz.results11,go_sem,Pj]) rfl ⟨_,⟨fs',a.atoms⟩,q,rfl,⟨_,_,rfl,?_,?_⟩,by have:=HLn.o;simp only[length_append,length_singleton] at this⊢;omega,by simp only;omega,?_,by omega,?_⟩
  ·exact((HOs.o.aA k4 (by decide) 0 _).aA JD (by decide) 0 _).aA (JD.ag 0 _) (by decide) 1 _
  ·exact((HAs.o.aA k4 (by decide) 0 _).aA JD (by decide) 0 _).aA (JD.ag 0 _) (by decide) 1 _
  ·exact((HRs.o.ag (by simp only;omega) _).ag (by simp only;omega) _).ag (by simp only;omega) _
  ·exact((HFs.o.ag (Or.inr (by simp only;omega)) _).ag (Or.inr (by simp only;omega)) _).ag (Or.inr (by simp only;omega)) _
 ·have t0:((m:Int) == 0)=false:=by simpa using hm0
  clear hm0;by_cases hm1:(m:Int)=1
  ·have t1:((m:Int) == 1)=true:=by simpa using hm1
   clear hm1;go_wp2;refine wp_region_noPanic ?_;refine bQ (S:=(fun w'=>∀i,w'.cell? ⟨x2,i,none⟩=#[.slice F a.facts.length e1,.slice G a.atoms.length e2][i]?)) (by simp) (by kernel_rfl) (by kernel_rfl) (ae.cell az) (fun aH=>?_);simp only[dropLast,getLast,gP,cons_append,nil_append,length_cons,length_nil,Nat.zero_add,Nat.reduceAdd];refine O7 0 1 2 5 ?_
   refine mQ [3,4,6,7] #[true,true,true,true,true,true,true,true,false,false,false,false,false] 4 (by kernel_rfl) aH
    (fun a0 D a w'=>Fr g w2 w'/\(∃q',dX w' g q'/\q'<=(p+1)+(dn D 4).toNat+(dn D 7).toNat)/\∃v25 v26 v28 v29,a=((((a0.put (some 25) v25).put (some 26) v26).put (some 28) v28).put (some 29) v29)/\
     (dn D 3=true->∃x,v25=.slice (some ⟨x,0,none⟩) 3 3/\g<x/\ae w' x tI #[.int .i64 0,.int .i64 3,.int .i64 1])/\
     (dn D 4=true->∃m,m∈[(0:Int),3,1]/\v26=.int .i64 m)/\
     (dn D 6=true->∃x,v28=.slice (some ⟨x,0,none⟩) 3 3/\g<x/\ae w' x tI #[.int .i64 1,.int .i64 9,.int .i64 (-1)])/\
     (dn D 7=true->∃m,m∈[(1:Int),9,-1]/\v29=.int .i64 m)) ?start ?steps ?fin
   case start=>
    refine⟨(Fr.refl g w2).drew,⟨(p+1),HR2.o.bz aj,by omega⟩,undef,undef,undef,undef,rfl,?_,?_,?_,?_⟩
    all_goals exact fun h=>absurd h (by decide)
   case steps=>
    refine aV.cons rfl (fun D a w' hu hd hI hS K' hK G hG=>?_) (aV.cons rfl (fun D a w' hu hd hI hS K' hK G hG=>?_) (aV.cons rfl (fun D a w' hu hd hI hS K' hK G hG=>?_) (aV.cons rfl (fun D a w' hu hd hI hS K' hK G hG=>?_) (aV.nil))))
    ·obtain⟨hF,⟨q',hR,hq'⟩,v25,v26,v28,v29,ha,h3,h4,h6,h7⟩:=hI;rw[ha] at hG;clear ha a;replace hq':=ax hq';replace hR:=ax hR;replace hF:=ax hF;replace hS:=ax hS;replace h3:=ax h3;replace h4:=ax h4;replace h6:=ax h6;replace h7:=ax h7;refine hG ?_;clear hG;(try simp only[zz]);go_simp;have lD:=hF.o.alloc (.cells #[.int .i64 0,.int .i64 3,.int .i64 1] tI);exact hK.out _ _ (fun i=>(ko.fr lD).cell i) ⟨lD,⟨q',hR.o.bz aj,(by rw[aT (show 3≠4 by decide),aT (show 3≠7 by decide)];exact hq'.o)⟩,(.slice (some ⟨w'.heap.size,0,none⟩) 3 3),v26,v28,v29,rfl,fun _=>⟨w'.heap.size,rfl,hR.o.lt,ae.new _ _ _⟩,aK (by decide) h4.o id,aK (by decide) h6.o (fun⟨x,e,hx,hb⟩=>⟨x,e,hx,hb.alloc _⟩),aK (by decide) h7.o id⟩
    ·obtain⟨hF,⟨q',hR,hq'⟩,v25,v26,v28,v29,ha,h3,h4,h6,h7⟩:=hI;rw[ha] at hG;clear ha a;replace hq':=ax hq';replace hR:=ax hR;replace hF:=ax hF;replace hS:=ax hS;replace h3:=ax h3;replace h4:=ax h4;replace h6:=ax h6;replace h7:=ax h7;have d3:dn D 3=true:=hd ⟨3,.data⟩ (by simp) (by decide);obtain⟨x,rfl,hx,hb⟩:=h3.o d3;clear h3 hd;refine hG ?_;clear hG;(try simp only[zz]);go_simp;refine(eU g q' [(0:Int),3,1] x 3 _ _ hR.o (by have:=hq'.o;have:=Bool.toNat_le (dn D 4);have:=Bool.toNat_le (dn D 7);omega) hb (by rfl) hx (by rfl) (by decide) (by decide)).mono ?_;rintro e w2 ⟨m,hm,rfl,hR2,hF2⟩;have lD:=hF.o.trans hF2;exact hK.out _ _ (fun i=>(ko.fr lD).cell i) ⟨lD,⟨q'+1,hR2,(by have z:=hq'.o;rw[nJ hu] at z;rw[jV hu,aT (show 4≠7 by decide)];simp only[Bool.toNat_true,Bool.toNat_false] at z⊢;omega)⟩,(.slice (some ⟨x,0,none⟩) 3 3),(.int .i64 m),v28,v29,rfl,fun _=>⟨x,rfl,hx,hb.fr hF2⟩,fun _=>⟨m,hm,rfl⟩,aK (by decide) h6.o (fun⟨x,e,hx,hb⟩=>⟨x,e,hx,hb.fr hF2⟩),aK (by decide) h7.o id⟩
    ·obtain⟨hF,⟨q',hR,hq'⟩,v25,v26,v28,v29,ha,h3,h4,h6,h7⟩:=hI;rw[ha] at hG;clear ha a;replace hq':=ax hq';replace hR:=ax hR;replace hF:=ax hF;replace hS:=ax hS;replace h3:=ax h3;replace h4:=ax h4;replace h6:=ax h6;replace h7:=ax h7;refine hG ?_;clear hG;(try simp only[zz]);go_simp;have lD:=hF.o.alloc (.cells #[.int .i64 1,.int .i64 9,.int .i64 (-1)] tI);exact hK.out _ _ (fun i=>(ko.fr lD).cell i) ⟨lD,⟨q',hR.o.bz aj,(by rw[aT (show 6≠4 by decide),aT (show 6≠7 by decide)];exact hq'.o)⟩,v25,v26,(.slice (some ⟨w'.heap.size,0,none⟩) 3 3),v29,rfl,aK (by decide) h3.o (fun⟨x,e,hx,hb⟩=>⟨x,e,hx,hb.alloc _⟩),aK (by decide) h4.o id,fun _=>⟨w'.heap.size,rfl,hR.o.lt,ae.new _ _ _⟩,aK (by decide) h7.o id⟩
    ·obtain⟨hF,⟨q',hR,hq'⟩,v25,v26,v28,v29,ha,h3,h4,h6,h7⟩:=hI;rw[ha] at hG;clear ha a;replace hq':=ax hq';replace hR:=ax hR;replace hF:=ax hF;replace hS:=ax hS;replace h3:=ax h3;replace h4:=ax h4;replace h6:=ax h6;replace h7:=ax h7;have d6:dn D 6=true:=hd ⟨6,.data⟩ (by simp) (by decide);obtain⟨x,rfl,hx,hb⟩:=h6.o d6;clear h6 hd;refine hG ?_;clear hG;(try simp only[zz]);go_simp;refine(eU g q' [(1:Int),9,-1] x 3 _ _ hR.o (by have:=hq'.o;have:=Bool.toNat_le (dn D 4);have:=Bool.toNat_le (dn D 7);omega) hb (by rfl) hx (by rfl) (by decide) (by decide)).mono ?_;rintro e w2 ⟨m,hm,rfl,hR2,hF2⟩;have lD:=hF.o.trans hF2;exact hK.out _ _ (fun i=>(ko.fr lD).cell i) ⟨lD,⟨q'+1,hR2,(by have z:=hq'.o;rw[nJ hu] at z;rw[jV hu,aT (show 7≠4 by decide)];simp only[Bool.toNat_true,Bool.toNat_false] at z⊢;omega)⟩,v25,v26,(.slice (some ⟨x,0,none⟩) 3 3),(.int .i64 m),rfl,aK (by decide) h3.o (fun⟨x,e,hx,hb⟩=>⟨x,e,hx,hb.fr hF2⟩),aK (by decide) h4.o id,fun _=>⟨x,rfl,hx,hb.fr hF2⟩,fun _=>⟨m,hm,rfl⟩⟩
   case fin=>
    rintro a w4 aH ⟨hF,⟨q',hR,hq'⟩,v25,v26,v28,v29,rfl,h3,h4,h6,h7⟩;obtain⟨m4,Pk,rfl⟩:=h4 (by decide);obtain⟨m7,Rt,rfl⟩:=h7 (by decide);replace hq':q'<=(p+1)+2:=hq';clear h3 h6;(try simp only[zz]);have UT:=ko.fr hF;have Es:=kr.fr hF;have Xh:=ax (BA.o.fr hF hlt);have Ye:=ax (L9.o.fr hF hlt);have Ky:=ax (pQ.o.trans hF);have HR4:=ax hR;have Pg:=Ky.o.size;have hlen:a.atoms.length+1<=1049600:=by omega
    clear hF hR Pk Rt ko kr Kz uS EF EG pQ HR2 L9 BA;refine jh 8 ?_;refine aX 9 rfl fun K hK=>?_;(try simp only[zz]);go_simp;refine hK.out _ _ (ae.cell az) ?_;clear aH hK K;intro aH;(try simp only[zz]);refine aX 10 rfl fun K hK=>?_;skip;(refine lW (ys:=[⟨m4,m7,2⟩]) (base:=w.heap.size) rfl _ _ rfl rfl (Xh.o.bz aj) rfl (aB.Bz (ae.dA rfl)) (by simpa using hlen) (by first|omega|(simp;omega)) ?_;intro A' c' w5 o5 hg5 bW;have Yf:=ae.zm (g:=x2) (hg:=hg5) az (Xh.o.bz (ai aU _)).1 (by decide);have JC:=ae.zm (g:=w.heap.size+1) (hg:=hg5) az (Xh.o.bz (ai aU _)).1 (by decide);have Xg:=ah.jF (Ye.o.bz (ai aU _)) (Xh.o.bz (ai aU _)) hg5;rw[length_append,length_singleton] at o5⊢;clear hg5);refine hK.out _ _ (ae.cell az) ?_;clear aH hK K;intro aH;refine jh 11 ?_;(replace qko5:=Yf.z;replace Yg:=JC.cell;replace rkr5:=JC.frozen;replace lkr5:=JC.lt);refine aX 12 rfl fun K hK=>?_;go_simp;refine hK.out _ _ (ae.cell az) (fun aH=>?_);clear hK K;refine wpAnyH_done (by kernel_rfl) ?_ _;unfold mi;go_simp;refine NoPanic.normal ?_;have zq:Fr g w w5:=(Ky.o.alloc _).Er bW bn;have BU:dX w5 g q':=(HR4.o.bz (ai aU _)).jE bW hlt;have HH:=ax (And.intro zq (And.intro BU (And.intro Xg o5)));have JD:=JC.fz x2 1 (.slice A' (a.atoms.length+1) c');clear zq BU Xg o5 bW;go_wp2;refine bodyPost_ret (v:=.agg #[.slice F a.facts.length e1,.slice A' (a.atoms.length+1) c']) (by simp[results,Tryz.results11,go_sem,Yg]) rfl ⟨_,⟨a.facts,a.atoms++[⟨m4,m7,2⟩]⟩,q',rfl,⟨_,_,rfl,?_,?_⟩,by simp only;omega,by simp,?_,by omega,?_⟩
    ·exact((HH.o.2.2.1.aA Yf (by decide) 1 _).aA JD (by decide) 0 _).aA (JD.ag 0 _) (by decide) 1 _
    ·exact((HH.o.2.2.2.aA Yf (by decide) 1 _).aA JD (by decide) 0 _).aA (JD.ag 0 _) (by decide) 1 _
    ·exact((HH.o.2.1.ag (by simp only;omega) _).ag (by simp only;omega) _).ag (by simp only;omega) _
    ·exact((HH.o.1.ag (Or.inr (by simp only;omega)) _).ag (Or.inr (by simp only;omega)) _).ag (Or.inr (by simp only;omega)) _
  ·have t1:((m:Int) == 1)=false:=by simpa using hm1
   clear hm1;by_cases hm2:(m:Int)=2
   ·have t2:((m:Int) == 2)=true:=by simpa using hm2
    clear hm2;(go_wp2_with fail)
    go_loopg [] (a.atoms.length+7 - a.atoms.length) (fun gh wx=>∃(xs:List aL) (B:Option Addr) (d:Nat),7<=gh+xs.length/\(xs.length<=7\/xs.length<=a.atoms.length)/\aJ (af wx w.heap.size (.slice B xs.length d) xs)/\aJ (ah wx w.heap.size (.slice F a.facts.length e1) a.facts)/\ae wx x2 26 #[.slice F a.facts.length e1,.slice B xs.length d]/\ae wx (w.heap.size+1) 26 #[.slice none 0 0,.slice none 0 0]/\aJ (dX wx g (p+1))/\aJ (Fr g w wx))
    case atStart=>exact⟨a.atoms,G,e2,by omega,Or.inr bn,BA.o,L9.o,ko,kr,HR2.o,pQ.o⟩
    case round=>
     clear ko kr Kz uS EF EG pQ HR2 L9 BA;obtain⟨xs,B,d,hgh,hx,HO,TS,ko,kr,HR,HF⟩:=hrel;have hsz:=HF.o.size;have HX:=ax hx;have lk:=ko.lt;(replace Kz:=ko.z;replace uS:=kr.cell;replace EF:=kr.frozen;replace EG:=kr.lt);clear hx;by_cases hle:xs.length<=6
     ·have Mt:(xs.length:Int)<=6:=by omega
      (go_wp2_with (at_builtin;refine qG (ys:=[⟨2,1,1⟩]) (base:=w.heap.size) rfl _ _ rfl rfl (HO.o.bz aj) rfl (aB.Bz (ae.dA rfl)) (by simp;omega) (by simp;omega) ?_;intro A4 d4 w4 o4 hg4 hB4;rw[length_append,length_singleton] at o4⊢;have UT:=ae.zm (g:=x2) (hg:=hg4) (ko.alloc _) (HO.o.bz (ai aU _)).1 (by decide);have Es:=ae.zm (g:=w.heap.size+1) (hg:=hg4) (kr.alloc _) (HO.o.bz (ai aU _)).1 (by decide);have Et:=ah.jF (TS.o.bz (ai aU _)) (HO.o.bz (ai aU _)) hg4;(replace qko4:=UT.z;replace Pj:=Es.cell;replace Yc:=Es.frozen;replace Yd:=Es.lt);clear hg4));have tu:Fr g w w4:=(HF.o.alloc _).Er hB4 bn;have BV:dX w4 g (p+1):=(HR.o.bz (ai aU _)).jE hB4 hlt
      go_roundg (7 - (xs.length+1))
      case rel=>exact⟨xs++[⟨2,1,1⟩],A4,d4,by simp;omega,Or.inl (by simp;omega),by simpa[aJ] using o4.aA UT (by decide) 1 (.slice A4 (xs.length+1) d4),by simpa[aJ] using Et.aA UT (by decide) 1 (.slice A4 (xs.length+1) d4),by simpa using UT.ag 1 (.slice A4 (xs.length+1) d4),Es.far (by simp only;omega) _,BV.ag (by simp only;omega) _,tu.ag (Or.inr (by simp only;omega)) _⟩
      case measure=>omega
     ·have Mt:¬(xs.length:Int)<=6:=by omega
      go_wp2;refine bodyPost_ret (v:=.agg #[.slice F a.facts.length e1,.slice B xs.length d]) (by simp[results,Tryz.results11,go_sem,uS]) rfl ⟨_,rfl,⟨a.facts,xs⟩,⟨_,_,rfl,?_,?_⟩,by simp only;omega,by have:=HX.o;simp only;omega,p+1,?_,by omega,?_⟩
      ·exact(TS.o.aA kr (by decide) 0 _).aA (kr.ag 0 _) (by decide) 1 _
      ·exact(HO.o.aA kr (by decide) 0 _).aA (kr.ag 0 _) (by decide) 1 _
      ·exact(HR.o.ag (by simp only;omega) _).ag (by simp only;omega) _
      ·exact(HF.o.ag (Or.inr (by simp only;omega)) _).ag (Or.inr (by simp only;omega)) _
   ·have t2:((m:Int) == 2)=false:=by simpa using hm2
    clear hm2;go_wp2;refine bodyPost_ret (v:=.agg #[.slice F a.facts.length e1,.slice G a.atoms.length e2]) (by simp[results,Tryz.results11,go_sem,uS]) rfl ⟨_,a,p+1,rfl,⟨_,_,rfl,?_,?_⟩,by omega,by omega,?_,by omega,?_⟩
    ·exact(L9.o.aA kr (by decide) 0 _).aA (kr.ag 0 _) (by decide) 1 _
    ·exact(BA.o.aA kr (by decide) 0 _).aA (kr.ag 0 _) (by decide) 1 _
    ·exact(HR2.o.ag (by simp only;omega) _).ag (by simp only;omega) _
    ·exact(pQ.o.ag (Or.inr (by simp only;omega)) _).ag (Or.inr (by simp only;omega)) _
def nX(w:World)(lo hi:Nat)(v:Value)(fs:List aF):Prop:=ah w lo v fs/\Bw v hi
def nY(w:World)(lo hi:Nat)(v:Value)(fs:List aL):Prop:=af w lo v fs/\Bw v hi
def mo(w:World)(lo hi:Nat)(v:Value)(fs:List Int):Prop:=aD w lo v fs/\Bw v hi
def pR(w:World)(lo hi:Nat)(v:Value)(a:au):Prop:=∃fv av,v=.agg #[fv,av]/\nX w lo hi fv a.facts/\nY w lo hi av a.atoms
section
variable{w w':World}{lo hi bJ hi' a b:Nat}{v:Value}
theorem sM{w:World}{base:Nat}{e:TypeId}{size:Nat}{v:Value}{n:Nat}{xs:List Value}{hi:Nat}(h:w.ownsRow base e size v n xs)(hu:Bw v hi):∀g,v.ownBlock=some g->base<=g/\g<hi:=fun g hg=>⟨(h.lt g hg).1,hu g hg⟩
theorem nX.bz{fs:List aF}(h:nX w lo hi v fs)(hb:Below w.heap.size w w'):nX w' lo hi v fs:=⟨h.1.bz hb,h.2⟩
theorem nY.bz{fs:List aL}(h:nY w lo hi v fs)(hb:Below w.heap.size w w'):nY w' lo hi v fs:=⟨h.1.bz hb,h.2⟩
theorem mo.bz{fs:List Int}(h:mo w lo hi v fs)(hb:Below w.heap.size w w'):mo w' lo hi v fs:=⟨h.1.bz hb,h.2⟩
theorem pR.bz{x:au}(h:pR w lo hi v x)(hb:Below w.heap.size w w'):pR w' lo hi v x:=by
 obtain⟨fv,av,e,h1,h2⟩:=h;exact⟨fv,av,e,h1.bz hb,h2.bz hb⟩
theorem nX.mk{fs:List aF}(h:nX w lo hi v fs)(hb:Mk (fun g=>a<=g/\g<b) w w')(hd:hi<=a\/b<=lo):nX w' lo hi v fs:=
 ⟨h.1.mk hb fun g hg hp=>by have:=sM h.1.1 h.2 g hg;omega,h.2⟩
theorem nY.mk{fs:List aL}(h:nY w lo hi v fs)(hb:Mk (fun g=>a<=g/\g<b) w w')(hd:hi<=a\/b<=lo):nY w' lo hi v fs:=
 ⟨h.1.mk hb fun g hg hp=>by have:=sM h.1.1 h.2 g hg;omega,h.2⟩
theorem mo.mk{fs:List Int}(h:mo w lo hi v fs)(hb:Mk (fun g=>a<=g/\g<b) w w')(hd:hi<=a\/b<=lo):mo w' lo hi v fs:=
 ⟨h.1.mk hb fun g hg hp=>by have:=sM h.1.1 h.2 g hg;omega,h.2⟩
theorem pR.mk{x:au}(h:pR w lo hi v x)(hb:Mk (fun g=>a<=g/\g<b) w w')(hd:hi<=a\/b<=lo):pR w' lo hi v x:=by
 obtain⟨fv,av,e,h1,h2⟩:=h;exact⟨fv,av,e,h1.mk hb hd,h2.mk hb hd⟩
theorem nX.form{fs:List aF}(h:nX w lo hi v fs):∃A c,v=.slice A fs.length c:=by obtain⟨A,c,e,-⟩:=h.1.rj;exact⟨A,c,e⟩
theorem nY.form{fs:List aL}(h:nY w lo hi v fs):∃A c,v=.slice A fs.length c:=by obtain⟨A,c,e,-⟩:=h.1.rj;exact⟨A,c,e⟩
theorem mo.form{fs:List Int}(h:mo w lo hi v fs):∃A c,v=.slice A fs.length c:=by obtain⟨A,c,e,-⟩:=h.1.rj;exact⟨A,c,e⟩
theorem pR.form{x:au}(h:pR w lo hi v x):∃A c B d,v=.agg #[.slice A x.facts.length c,.slice B x.atoms.length d]:=by
 obtain⟨fv,av,rfl,h1,h2⟩:=h;obtain⟨A,c,rfl⟩:=h1.form;obtain⟨B,d,rfl⟩:=h2.form;exact⟨A,c,B,d,rfl⟩
theorem mo.rj{A:Option Addr}{n c:Nat}{fs:List Int}(h:mo w lo hi (.slice A n c) fs):bG w lo w.heap.size A fs:=h.1.dG.2
theorem pR.rj{x:au}(h:pR w lo hi v x):aM w lo w.heap.size v x:=by
 obtain⟨fv,av,e,h1,h2⟩:=h;exact aI.rj ⟨fv,av,e,h1.1,h2.1⟩
theorem ah.I{fs:List aF}(h:ah w lo v fs):nX w lo w.heap.size v fs:=⟨h,h.und⟩
theorem af.I{fs:List aL}(h:af w lo v fs):nY w lo w.heap.size v fs:=⟨h,h.und⟩
theorem aD.I{fs:List Int}(h:aD w lo v fs):mo w lo w.heap.size v fs:=⟨h,h.und⟩
theorem aI.I{x:au}(h:aI w lo v x):pR w lo w.heap.size v x:=by
 obtain⟨fv,av,e,h1,h2⟩:=h;exact⟨fv,av,e,h1.I,h2.I⟩
theorem pR.len{x:au}(h:pR w lo hi v x):x.facts.length<=1049600/\x.atoms.length<=1049600:=by
 obtain⟨fv,av,e,h1,h2⟩:=h;exact⟨h1.1.2,h2.1.2⟩
theorem mo.len{x:List Int}(h:mo w lo hi v x):x.length<=1049600:=h.1.2
theorem Mk.gp{B:Nat}{w0:World}(h:Below B w0 w)(hm:Mk (fun g=>a<=g/\g<b) w w')(hB:B<=a)(hs:B<=w.heap.size):Below B w0 w':=
 h.trans (hm.bz (fun k hk=>by omega) hs)
end
theorem BC{w:World}{base:Nat}{e:TypeId}{size:Nat}{v:Value}{n X:Nat}{xs:List Value}(h:w.ownsRow base e size v n xs)(hu:Bw v X){q:Addr}(hq:X<=q.block)(u:Value):(w.setCell q u).ownsRow base e size v n xs:=by
 obtain⟨h1,h2⟩:=h;refine⟨h1,?_⟩;rcases h2 with h2|⟨k,cap,cur,hv,hk,hh,r⟩
 ·exact Or.inl h2
 ·refine Or.inr ⟨k,cap,cur,hv,hk,(Below.heap_setCell w q u k ?_).trans hh,r⟩;have:=hu k (by rw[hv];rfl);omega
theorem af.KB{w:World}{base X:Nat}{v:Value}{xs:List aL}(h:af w base v xs)(hu:Bw v X){q:Addr}(hq:X<=q.block)(u:Value):af (w.setCell q u) base v xs:=⟨BC h.1 hu hq u,h.2⟩
def zt(w:World)(A:Option Addr)(n c:Nat):Prop:=∃bs:List Nat,n=bs.length/\Rw w 0 w.heap.size 1 A n (Df bs)/\(∀b∈bs,b<256)/\n<=c/\n<=9223372036854775807
theorem KC(A:Option Addr)(n c:Nat)(w:World)(h:zt w A n c) :
  Calls Tryz.prog 10 #[.slice A n c] w fun e w'=>∃g,e=.returned (.pointer (some ⟨g,0,none⟩))/\w.heap.size<=g/\dX w' g 0/\Below w.heap.size w w':=by
 obtain⟨bs,rfl,hR,hU,hc,hm⟩:=h;by_cases hl:2000<bs.length
 ·have Pd:(2000:Int)<(bs.length:Int):=by omega
  have hci:(2000:Int)<=(c:Int):=by omega
  have hcn:2000<=c:=by omega
  obtain⟨b,o,rfl,h1,h2,h3⟩:=hR.form (by omega);have HC:=ax h3;have HU:=ax hU;have hlz:=hR.1;clear hR h3 hU;(go_enter Tryz.func10,Tryz.ntmps10);(go_wp2_with fail);have e2:(bs.take 2000).length=2000:=by simp;omega
  have hRw:Rw w 0 w.heap.size 1 (some ⟨b,o,none⟩) (bs.take 2000).length (Df (bs.take 2000)):=by
   refine⟨by simp[Df],fun _=>⟨b,o,rfl,dJ,h2,fun j u hu=>HC.o j u ?_⟩⟩;unfold Df at hu⊢;rw[List.map_take,List.getElem?_take] at hu
   split at hu
   ·exact hu
   ·cases hu
  have HW:=ax hRw;clear hRw;go_ret;exact⟨w.heap.size,rfl,bn,⟨some ⟨b,o,none⟩,c,bs.take 2000,by rw[e2];exact ae.new _ _ _,HW.o.keep fun b _ hb=>Below.heap_alloc w _ b hb,fun x hx=>HU.o x (List.mem_of_mem_take hx),by omega⟩,aj⟩
 ·have Pd:¬(2000:Int)<(bs.length:Int):=by omega
  have HR:=ax hR;have HU:=ax hU;clear hR hU;(go_enter Tryz.func10,Tryz.ntmps10);go_wp2;go_ret;exact⟨w.heap.size,rfl,bn,⟨A,c,bs,ae.new _ _ _,HR.o.keep fun b _ hb=>Below.heap_alloc w _ b hb,HU.o,by omega⟩,aj⟩
theorem zu(g p:Nat)(w:World)(h:dX w g p)(hp:p<=999900) :
  Calls Tryz.prog 38 #[.pointer (some ⟨g,0,none⟩)] w fun e w'=>∃r a q,e=.returned r/\aI w' w.heap.size r a/\a.valid=true/\a.facts.length<=1/\a.atoms.length<=4/\dX w' g q/\q<=p+30/\Fr g w w':=by
 have H:=ax h;have hlt:=h.lt;clear h;(go_enter Tryz.func38,Tryz.ntmps38);have kr:ae ((w.alloc (.cells #[.slice none 0 0,.slice none 0 0] 26)).alloc (.cells #[.slice none 0 0,.slice none 0 0] 26)) w.heap.size 26 #[.slice none 0 0,.slice none 0 0]:=az;have ka:ae ((w.alloc (.cells #[.slice none 0 0,.slice none 0 0] 26)).alloc (.cells #[.slice none 0 0,.slice none 0 0] 26)) (w.heap.size+1) 26 #[.slice none 0 0,.slice none 0 0]:=az;have Hl:aJ (Fr g w ((w.alloc (.cells #[.slice none 0 0,.slice none 0 0] 26)).alloc (.cells #[.slice none 0 0,.slice none 0 0] 26))):=((Fr.refl g w).alloc _).alloc _;have hltn:g≠w.heap.size+1:=by omega
 (go_wp2_with fail);refine(eU g p [1,2,5] _ _ _ _ (H.o.bz aj) (by omega) az (by rfl) (by first|omega|(simp;omega)) (by rfl) (by decide) (by decide)).mono ?_;rintro e w1 ⟨t0,ht0,rfl,hR,hF⟩;replace kr:=(kr.alloc _).fr hF;replace ka:=(ka.alloc _).fr hF;have uh:aJ (Fr g w w1):=(Hl.o.alloc _).trans hF;have HR1:=ax hR;have HT0:=ax ((by decide:∀m∈[(1:Int),2,5],jq m=true) t0 ht0);have l1:=kr.lt;clear hR hF Hl H ht0;(go_wp2_with fail);refine(eU g (p+1) [2,3,1,4] _ _ _ _ (HR1.o.bz aj) (by omega) az (by rfl) (by first|omega|(simp;omega)) (by rfl) (by decide) (by decide)).mono ?_;rintro e w2 ⟨m,hm,rfl,hR,hF⟩;replace kr:=(kr.alloc _).fr hF;replace ka:=(ka.alloc _).fr hF;have pQ:aJ (Fr g w w2):=(uh.o.alloc _).trans hF;have HR2:=ax hR;obtain⟨k0,rfl⟩:=Int.eq_ofNat_of_zero_le ((by decide:∀m∈[(2:Int),3,1,4],0<=m) m hm);have hk4:k0<=4:=by have:=(by decide:∀m∈[(2:Int),3,1,4],m<=4) _ hm;omega
 clear hR hF uh HR1 hm l1;(go_wp2_with fail)
 go_loopw [4,5] (fun s i wr=>∃(k:Nat) (t:Int) (xs:List aL) (B:Option Addr) (d q:Nat),i=.int .i64 k/\s=.int .i64 t/\aJ (jq t=true)/\k+xs.length<=4/\af wr w.heap.size (.slice B xs.length d) xs/\aJ (∀x∈xs,x.valid=true)/\ae wr w.heap.size 26 #[.slice none 0 0,.slice none 0 0]/\ae wr (w.heap.size+1) 26 #[.slice none 0 0,.slice B xs.length d]/\dX wr g q/\q+2 * k<=p+10/\aJ (Fr g w wr)) (fun _ i _=>(intOf i).toNat)
 case atStart=>exact⟨k0,t0,[],none,0,p+1+1,rfl,rfl,HT0.o,by simpa using hk4,af.nil _ _,(fun f hf=>by cases hf),kr,ka,HR2.o,by omega,pQ⟩
 case round=>
  clear kr ka pQ HR2 hk4;obtain⟨k,t,xs,B,d,q,rfl,rfl,HT,hkx,hO,HV,kr,ka,hR,hq,HF⟩:=hrel;have HO:=ax hO;have HRR:=ax hR;have hsz:=HF.o.size;have la:=ka.lt;clear hO hR;by_cases hk:0<k
  ·have hki:(0:Int)<(k:Int):=by omega
   (go_wp2_with fail);refine(eU g q [2,5,0,3,6,1] _ _ _ _ (HRR.o.bz aj) (by omega) az (by rfl) (by first|omega|(simp;omega)) (by rfl) (by decide) (by decide)).mono ?_;rintro e w3 ⟨y,hy,rfl,hR,hF⟩;replace kr:=(kr.alloc (.cells #[.int .i64 2,.int .i64 5,.int .i64 0,.int .i64 3,.int .i64 6,.int .i64 1] tI)).fr hF;replace ka:=(ka.alloc (.cells #[.int .i64 2,.int .i64 5,.int .i64 0,.int .i64 3,.int .i64 6,.int .i64 1] tI)).fr hF;have oz:aJ (Fr g w w3):=(HF.o.alloc _).trans hF;have HR3:=ax hR;have uT:=ax ((HO.o.bz (ai aU (.cells #[.int .i64 2,.int .i64 5,.int .i64 0,.int .i64 3,.int .i64 6,.int .i64 1] tI))).fr hF hlt);have HY:=ax ((by decide:∀m∈[(2:Int),5,0,3,6,1],jq m=true) y hy);have l3:=ka.lt;clear hR hF HF HRR HO hy la;obtain⟨X,hX⟩:∃X,X=w3.heap.size:=⟨_,rfl⟩;have kx:ae (w3.alloc (.cells #[.int .i64 1,.int .i64 t,.int .i64 y] tA)) X tA #[.int .i64 1,.int .i64 t,.int .i64 y]:=by rw[hX];exact ae.new _ _ _
   have HU:=ax (show Bw (.slice B xs.length d) X by rw[hX];exact uT.o.und);have lX:w.heap.size+2<=X:=by omega
   (go_wp2_with fail);refine(iw g (q+1) 2 _ (HR3.o.bz aj) (by omega)).mono ?_;rintro e w4 ⟨mm,rfl,-,hR,hF⟩;rw[<-hX];replace kr:=(kr.alloc (.cells #[.int .i64 1,.int .i64 t,.int .i64 y] tA)).fr hF;replace ka:=(ka.alloc (.cells #[.int .i64 1,.int .i64 t,.int .i64 y] tA)).fr hF;replace kx:=kx.fr hF;have Ky:aJ (Fr g w w4):=(oz.o.alloc _).trans hF;have HR4:=ax hR;have Di:=ax ((uT.o.bz (ai aU (.cells #[.int .i64 1,.int .i64 t,.int .i64 y] tA))).fr hF hlt);have lx:=kx.lt;have hne:w.heap.size+1≠X:=by omega
   clear hR hF oz HR3 uT hX l3;(replace uS:=kr.cell;replace EF:=kr.frozen;replace EG:=kr.lt;replace US:=ka.z;replace uk:=kx.z);by_cases hm:(mm:Int)=0
   ·have hm':((mm:Int) == 0)=true:=by simpa using hm
    clear hm;have JE:=ax (Di.o.KB HU.o (q:=⟨X,0,none⟩) bn (.int .i64 2));have Ot:=ka.fz X 0 (.int .i64 2);have JC:=kr.fz X 0 (.int .i64 2);have Yh:ae (w4.setCell ⟨X,0,none⟩ (.int .i64 2)) X tA #[.int .i64 2,.int .i64 t,.int .i64 y]:=by simpa using kx.ag 0 (.int .i64 2)
    have Pm:aJ (Fr g w (w4.setCell ⟨X,0,none⟩ (.int .i64 2))):=Ky.o.ag (Or.inr (by simp only;omega)) _;have UU:aJ (dX (w4.setCell ⟨X,0,none⟩ (.int .i64 2)) g (q+1+1)):=HR4.o.ag (by simp only;omega) _;(go_wp2_with (at_builtin;refine qG (ys:=[⟨2,t,y⟩]) (base:=w.heap.size) rfl _ _ rfl rfl (JE.o.bz aj) rfl (aB.Bz (ae.dA (by simp))) (by simp;omega) (by simp;omega) ?_;intro A6 d6 w6 o6 nG iA;rw[length_append,length_singleton] at o6⊢;have QJ:=ae.zm (g:=w.heap.size+1) (hg:=nG) (Ot.alloc _) (JE.o.bz (ai aU _)).1 (by decide);have Ma:=ae.zm (g:=w.heap.size) (hg:=nG) (JC.alloc _) (JE.o.bz (ai aU _)).1 (by decide);have TT:=ae.grown (Yh.alloc _) nG (fun e=>by have:=HU.o X e.symm;omega);(replace Yi:=QJ.z;replace Rv:=Ma.z;replace Yj:=TT.z);clear nG));have Bn:Fr g w w6:=(Pm.o.alloc _).Er iA bn;have JF:dX w6 g (q+1+1):=(UU.o.bz (ai aU _)).jE iA hlt
    go_round
    case rel=>exact⟨k - 1,y,xs++[⟨2,t,y⟩],A6,d6,q+1+1,by go_num,rfl,HY.o,by simp;omega,by simpa using o6.aA QJ (by decide) 1 (.slice A6 (xs.length+1) d6),(fun f hf=>by
     rcases List.mem_append.1 hf with hf|hf
     ·exact HV.o f hf
     ·rw[List.mem_singleton.1 hf];simp[aL.valid,HT.o,HY.o]),Ma.far (by simp) _,by simpa using QJ.ag 1 (.slice A6 (xs.length+1) d6),JF.ag (by simp only;omega) _,by omega,Bn.ag (Or.inr (by simp only;omega)) _⟩
    case measure=>simp[intOf];omega
   ·have hm':((mm:Int) == 0)=false:=by simpa using hm
    clear hm;(go_wp2_with (at_builtin;refine qG (ys:=[⟨1,t,y⟩]) (base:=w.heap.size) rfl _ _ rfl rfl (Di.o.bz aj) rfl (aB.Bz (ae.dA rfl)) (by simp;omega) (by simp;omega) ?_;intro A6 d6 w6 o6 nG iA;rw[length_append,length_singleton] at o6⊢;have QJ:=ae.zm (g:=w.heap.size+1) (hg:=nG) (ka.alloc _) (Di.o.bz (ai aU _)).1 (by decide);have Ma:=ae.zm (g:=w.heap.size) (hg:=nG) (kr.alloc _) (Di.o.bz (ai aU _)).1 (by decide);have TT:=ae.grown (kx.alloc _) nG (fun e=>by have:=HU.o X e.symm;omega);(replace Yi:=QJ.z;replace Rv:=Ma.z;replace Yj:=TT.z);clear nG));have Bn:Fr g w w6:=(Ky.o.alloc _).Er iA bn;have JF:dX w6 g (q+1+1):=(HR4.o.bz (ai aU _)).jE iA hlt
    go_round
    case rel=>exact⟨k - 1,y,xs++[⟨1,t,y⟩],A6,d6,q+1+1,by go_num,rfl,HY.o,by simp;omega,by simpa using o6.aA QJ (by decide) 1 (.slice A6 (xs.length+1) d6),(fun f hf=>by
     rcases List.mem_append.1 hf with hf|hf
     ·exact HV.o f hf
     ·rw[List.mem_singleton.1 hf];simp[aL.valid,HT.o,HY.o]),Ma.far (by simp) _,by simpa using QJ.ag 1 (.slice A6 (xs.length+1) d6),JF.ag (by simp only;omega) _,by omega,Bn.ag (Or.inr (by simp only;omega)) _⟩
    case measure=>simp[intOf];omega
  ·obtain rfl:k=0:=by omega
   (replace US:=ka.z;replace uS:=kr.cell;replace EF:=kr.frozen;replace EG:=kr.lt);have Ph:aJ (xs.length<=4):=by show _<=_;omega
   (go_wp2_with fail);refine(iw g q 3 _ HRR.o (by omega)).mono ?_;rintro e w5 ⟨mm,rfl,-,hR,hF⟩;replace kr:=kr.fr hF;replace ka:=ka.fr hF;have Pm:=ax (HF.o.trans hF);have UU:=ax hR;have JE:=ax (HO.o.fr hF hlt);have lr:=kr.lt;clear hR hF HF HRR HO US uS EF EG;(replace US:=ka.z;replace uS:=kr.cell;replace EF:=kr.frozen;replace EG:=kr.lt);have hne:w.heap.size≠w.heap.size+1:=by omega
   by_cases hm:(mm:Int)=0
   ·have hm':((mm:Int) == 0)=true:=by simpa using hm
    clear hm;go_wp2;refine wp_region_noPanic ?_;refine bQ (S:=(fun w'=>∀i,w'.cell? ⟨w.heap.size+1,i,none⟩=#[.slice none 0 0,.slice B xs.length d][i]?)) (by simp) (by kernel_rfl) (by kernel_rfl) (ae.cell az) (fun aH=>?_);simp only[dropLast,getLast,gP,cons_append,nil_append,length_cons,length_nil,Nat.zero_add,Nat.reduceAdd];refine O7 0 1 2 5 ?_
    refine mQ [3,4,6,7] #[true,true,true,true,true,true,true,true,false,false,false,false,false] 4 (by kernel_rfl) aH
     (fun a0 D a w'=>Fr g w5 w'/\(∃q',dX w' g q'/\q'<=(q+1)+(dn D 4).toNat+(dn D 7).toNat)/\∃v41 v42 v44 v45,a=((((a0.put (some 41) v41).put (some 42) v42).put (some 44) v44).put (some 45) v45)/\
      (dn D 3=true->∃x,v41=.slice (some ⟨x,0,none⟩) 3 3/\g<x/\ae w' x tI #[.int .i64 1,.int .i64 2,.int .i64 5])/\
      (dn D 4=true->∃m,m∈[(1:Int),2,5]/\v42=.int .i64 m)/\
      (dn D 6=true->∃x,v44=.slice (some ⟨x,0,none⟩) 4 4/\g<x/\ae w' x tI #[.int .i64 0,.int .i64 2,.int .i64 3,.int .i64 5])/\
      (dn D 7=true->∃m,m∈[(0:Int),2,3,5]/\v45=.int .i64 m)) ?start ?steps ?fin
    case start=>
     refine⟨(Fr.refl g w5).drew,⟨(q+1),UU.o.bz aj,by omega⟩,undef,undef,undef,undef,rfl,?_,?_,?_,?_⟩
     all_goals exact fun h=>absurd h (by decide)
    case steps=>
     refine aV.cons rfl (fun D a w' hu hd hI hS K' hK G hG=>?_) (aV.cons rfl (fun D a w' hu hd hI hS K' hK G hG=>?_) (aV.cons rfl (fun D a w' hu hd hI hS K' hK G hG=>?_) (aV.cons rfl (fun D a w' hu hd hI hS K' hK G hG=>?_) (aV.nil))))
     ·obtain⟨hF,⟨q',hR,hq'⟩,v41,v42,v44,v45,ha,h3,h4,h6,h7⟩:=hI;rw[ha] at hG;clear ha a;replace hq':=ax hq';replace hR:=ax hR;replace hF:=ax hF;replace hS:=ax hS;replace h3:=ax h3;replace h4:=ax h4;replace h6:=ax h6;replace h7:=ax h7;refine hG ?_;clear hG;(try simp only[zz]);go_simp;have lD:=hF.o.alloc (.cells #[.int .i64 1,.int .i64 2,.int .i64 5] tI);exact hK.out _ _ (fun i=>(ka.fr lD).cell i) ⟨lD,⟨q',hR.o.bz aj,(by rw[aT (show 3≠4 by decide),aT (show 3≠7 by decide)];exact hq'.o)⟩,(.slice (some ⟨w'.heap.size,0,none⟩) 3 3),v42,v44,v45,rfl,fun _=>⟨w'.heap.size,rfl,hR.o.lt,ae.new _ _ _⟩,aK (by decide) h4.o id,aK (by decide) h6.o (fun⟨x,e,hx,hb⟩=>⟨x,e,hx,hb.alloc _⟩),aK (by decide) h7.o id⟩
     ·obtain⟨hF,⟨q',hR,hq'⟩,v41,v42,v44,v45,ha,h3,h4,h6,h7⟩:=hI;rw[ha] at hG;clear ha a;replace hq':=ax hq';replace hR:=ax hR;replace hF:=ax hF;replace hS:=ax hS;replace h3:=ax h3;replace h4:=ax h4;replace h6:=ax h6;replace h7:=ax h7;have d3:dn D 3=true:=hd ⟨3,.data⟩ (by simp) (by decide);obtain⟨x,rfl,hx,hb⟩:=h3.o d3;clear h3 hd;refine hG ?_;clear hG;(try simp only[zz]);go_simp;refine(eU g q' [(1:Int),2,5] x 3 _ _ hR.o (by have:=hq'.o;have:=Bool.toNat_le (dn D 4);have:=Bool.toNat_le (dn D 7);omega) hb (by rfl) hx (by rfl) (by decide) (by decide)).mono ?_;rintro e w2 ⟨m,hm,rfl,hR2,hF2⟩;have lD:=hF.o.trans hF2;exact hK.out _ _ (fun i=>(ka.fr lD).cell i) ⟨lD,⟨q'+1,hR2,(by have z:=hq'.o;rw[nJ hu] at z;rw[jV hu,aT (show 4≠7 by decide)];simp only[Bool.toNat_true,Bool.toNat_false] at z⊢;omega)⟩,(.slice (some ⟨x,0,none⟩) 3 3),(.int .i64 m),v44,v45,rfl,fun _=>⟨x,rfl,hx,hb.fr hF2⟩,fun _=>⟨m,hm,rfl⟩,aK (by decide) h6.o (fun⟨x,e,hx,hb⟩=>⟨x,e,hx,hb.fr hF2⟩),aK (by decide) h7.o id⟩
     ·obtain⟨hF,⟨q',hR,hq'⟩,v41,v42,v44,v45,ha,h3,h4,h6,h7⟩:=hI;rw[ha] at hG;clear ha a;replace hq':=ax hq';replace hR:=ax hR;replace hF:=ax hF;replace hS:=ax hS;replace h3:=ax h3;replace h4:=ax h4;replace h6:=ax h6;replace h7:=ax h7;refine hG ?_;clear hG;(try simp only[zz]);go_simp;have lD:=hF.o.alloc (.cells #[.int .i64 0,.int .i64 2,.int .i64 3,.int .i64 5] tI);exact hK.out _ _ (fun i=>(ka.fr lD).cell i) ⟨lD,⟨q',hR.o.bz aj,(by rw[aT (show 6≠4 by decide),aT (show 6≠7 by decide)];exact hq'.o)⟩,v41,v42,(.slice (some ⟨w'.heap.size,0,none⟩) 4 4),v45,rfl,aK (by decide) h3.o (fun⟨x,e,hx,hb⟩=>⟨x,e,hx,hb.alloc _⟩),aK (by decide) h4.o id,fun _=>⟨w'.heap.size,rfl,hR.o.lt,ae.new _ _ _⟩,aK (by decide) h7.o id⟩
     ·obtain⟨hF,⟨q',hR,hq'⟩,v41,v42,v44,v45,ha,h3,h4,h6,h7⟩:=hI;rw[ha] at hG;clear ha a;replace hq':=ax hq';replace hR:=ax hR;replace hF:=ax hF;replace hS:=ax hS;replace h3:=ax h3;replace h4:=ax h4;replace h6:=ax h6;replace h7:=ax h7;have d6:dn D 6=true:=hd ⟨6,.data⟩ (by simp) (by decide);obtain⟨x,rfl,hx,hb⟩:=h6.o d6;clear h6 hd;refine hG ?_;clear hG;(try simp only[zz]);go_simp;refine(eU g q' [(0:Int),2,3,5] x 4 _ _ hR.o (by have:=hq'.o;have:=Bool.toNat_le (dn D 4);have:=Bool.toNat_le (dn D 7);omega) hb (by rfl) hx (by rfl) (by decide) (by decide)).mono ?_;rintro e w2 ⟨m,hm,rfl,hR2,hF2⟩;have lD:=hF.o.trans hF2;exact hK.out _ _ (fun i=>(ka.fr lD).cell i) ⟨lD,⟨q'+1,hR2,(by have z:=hq'.o;rw[nJ hu] at z;rw[jV hu,aT (show 7≠4 by decide)];simp only[Bool.toNat_true,Bool.toNat_false] at z⊢;omega)⟩,v41,v42,(.slice (some ⟨x,0,none⟩) 4 4),(.int .i64 m),rfl,aK (by decide) h3.o (fun⟨x,e,hx,hb⟩=>⟨x,e,hx,hb.fr hF2⟩),aK (by decide) h4.o id,fun _=>⟨x,rfl,hx,hb.fr hF2⟩,fun _=>⟨m,hm,rfl⟩⟩
    case fin=>
     rintro a w4 aH ⟨hF,⟨q',hR,hq'⟩,v41,v42,v44,v45,rfl,h3,h4,h6,h7⟩;obtain⟨m4,Pk,rfl⟩:=h4 (by decide);obtain⟨m7,Rt,rfl⟩:=h7 (by decide);replace hq':q'<=(q+1)+2:=hq';clear h3 h6;(try simp only[zz]);have QJ:=ka.fr hF;have Ma:=kr.fr hF;have HA6:=ax (JE.o.fr hF hlt);have HF6:=ax (Pm.o.trans hF);have HR6:=ax hR;have hM4:=ax ((by decide:∀m∈[(1:Int),2,5],jq m=true) m4 Pk);have X9:=ax ((by decide:∀m∈[(0:Int),2,3,5],jq m=true) m7 Rt);have hsz6:=HF6.o.size;clear hF hR Pk Rt ka kr US uS EF EG Pm UU JE;refine jh 8 ?_;refine aX 9 rfl fun K hK=>?_;(try simp only[zz]);go_simp;refine hK.out _ _ (ae.cell az) ?_;clear aH hK K;intro aH;(try simp only[zz]);refine aX 10 rfl fun K hK=>?_;skip;(refine jT (xs:=[]) (ys:=[⟨false,m4,m7⟩]) (base:=w.heap.size) rfl _ _ rfl rfl (ah.nil _ _) rfl (aG.Bz (ae.dA rfl)) (by simp) (by first|omega|(simp;omega)) ?_;intro A' c' w7 o7 Xi iB;have Yk:=ae.zm (g:=w.heap.size+1) (hg:=Xi) az (ah.nil _ w.heap.size).1 (by decide);have Ou:=ae.zm (g:=w.heap.size) (hg:=Xi) az (ah.nil _ w.heap.size).1 (by decide);have oa7:=af.lY (HA6.o.bz (ai aU _)) (ah.nil _ w.heap.size) Xi;rw[length_append,length_singleton] at o7⊢;clear Xi);refine hK.out _ _ (ae.cell az) ?_;clear aH hK K;intro aH;refine jh 11 ?_;(replace qka7:=Yk.z;replace Yl:=Ou.cell;replace rkr7:=Ou.frozen;replace lkr7:=Ou.lt);refine aX 12 rfl fun K hK=>?_;go_simp;refine hK.out _ _ (ae.cell az) (fun aH=>?_);clear hK K;refine wpAnyH_done (by kernel_rfl) ?_ _;unfold mi;go_simp;refine NoPanic.normal ?_;have Pn:Fr g w w7:=(HF6.o.alloc _).Er iB bn;have TU:dX w7 g q':=(HR6.o.bz (ai aU _)).jE iB hlt;have HH:=ax (And.intro Pn (And.intro TU (And.intro o7 oa7)));have JD:=Ou.fz (w.heap.size+1) 0 (.slice A' 1 c')
     have Ms:aJ ((⟨[⟨false,m4,m7⟩],xs⟩:au).valid=true):=by
      have:=Ph.o;show _=_;simp only[au.valid,aS,Bool.and_eq_true,decide_eq_true_eq,all_eq_true];refine⟨⟨by simp,fun f hf=>?_⟩,by omega,HV.o⟩;rw[List.mem_singleton.1 hf];simp[aF.valid,hM4.o,X9.o]
     clear Pn TU o7 oa7 iB;go_wp2;refine bodyPost_ret (v:=.agg #[.slice A' 1 c',.slice B xs.length d]) (by simp[results,Tryz.results38,go_sem,Yl]) rfl ⟨_,⟨[⟨false,m4,m7⟩],xs⟩,q',rfl,⟨_,_,rfl,?_,?_⟩,Ms.o,by simp,Ph.o,?_,by omega,?_⟩
     ·exact((HH.o.2.2.1.aA Yk (by decide) 0 _).aA JD (by decide) 0 _).aA (JD.ag 0 _) (by decide) 1 _
     ·exact((HH.o.2.2.2.aA Yk (by decide) 0 _).aA JD (by decide) 0 _).aA (JD.ag 0 _) (by decide) 1 _
     ·exact((HH.o.2.1.ag (by simp only;omega) _).ag (by simp only;omega) _).ag (by simp only;omega) _
     ·exact((HH.o.1.ag (Or.inr (by simp only;omega)) _).ag (Or.inr (by simp only;omega)) _).ag (Or.inr (by simp only;omega)) _
   ·have hm':((mm:Int) == 0)=false:=by simpa using hm
    clear hm
    have Ms:aJ ((⟨[],xs⟩:au).valid=true):=by
     have:=Ph.o;show _=_;simp only[au.valid,aS,Bool.and_eq_true,decide_eq_true_eq,all_eq_true];exact⟨⟨by simp,fun f hf=>by cases hf⟩,by omega,HV.o⟩
    go_wp2;refine bodyPost_ret (v:=.agg #[.slice none 0 0,.slice B xs.length d]) (by simp[results,Tryz.results38,go_sem,uS]) rfl ⟨_,⟨[],xs⟩,q+1,rfl,⟨_,_,rfl,ah.nil _ _,?_⟩,Ms.o,by simp,Ph.o,?_,by omega,?_⟩
    ·exact(JE.o.aA kr (by decide) 0 _).aA (kr.ag 0 _) (by decide) 1 _
    ·exact(UU.o.ag (by simp only;omega) _).ag (by simp only;omega) _
    ·exact(Pm.o.ag (Or.inr (by simp only;omega)) _).ag (Or.inr (by simp only;omega)) _
end
section
open Go Go.RowKit Go.Proofs Go.ChangeShapes Go.WideShapes Go.ChangeAt
theorem KD{P:Program}{w:World}{r:Reach}{base:Nat}{t e:TypeId}{a:Option Addr}{len cap:Nat}(ht:P.underlying t=some (.slice e))(h:Value.okWide P w r base t (.slice a len cap)):len<=cap:=by
 simp only[Value.okWide,ht,Cell.okWide] at h
 cases a with
 | none=>cases len<;>simp_all [Cell.ok]
 | some a=>simp_all [Cell.ok]
theorem Mx:Tryz.prog.cellsOf 5=1:=by kernel_rfl
theorem Hr{H:Type}{enc:TypeId×Value->H}{w:World}{v:Value}{d:DataW H}{p:List MemPlace}(hv:Value.okWide Tryz.prog w .any 0 22 v)(h:DataW.Trod enc Tryz.prog w 0 (fun _=>true) true 22 v d p):∃A:Option Addr×Nat×Nat,v=.slice A.1 A.2.1 A.2.2/\zt w A.1 A.2.1 A.2.2:=by
 obtain⟨a,n,c,rfl⟩:=okWide_slice Tryz.underlying22 hv;have hle:=KD Tryz.underlying22 hv;obtain⟨fuel,hf⟩:=h
 obtain⟨A,c',xs,e,hl,hr⟩:=Mj (fun b:Fin 256=>[Value.int .u8 (b.val:Int)]) 1 (fun _=>rfl) (by omega) Mx Tryz.underlying22 (fun n cs x h=>by
  obtain⟨m,e,_,hw⟩:=DataW.trod_int Tryz.underlying5 h;simp[Lit.wf,IntKind.min,IntKind.max,IntKind.signed,IntKind.bits] at hw
  exact⟨⟨m.toNat,by omega⟩,by rw[e];simp;omega⟩) hf
 have e':[Value.slice a n c]=[.slice A xs.length c']:=by simpa[Value.cells] using e
 injection e' with e';injection e' with e1 e2 e3;subst e1 e2 e3;refine⟨(a,xs.length,c),rfl,xs.map Fin.val,by simp,?_,fun b hb=>?_,hle,hl⟩
 ·have:xs.flatMap (fun b:Fin 256=>[Value.int .u8 (b.val:Int)])=Df (xs.map Fin.val):=by
   clear hr hl e hle hv hf;unfold Df
   induction xs with
   | nil=>rfl
   | cons x xs ih=>rw[flatMap_cons,ih];rfl
  rwa [this] at hr
 ·obtain⟨x,_,rfl⟩:=List.mem_map.1 hb;exact x.isLt
end
section
open Go
def cl(c:List Int)(t:Int):Int:=(c[t.toNat]?).getD 0
def aF.fits(c:List Int)(f:aF):Bool:=decide (cl c f.a=cl c f.b) == f.eq
def aL.fill(c:List Int)(x:aL):Bool:=decide (x.kind=1) || !decide (cl c x.a=cl c x.b)
def aL.cls(c:List Int)(x:aL):aL:=⟨x.kind,cl c x.a,cl c x.b⟩
def aW(xs:List aL)(c:List Int):List aL:=(xs.filter (aL.fill c)).map (aL.cls c)
def ji:List Int->List aL->Bool
 | _,[]=>true
 | seen,x :: xs=>!decide (x.a=0) && !decide (x.a∈seen)&&ji (seen++[x.a]) xs
def full(a:au)(c:List Int):Bool:=a.facts.all (aF.fits c)&&ji [] (aW a.atoms c)
def gen(S:Nat):Nat->List Int->List (List Int)
 | 0,c=>[c]
 | n+1,c=>if S.testBit (8 - n) then (range (9 - n)).flatMap fun k=>if k<8 - n/\cl c k≠k then [] else gen S n (c.set (8 - n) k) else gen S n (c.set (8 - n) (-1))
def zeros:List Int:=[0,0,0,0,0,0,0,0,0]
def opened:List Int:=[0,-1,-1,-1,-1,-1,-1,-1,-1]
def cases(a:au)(S:Nat):List (List Int):=(gen S 9 zeros).filter (full a)
def gQ(c:List Int)(last:Int)(fs:List aF):Bool:=fs.all fun f=>!(decide (f.a<=last)&&decide (f.b<=last) && !f.fits c)
def bI(c:List Int)(last:Int)(x:aL):Bool:=decide (x.a<=last)&&decide (x.b<=last)&&x.fill c
def gq(c:List Int)(last:Int):List Int->List aL->Bool
 | _,[]=>true
 | seen,x :: xs=>if bI c last x then !decide (cl c x.a=0) && !decide (cl c x.a∈seen)&&gq c last (seen++[cl c x.a]) xs else gq c last seen xs
def jW(a:au)(c:List Int)(last:Int):Bool:=gQ c last a.facts&&gq c last [] a.atoms
def ext(a:au)(S:Nat):Nat->List Int->List (List Int)
 | 0,c=>[c]
 | n+1,c=>if S.testBit (8 - n) then (range (9 - n)).flatMap fun k=>if k<8 - n/\cl c k≠k then [] else if jW a (c.set (8 - n) k) (8 - n:Nat) then ext a S n (c.set (8 - n) k) else [] else ext a S n (c.set (8 - n) (-1))
def gF(c:List Int)(fs:List aF):Bool:=fs.all fun f=>!(decide (0<=cl c f.a)&&decide (0<=cl c f.b) && !f.fits c)
def bU(c:List Int):List Int->List aL->Bool
 | _,[]=>true
 | seen,x :: xs=>if decide (x.kind=1)&&decide (0<=cl c x.a) then !decide (cl c x.a=0) && !decide (cl c x.a∈seen)&&bU c (seen++[cl c x.a]) xs else bU c seen xs
def gG(a:au)(S:Nat):Nat->List Int->List (List Int)
 | 0,c=>if gF c a.facts&&bU c [] a.atoms then (if ji [] (aW a.atoms c) then [c] else []) else []
 | n+1,c=>if gF c a.facts&&bU c [] a.atoms then (if S.testBit (8 - n) then (range (9 - n)).flatMap fun k=>if k<8 - n/\cl c k≠k then [] else gG a S n (c.set (8 - n) k) else gG a S n c) else []
theorem jX{α β:Type}{l:List α}{f g:α->List β}(h:∀x∈l,f x=g x):l.flatMap f=l.flatMap g:=by
 induction l with
 | nil=>rfl
 | cons x xs ih=>rw[flatMap_cons,flatMap_cons,h x mem_cons_self,ih fun y hy=>h y (mem_cons_of_mem _ hy)]
section
variable{c d:List Int}
theorem jG(h:c.length=9){t:Nat}(ht:t<9)(v:Int){j:Int}(hj:0<=j):cl (c.set t v) j=if j=t then v else cl c j:=by
 unfold cl;by_cases e:j=t
 ·subst e;rw[if_pos rfl,Int.toNat_natCast,List.getElem?_set_self (by omega)];rfl
 ·rw[if_neg e,List.getElem?_set_ne (by omega)]
def GV(c d:List Int)(last:Int):Prop:=∀j:Int,0<=j->j<=last->cl d j=cl c j
theorem GV.fits{f:aF}{last:Int}(h:GV c d last)(ha:0<=f.a)(hb:0<=f.b)(h1:f.a<=last)(h2:f.b<=last):f.fits d=f.fits c:=by
 unfold aF.fits;rw[h _ ha h1,h _ hb h2]
theorem GV.fill{f:aL}{last:Int}(h:GV c d last)(ha:0<=f.a)(hb:0<=f.b)(h1:f.a<=last)(h2:f.b<=last):f.fill d=f.fill c:=by
 unfold aL.fill;rw[h _ ha h1,h _ hb h2]
def gz(fs:List aF):Prop:=∀f∈fs,(0<=f.a/\f.a<=8)/\(0<=f.b/\f.b<=8)
def dM(xs:List aL):Prop:=∀x∈xs,(0<=x.a/\x.a<=8)/\(0<=x.b/\x.b<=8)
theorem GV.gQ{fs:List aF}{last:Int}(h:GV c d last)(hf:gz fs):gQ d last fs=gQ c last fs:=by
 unfold Go.Proofs.YtjbboklnegfohaaGreat.gQ;rw[Bool.eq_iff_iff,all_eq_true,all_eq_true];refine forall_congr' fun f=>forall_congr' fun hm=>?_;obtain⟨⟨h1,-⟩,⟨h2,-⟩⟩:=hf f hm;by_cases e1:f.a<=last
 ·by_cases e2:f.b<=last
  ·rw[h.fits h1 h2 e1 e2]
  ·simp[e2]
 ·simp[e1]
theorem GV.bI{x:aL}{last:Int}(h:GV c d last)(ha:0<=x.a)(hb:0<=x.b):bI d last x=bI c last x:=by
 unfold Go.Proofs.YtjbboklnegfohaaGreat.bI;by_cases e1:x.a<=last
 ·by_cases e2:x.b<=last
  ·rw[h.fill ha hb e1 e2]
  ·simp[e2]
 ·simp[e1]
theorem BZ{x:aL}{last:Int}(h:bI c last x=true):x.a<=last/\x.b<=last/\x.fill c=true:=by
 simp[bI] at h;exact⟨h.1.1,h.1.2,h.2⟩
theorem GV.gq{last:Int}(h:GV c d last):∀(xs:List aL) (seen:List Int),dM xs->gq d last seen xs=gq c last seen xs:=by
 intro xs
 induction xs with
 | nil=>intro seen _;rfl
 | cons x xs ih=>
  intro seen hx;have hx':dM xs:=fun y hy=>hx y (mem_cons_of_mem _ hy);obtain⟨⟨h1,-⟩,⟨h2,-⟩⟩:=hx x mem_cons_self;unfold Go.Proofs.YtjbboklnegfohaaGreat.gq;rw[h.bI h1 h2];cases e:Go.Proofs.YtjbboklnegfohaaGreat.bI c last x
  ·simp only[Bool.false_eq_true,if_false];exact ih _ hx'
  ·rw[if_pos rfl,if_pos rfl,h _ h1 (BZ e).1,ih _ hx']
theorem GV.jW{a:au}{last:Int}(h:GV c d last)(hf:gz a.facts)(hx:dM a.atoms):jW a d last=jW a c last:=by
 unfold Go.Proofs.YtjbboklnegfohaaGreat.jW;rw[h.gQ hf,h.gq _ _ hx]
theorem mI(c:List Int)(last:Int):∀(xs:List aL) (seen:List Int),gq c last seen xs=true↔
  ((∀x∈xs,bI c last x=true->cl c x.a≠0/\cl c x.a∉seen)/\((xs.filter (bI c last)).map fun x=>cl c x.a).Nodup):=by
 intro xs
 induction xs with
 | nil=>intro seen;simp[gq]
 | cons x xs ih=>
  intro seen;unfold gq;cases e:bI c last x
  ·simp only[Bool.false_eq_true,if_false,ih];rw[List.filter_cons_of_neg (by simp[e])];constructor
   ·rintro⟨h1,h2⟩;refine⟨fun y hy=>?_,h2⟩;rcases List.mem_cons.1 hy with rfl|hy
    ·intro h;rw[e] at h;cases h
    ·exact h1 y hy
   ·rintro⟨h1,h2⟩;exact⟨fun y hy=>h1 y (mem_cons_of_mem _ hy),h2⟩
  ·rw[if_pos rfl,filter_cons_of_pos e,map_cons,List.nodup_cons];simp only[Bool.and_eq_true,Bool.not_eq_true',decide_eq_false_iff_not,ih];constructor
   ·rintro⟨⟨g1,g2⟩,g3,g4⟩;refine⟨fun y hy hl=>?_,?_,g4⟩
    ·rcases List.mem_cons.1 hy with rfl|hy
     ·exact⟨g1,g2⟩
     ·have:=g3 y hy hl;exact⟨this.1,fun h=>this.2 (List.mem_append_left _ h)⟩
    ·intro hm;obtain⟨y,hy,ey⟩:=List.mem_map.1 hm;rw[mem_filter] at hy;exact(g3 y hy.1 hy.2).2 (List.mem_append_right _ (by simp[ey]))
   ·rintro⟨g1,g2,g3⟩;have:=g1 x mem_cons_self e;refine⟨⟨this.1,this.2⟩,fun y hy hl=>?_,g3⟩;have h2:=g1 y (mem_cons_of_mem _ hy) hl;refine⟨h2.1,fun h=>?_⟩;rcases List.mem_append.1 h with h|h
    ·exact h2.2 h
    ·exact g2 (List.mem_map.2 ⟨y,List.mem_filter.2 ⟨hy,hl⟩,by simpa using h⟩)
theorem Ht{last last':Int}(hl:last<=last'){xs:List aL}{seen:List Int}(h:gq c last' seen xs=true):gq c last seen xs=true:=by
 rw[mI] at h⊢
 have him:∀x,bI c last x=true->bI c last' x=true:=by
  intro x hx;have:=BZ hx;simp[bI,this.2.2];omega
 refine⟨fun x hx hi=>h.1 x hx (him x hi),?_⟩;refine List.Nodup.sublist ?_ h.2;apply List.Sublist.map
 have e:xs.filter (bI c last)=(xs.filter (bI c last')).filter (bI c last):=by
  rw[List.filter_filter];apply filter_congr;intro x _;cases e:bI c last x
  ·simp
  ·simp[him x e]
 rw[e];exact List.filter_sublist
theorem Hu{last last':Int}(hl:last<=last'){fs:List aF}(h:gQ c last' fs=true):gQ c last fs=true:=by
 unfold gQ at*;rw[all_eq_true] at h⊢;intro f hf;have:=h f hf;by_cases e1:f.a<=last
 ·by_cases e2:f.b<=last
  ·have e3:f.a<=last':=by omega
   have e4:f.b<=last':=by omega
   simpa[e1,e2,e3,e4] using this
  ·simp[e2]
 ·simp[e1]
theorem KF{a:au}{last last':Int}(hl:last<=last')(h:jW a c last'=true):jW a c last=true:=by
 unfold jW at*;rw[Bool.and_eq_true] at h⊢;exact⟨Hu hl h.1,Ht hl h.2⟩
theorem EH:∀(xs:List aL) (seen:List Int),dM xs->ji seen (aW xs c)=gq c 8 seen xs:=by
 intro xs
 induction xs with
 | nil=>intro seen _;rfl
 | cons x xs ih=>
  intro seen hx;have hx':dM xs:=fun y hy=>hx y (mem_cons_of_mem _ hy);obtain⟨⟨-,h1⟩,⟨-,h2⟩⟩:=hx x mem_cons_self;have e:bI c 8 x=x.fill c:=by simp[bI,h1,h2]
  unfold gq aW;rw[e];cases hf:x.fill c
  ·rw[List.filter_cons_of_neg (by simp[hf])];simp only[Bool.false_eq_true,if_false];exact ih _ hx'
  ·rw[filter_cons_of_pos hf,map_cons,if_pos rfl];unfold ji;have:=ih (seen++[cl c x.a]) hx';unfold aW at this;rw[show (aL.cls c x).a=cl c x.a from rfl,this]
theorem oH{a:au}(hf:gz a.facts)(hx:dM a.atoms):full a c=jW a c 8:=by
 unfold full jW;rw[EH _ _ hx]
 congr 1
 unfold gQ;rw[Bool.eq_iff_iff,all_eq_true,all_eq_true];refine forall_congr' fun f=>forall_congr' fun hm=>?_;obtain⟨⟨-,h1⟩,⟨-,h2⟩⟩:=hf f hm;simp[h1,h2]
theorem zx(S:Nat):∀(n:Nat) (c d:List Int),n<=9->c.length=9->d∈gen S n c->d.length=9/\GV c d (8 - n:Int)/\∀j:Nat,9 - n<=j->j<9->(S.testBit j=true->0<=cl d j/\cl d j<=j)/\(S.testBit j=false->cl d j = -1):=by
 intro n
 induction n with
 | zero=>
  intro c d _ hc hd;simp only[gen,List.mem_singleton] at hd;subst hd;exact⟨hc,fun j _ _=>rfl,fun j h1 h2=>by omega⟩
 | succ n ih=>
  intro c d hn hc hd
  have key:∀v:Int,d∈gen S n (c.set (8 - n) v)->d.length=9/\GV c d (8 - (n+1:Nat):Int)/\cl d ((8 - n:Nat):Int)=v/\∀j:Nat,9 - n<=j->j<9->(S.testBit j=true->0<=cl d j/\cl d j<=j)/\(S.testBit j=false->cl d j = -1):=by
   intro v hd;obtain⟨h1,h2,h3⟩:=ih _ _ (by omega) (by simpa using hc) hd;refine⟨h1,fun j h0 hj=>?_,?_,h3⟩
   ·rw[h2 j h0 (by omega),jG hc (by omega) _ h0,if_neg (by omega)]
   ·rw[h2 _ (by omega) (by omega),jG hc (by omega) _ (by omega),if_pos rfl]
  unfold gen at hd;cases e:S.testBit (8 - n)
  ·rw[e] at hd;simp only[Bool.false_eq_true,if_false] at hd;obtain⟨h1,h2,h3,h4⟩:=key _ hd;refine⟨h1,h2,fun j hj hj'=>?_⟩;by_cases ej:j=8 - n
   ·subst ej;exact⟨fun h=>(by rw[e] at h;cases h),fun _=>h3⟩
   ·exact h4 j (by omega) hj'
  ·rw[e,if_pos rfl,mem_flatMap] at hd;obtain⟨k,hk,hd⟩:=hd;rw[mem_range] at hk
   split at hd
   ·cases hd
   ·obtain⟨h1,h2,h3,h4⟩:=key _ hd;refine⟨h1,h2,fun j hj hj'=>?_⟩;by_cases ej:j=8 - n
    ·subst ej;exact⟨fun _=>by rw[h3];omega,fun h=>by rw[e] at h;cases h⟩
    ·exact h4 j (by omega) hj'
theorem KG(S:Nat):∀(n:Nat) (c d:List Int),n<=9->c.length=9->d.length=9->GV c d (8 - n:Int)->gen S n d=gen S n c:=by
 intro n
 induction n with
 | zero=>
  intro c d _ hc hd h
  have:d=c:=by
   apply List.ext_getElem (by omega);intro j h1 h2;have:=h j (by omega) (by omega);simpa[cl,List.getElem?_eq_getElem h1,List.getElem?_eq_getElem h2] using this
  rw[this]
 | succ n ih=>
  intro c d hn hc hd h
  have key:∀v:Int,gen S n (d.set (8 - n) v)=gen S n (c.set (8 - n) v):=by
   intro v;refine ih _ _ (by omega) (by simpa using hc) (by simpa using hd) fun j h0 hj=>?_;rw[jG hd (by omega) _ h0,jG hc (by omega) _ h0]
   split
   ·rfl
   ·exact h j h0 (by omega)
  unfold gen;rw[key]
  split
  ·apply jX;intro k hk;rw[mem_range] at hk;rw[key];by_cases hlt:k<8 - n
   ·rw[h k (by omega) (by omega)]
   ·simp[hlt]
  ·rfl
theorem filter_none{α:Type}{p:α->Bool}{l:List α}(h:∀x∈l,p x=false):l.filter p=[]:=by
 rw[List.filter_eq_nil_iff];intro x hx;simp[h x hx]
theorem ext_eq{a:au}{S:Nat}(hf:gz a.facts)(hx:dM a.atoms)(hS:∀t:Nat,S.testBit t=false->(∀f∈a.facts,f.a≠t/\f.b≠t)/\(∀x∈a.atoms,x.a≠t/\x.b≠t)) :
  ∀(n:Nat) (c:List Int),n<=9->c.length=9->jW a c (8 - n:Int)=true->ext a S n c=(gen S n c).filter (full a):=by
 intro n
 induction n with
 | zero=>
  intro c _ hc hp;simp only[ext,gen];rw[filter_cons_of_pos]
  ·rfl
  ·rw[oH hf hx];simpa using hp
 | succ n ih=>
  intro c hn hc hp;unfold ext gen;cases e:S.testBit (8 - n)
  ·simp only[Bool.false_eq_true,if_false];refine ih _ (by omega) (by simpa using hc) ?_;obtain⟨n1,n2⟩:=hS _ e;have hA:GV c (c.set (8 - n) (-1)) (8 - (n+1:Nat):Int):=fun j h0 hj=>by rw[jG hc (by omega) _ h0,if_neg (by omega)]
   rw[<-hA.jW hf hx] at hp;generalize c.set (8 - n) (-1)=d at hp⊢;unfold jW at hp⊢;rw[Bool.and_eq_true] at hp⊢;constructor
   ·have h1:=hp.1;unfold gQ at h1⊢;rw[all_eq_true] at h1⊢;intro f hm;have h2:=h1 f hm;have h3:=n1 f hm;have e1:(f.a<=(8 - (n+1:Nat):Int))↔f.a<=(8 - n:Int):=by omega
    have e2:(f.b<=(8 - (n+1:Nat):Int))↔f.b<=(8 - n:Int):=by omega
    rw[decide_eq_decide.2 e1,decide_eq_decide.2 e2] at h2;exact h2
   ·have h1:=hp.2;rw[mI] at h1⊢
    have e0:∀x∈a.atoms,bI d (8 - n:Int) x=bI d (8 - (n+1:Nat):Int) x:=by
     intro x hm;have h3:=n2 x hm;have e1:(x.a<=(8 - (n+1:Nat):Int))↔x.a<=(8 - n:Int):=by omega
     have e2:(x.b<=(8 - (n+1:Nat):Int))↔x.b<=(8 - n:Int):=by omega
     unfold bI;rw[decide_eq_decide.2 e1,decide_eq_decide.2 e2]
    refine⟨fun x hm hi=>h1.1 x hm (by rw[<-e0 x hm];exact hi),?_⟩;rw[filter_congr e0];exact h1.2
  ·rw[if_pos rfl,if_pos rfl,List.filter_flatMap];apply jX;intro k hk;rw[mem_range] at hk
   split
   ·rfl
   ·have Ym:((8 - n:Nat):Int)=(8 - n:Int):=by omega
    split
    ·rename_i hps;rw[Ym] at hps;exact ih _ (by omega) (by simpa using hc) hps
    ·rename_i hps
     symm
     apply filter_none;intro d hd;obtain⟨-,h2,-⟩:=zx S n _ d (by omega) (by simpa using hc) hd;cases hfu:full a d
     ·rfl
     ·rw[oH hf hx] at hfu;have:=KF (last:=(8 - n:Int)) (by omega) hfu;rw[h2.jW hf hx,<-Ym] at this;exact absurd this hps
theorem My{a:au}(hf:gz a.facts)(hx:dM a.atoms):jW a c (-1)=true:=by
 unfold jW;rw[Bool.and_eq_true];constructor
 ·unfold gQ;rw[all_eq_true];intro f hm;have:=hf f hm;have e:¬f.a<=-1:=by omega
  simp[e]
 ·rw[mI]
  have e0:∀x∈a.atoms,bI c (-1) x=false:=by
   intro x hm;have:=hx x hm;have e:¬x.a<=-1:=by omega
   simp[bI,e]
  refine⟨fun x hm hi=>(by rw[e0 x hm] at hi;cases hi),?_⟩;rw[filter_none e0];simp
theorem KH{a:au}{S:Nat}(hf:gz a.facts)(hx:dM a.atoms)(hS:∀t:Nat,S.testBit t=false->(∀f∈a.facts,f.a≠t/\f.b≠t)/\(∀x∈a.atoms,x.a≠t/\x.b≠t)):ext a S 9 zeros=cases a S:=
 ext_eq hf hx hS 9 zeros (by omega) rfl (My hf hx)
theorem Hw(c:List Int):∀(xs:List aL) (seen:List Int),bU c seen xs=true↔
  ((∀x∈xs,(x.kind=1/\0<=cl c x.a)->cl c x.a≠0/\cl c x.a∉seen)/\((xs.filter fun x=>decide (x.kind=1)&&decide (0<=cl c x.a)).map fun x=>cl c x.a).Nodup):=by
 intro xs
 induction xs with
 | nil=>intro seen;simp[bU]
 | cons x xs ih=>
  intro seen;unfold bU;cases e:(decide (x.kind=1)&&decide (0<=cl c x.a))
  ·simp only[Bool.false_eq_true,if_false,ih];have e':¬(x.kind=1/\0<=cl c x.a):=by simpa using e
   rw[List.filter_cons_of_neg (by simp[e])];constructor
   ·rintro⟨h1,h2⟩;refine⟨fun y hy=>?_,h2⟩;rcases List.mem_cons.1 hy with rfl|hy
    ·exact fun h=>absurd h e'
    ·exact h1 y hy
   ·rintro⟨h1,h2⟩;exact⟨fun y hy=>h1 y (mem_cons_of_mem _ hy),h2⟩
  ·have e':x.kind=1/\0<=cl c x.a:=by simpa using e
   rw[if_pos rfl,filter_cons_of_pos (by simpa using e),map_cons,List.nodup_cons];simp only[Bool.and_eq_true,Bool.not_eq_true',decide_eq_false_iff_not,ih];constructor
   ·rintro⟨⟨g1,g2⟩,g3,g4⟩;refine⟨fun y hy hl=>?_,?_,g4⟩
    ·rcases List.mem_cons.1 hy with rfl|hy
     ·exact⟨g1,g2⟩
     ·have:=g3 y hy hl;exact⟨this.1,fun h=>this.2 (List.mem_append_left _ h)⟩
    ·intro hm;obtain⟨y,hy,ey⟩:=List.mem_map.1 hm;rw[mem_filter] at hy;exact(g3 y hy.1 (by simpa using hy.2)).2 (List.mem_append_right _ (by simp[ey]))
   ·rintro⟨g1,g2,g3⟩;have:=g1 x mem_cons_self e';refine⟨⟨this.1,this.2⟩,fun y hy hl=>?_,g3⟩;have h2:=g1 y (mem_cons_of_mem _ hy) hl;refine⟨h2.1,fun h=>?_⟩;rcases List.mem_append.1 h with h|h
    ·exact h2.2 h
    ·exact g2 (List.mem_map.2 ⟨y,List.mem_filter.2 ⟨hy,by simpa using hl⟩,by simpa using h⟩)
theorem zy{a:au}(hf:gz a.facts)(hx:dM a.atoms)(hA:∀j:Int,0<=j->j<=8->0<=cl c j->cl d j=cl c j)(h:full a d=true):(gF c a.facts&&bU c [] a.atoms)=true:=by
 have hp:=h;rw[oH hf hx] at hp;unfold full at h;unfold jW at hp;rw[Bool.and_eq_true] at h hp⊢;have hF:=List.all_eq_true.1 h.1;have hP:=(mI _ _ _ _).1 hp.2;constructor
 ·unfold gF;rw[all_eq_true];intro f hm;obtain⟨⟨a1,a2⟩,⟨b1,b2⟩⟩:=hf f hm;by_cases e1:0<=cl c f.a
  ·by_cases e2:0<=cl c f.b
   ·have h1:=hF f hm;unfold aF.fits at h1⊢;rw[hA _ a1 a2 e1,hA _ b1 b2 e2] at h1;simp[h1]
   ·simp[e2]
  ·simp[e1]
 ·have him:∀x∈a.atoms,x.kind=1/\0<=cl c x.a->bI d 8 x=true/\cl d x.a=cl c x.a:=by
   rintro x hm ⟨h1,h2⟩;obtain⟨⟨a1,a2⟩,⟨b1,b2⟩⟩:=hx x hm;exact⟨by simp[bI,a2,b2,aL.fill,h1],hA _ a1 a2 h2⟩
  rw[Hw];refine⟨fun x hm hk=>?_,?_⟩
  ·obtain⟨g1,g2⟩:=him x hm hk;have:=(hP.1 x hm g1).1;rw[g2] at this;exact⟨this,by simp⟩
  ·have e:((a.atoms.filter fun x=>decide (x.kind=1)&&decide (0<=cl c x.a)).map fun x=>cl c x.a)=((a.atoms.filter fun x=>decide (x.kind=1)&&decide (0<=cl c x.a)).map fun x=>cl d x.a):=by
    apply List.map_congr_left;intro x hm;rw[mem_filter] at hm;exact(him x hm.1 (by simpa using hm.2)).2.symm
   rw[e];refine List.Nodup.sublist ?_ hP.2;apply List.Sublist.map
   have e2:(a.atoms.filter fun x=>decide (x.kind=1)&&decide (0<=cl c x.a))=(a.atoms.filter (bI d 8)).filter fun x=>decide (x.kind=1)&&decide (0<=cl c x.a):=by
    rw[List.filter_filter];apply filter_congr;intro x hm;cases e3:(decide (x.kind=1)&&decide (0<=cl c x.a))
    ·simp
    ·simp[(him x hm (by simpa using e3)).1]
   rw[e2];exact List.filter_sublist
theorem Po{a:au}{S:Nat}(hf:gz a.facts)(hx:dM a.atoms)(hS:∀t:Nat,S.testBit t=false->(∀f∈a.facts,f.a≠t/\f.b≠t)/\(∀x∈a.atoms,x.a≠t/\x.b≠t)) :
  ∀(n:Nat) (c:List Int),n<=9->c.length=9->(∀j:Nat,9 - n<=j->j<9->cl c j = -1)->(∀j:Nat,j<9 - n->S.testBit j=true->0<=cl c j)->gG a S n c=(gen S n c).filter (full a):=by
 intro n
 induction n with
 | zero=>
  intro c _ hc _ hp;simp only[gG,gen]
  have hF:gF c a.facts=a.facts.all (aF.fits c):=by
   unfold gF;rw[Bool.eq_iff_iff,all_eq_true,all_eq_true];refine forall_congr' fun f=>forall_congr' fun hm=>?_;obtain⟨⟨a1,a2⟩,⟨b1,b2⟩⟩:=hf f hm
   have k1:0<=cl c f.a:=by
    obtain⟨t,e⟩:=Int.eq_ofNat_of_zero_le a1;rw[e];apply hp t (by omega);cases h:S.testBit t
    ·exact absurd e ((hS t h).1 f hm).1
    ·rfl
   have k2:0<=cl c f.b:=by
    obtain⟨t,e⟩:=Int.eq_ofNat_of_zero_le b1;rw[e];apply hp t (by omega);cases h:S.testBit t
    ·exact absurd e ((hS t h).1 f hm).2
    ·rfl
   simp[k1,k2]
  cases hfu:full a c
  ·rw[filter_none (by simpa using hfu)]
   split
   ·rename_i h1;rw[Bool.and_eq_true,hF] at h1;rw[if_neg];intro h2;unfold full at hfu;rw[h1.1,h2] at hfu;cases hfu
   ·rfl
  ·rw[if_pos (zy hf hx (fun _ _ _ _=>rfl) hfu),filter_cons_of_pos hfu,if_pos]
   ·rfl
   ·unfold full at hfu;rw[Bool.and_eq_true] at hfu;exact hfu.2
 | succ n ih=>
  intro c hn hc hop hp;unfold gG;cases hE:(gF c a.facts&&bU c [] a.atoms)
  ·simp only[Bool.false_eq_true,if_false]
   symm
   apply filter_none;intro d hd;obtain⟨-,h2,-⟩:=zx S (n+1) _ d hn hc hd;cases hfu:full a d
   ·rfl
   ·have:=zy (c:=c) hf hx (fun j h0 h8 hj=>?_) hfu
    ·rw[hE] at this;cases this
    ·apply h2 j h0;by_cases hlt:(8 - (n+1:Nat):Int)<j
     ·obtain⟨t,e⟩:=Int.eq_ofNat_of_zero_le h0;have:=hop t (by omega) (by omega);rw[e,this] at hj;omega
     ·omega
  ·rw[if_pos rfl];unfold gen;cases e:S.testBit (8 - n)
   ·simp only[Bool.false_eq_true,if_false]
    have e1:c.set (8 - n) (-1)=c:=by
     have:=hop (8 - n) (by omega) (by omega);have hl:8 - n<c.length:=by omega
     have h1:c[8 - n] = -1:=by simpa[cl,List.getElem?_eq_getElem hl] using this
     rw[<-h1,List.set_getElem_self]
    rw[e1];refine ih _ (by omega) hc (fun j h1 h2=>hop j (by omega) h2) (fun j h1 h2=>?_);by_cases ej:j=8 - n
    ·subst ej;rw[e] at h2;cases h2
    ·exact hp j (by omega) h2
   ·rw[if_pos rfl,if_pos rfl,List.filter_flatMap];apply jX;intro k hk;rw[mem_range] at hk
    split
    ·rfl
    ·refine ih _ (by omega) (by simpa using hc) (fun j h1 h2=>?_) (fun j h1 h2=>?_)
     ·rw[jG hc (by omega) _ (by omega),if_neg (by omega)];exact hop j (by omega) h2
     ·rw[jG hc (by omega) _ (by omega)]
      split
      ·omega
      ·exact hp j (by omega) h2
theorem zG{a:au}{S:Nat}(hf:gz a.facts)(hx:dM a.atoms)(h0:S.testBit 0=true)(hS:∀t:Nat,S.testBit t=false->(∀f∈a.facts,f.a≠t/\f.b≠t)/\(∀x∈a.atoms,x.a≠t/\x.b≠t)):gG a S 8 opened=cases a S:=by
 have hop:∀j:Nat,9 - 8<=j->j<9->cl opened j = -1:=by
  intro j h1 h2;obtain rfl|rfl|rfl|rfl|rfl|rfl|rfl|rfl:j=1\/j=2\/j=3\/j=4\/j=5\/j=6\/j=7\/j=8:=by omega
  all_goals rfl
 have hcl:∀j:Nat,j<9 - 8->S.testBit j=true->0<=cl opened j:=by
  intro j h1 _;obtain rfl:j=0:=by omega
  decide
 rw[Po hf hx hS 8 opened (by omega) rfl hop hcl];unfold cases
 congr 1
 show _=(if S.testBit 0 then _ else _);rw[if_pos h0];show _=(range 1).flatMap _;rw[show range 1=[0] from rfl];simp only[flatMap_cons,List.flatMap_nil,append_nil];rw[if_neg (by omega)];refine KG S 8 (zeros.set 0 0) opened (by omega) rfl rfl fun j h1 h2=>?_;obtain rfl:j=0:=by omega
 rfl
end
theorem au.dm{a:au}(h:a.valid=true):gz a.facts/\dM a.atoms:=by
 simp only[au.valid,aS,Bool.and_eq_true,all_eq_true] at h;refine⟨fun f hf=>?_,fun x hx=>?_⟩
 ·have:=h.1.2 f hf;simp[aF.valid,jq] at this;omega
 ·have:=h.2.2 x hx;simp[aL.valid,jq] at this;omega
def pU(atoms:List aL)(used:List Bool)(c:Int)(k:Nat):Bool:=decide (((atoms[k]?).getD default).a=c) && !((used[k]?).getD true)
def nK(atoms:List aL)(used:List Bool)(c:Int):Option Nat:=(range atoms.length).find? (pU atoms used c)
def pV(atoms:List aL)(b:Int):Bool:=decide (b=0) || atoms.any fun x=>decide (x.a=b)
def fD(atoms:List aL)(b:Int):Nat->List Bool->Int->Option (List Bool)
 | 0,_,_=>none
 | n+1,used,c=>(nK atoms used c).bind fun k=>
   if ((atoms[k]?).getD default).b=b then some (used.set k true)
   else if ((atoms[k]?).getD default).kind=2/\pV atoms b=false then none
   else fD atoms b n (used.set k true) ((atoms[k]?).getD default).b
def rz(atoms:List aL)(used:List Bool)(x:aL):Option (List Bool):=
 if x.kind=1 then (nK atoms used x.a).bind fun k=>if (atoms[k]?).getD default=x then some (used.set k true) else none
 else fD atoms x.b (atoms.length+1) used x.a
def pW(atoms:List aL):List Bool->List aL->Option (List Bool)
 | used,[]=>some used
 | used,x :: xs=>(rz atoms used x).bind fun u=>pW atoms u xs
def wF(atoms goal:List aL):Bool:=match pW atoms (List.replicate atoms.length false) goal with|some u=>u.all id|none=>false
def um(a b:au)(c:List Int):Bool:=b.facts.all (aF.fits c)&&wF (aW a.atoms c) (aW b.atoms c)
theorem xN{n k:Nat}{p:Nat->Bool}(hk:k<n)(hp:p k=true)(hb:∀j,j<k->p j=false):(range n).find? p=some k:=by
 rw[List.find?_range_eq_some];refine⟨hp,by simpa using hk,fun j hj=>by simp[hb j hj]⟩
theorem xO{n:Nat}{p:Nat->Bool}(hb:∀j,j<n->p j=false):(range n).find? p=none:=by
 rw[List.find?_eq_none];intro j hj;rw[mem_range] at hj;simp[hb j hj]
theorem zH{atoms:List aL}{used:List Bool}{c:Int}{k:Nat}(h:nK atoms used c=some k):k<atoms.length/\pU atoms used c k=true:=by
 unfold nK at h;have h1:=List.mem_of_find?_eq_some h;exact⟨by simpa using h1,List.find?_some h⟩
theorem xm{atoms:List aL}{used:List Bool}{c:Int}{k:Nat}(h:pU atoms used c k=true):k<used.length/\used[k]? = some false:=by
 unfold pU at h
 cases e:used[k]? with
 | none=>rw[e] at h;simp at h
 | some u=>
  rw[e] at h;have:=(List.getElem?_eq_some_iff.1 e).1;cases u
  ·exact⟨this,rfl⟩
  ·simp at h
theorem zI{used:List Bool}{k:Nat}(h:used[k]? = some false):(used.set k true).count true=used.count true+1:=by
 induction used generalizing k with
 | nil=>simp at h
 | cons u us ih=>
  cases k with
  | zero=>simp at h;subst h;simp
  | succ k=>
   simp only[List.set_cons_succ,List.count_cons];rw[ih (by simpa using h)];omega
theorem B6{used:List Bool}:(used.count true=used.length)↔used.all id=true:=by
 induction used with
 | nil=>simp
 | cons u us ih=>
  have:=List.count_le_length (a:=true) (l:=us);cases u
  ·simp;omega
  ·simp only[List.count_cons,beq_self_eq_true,if_true,length_cons,List.all_cons,id_eq,Bool.true_and];rw[<-ih];omega
theorem Hy{atoms:List aL}{b:Int}:∀(n:Nat) (used:List Bool) (c:Int) (u:List Bool),fD atoms b n used c=some u->u.length=used.length:=by
 intro n
 induction n with
 | zero=>intro used c u h;cases h
 | succ n ih=>
  intro used c u h;unfold fD at h;rw[Option.bind_eq_some_iff] at h;obtain⟨k,hk,h⟩:=h
  split at h
  ·cases h;simp
  ·split at h
   ·cases h
   ·rw[ih _ _ _ h];simp
theorem Hz{atoms:List aL}{used:List Bool}{x:aL}{u:List Bool}(h:rz atoms used x=some u):u.length=used.length:=by
 unfold rz at h
 split at h
 ·rw[Option.bind_eq_some_iff] at h;obtain⟨k,hk,h⟩:=h
  split at h
  ·cases h;simp
  ·cases h
 ·exact Hy _ _ _ _ h
end
section
open Go Go.RowKit Go.Proofs
def tH(fl:List Bool)(k:Nat):List Int:=((range k).filter fun n=>fl.getD n false).map fun n:Nat=>(n:Int)
theorem KI(fl:List Bool)(k:Nat):tH fl (k+1)=tH fl k++if fl.getD k false then [(k:Int)] else []:=by
 unfold tH;rw[List.range_succ,filter_append,map_append,filter_cons,List.filter_nil];cases fl.getD k false<;>rfl
theorem EJ(fl:List Bool)(k:Nat):(tH fl k).length<=k:=by
 unfold tH;rw[length_map];exact Nat.le_trans (List.length_filter_le _ _) (by simp)
theorem ll{lo hi:Nat}(A:Option Addr)(c:Nat)(fl:List Bool)(w:World)(h:bB w lo hi A fl)(Ov:fl.length<=9):Calls Tryz.prog 30 #[.slice A fl.length c] w fun e w'=>∃r,e=.returned r/\aD w' w.heap.size r (tH fl fl.length)/\Below w.heap.size w w':=by
 (go_enter Tryz.func30,Tryz.ntmps30);go_wp2
 go_loopw [3,4] (fun o i wr=>∃(k:Nat) (A:Option Addr) (c:Nat),k<=fl.length/\i=.int .i64 k/\o=.slice A (tH fl k).length c/\aD wr w.heap.size (.slice A (tH fl k).length c) (tH fl k)/\Below w.heap.size w wr) (fun _ i _=>fl.length - (intOf i).toNat)
 case atStart=>exact⟨0,_,_,by omega,rfl,rfl,aD.empty w rfl,aj⟩
 case round=>
  obtain⟨k,A,c,hk,rfl,rfl,hO,hB⟩:=hrel;have hlen:=EJ fl k;by_cases h8:k<fl.length
  ·obtain⟨b,off,rfl,c0⟩:=(h.bz hB).at h8;have HC:=ax (KI fl k);have hg:fl.getD k false=fl[k]:=by simp[h8]
   cases ht:fl[k]
   ·have HG:=ax (hg.trans ht);rw[ht] at c0;clear ht hg;(go_wp2_with fail)
    go_round
    case rel=>
     have e:tH fl (k+1)=tH fl k:=by rw[HC.o,HG.o];simp
     exact⟨k+1,A,c,by omega,by go_num,by rw[e],by rw[e];exact hO,hB⟩
    case measure=>simp[intOf];omega
   ·have HG:=ax (hg.trans ht);rw[ht] at c0;clear ht hg;(go_wp2_with (at_builtin;refine Ha rfl _ _ rfl (v:=.slice A (tH fl k).length c) rfl (hO.GR (uK.alloc (uK.refl 0 _) _) dJ) wr.heap.size _ rfl (jR wr _ _) (by omega) (by simp;have:=hB.size;omega) ?_;intro g' c' w2 hO2 hg2 hB3))
    go_round
    case rel=>
     have e:tH fl (k+1)=tH fl k++[(k:Int)]:=by rw[HC.o,HG.o];simp
     exact⟨k+1,some ⟨g',0,none⟩,c',by omega,by go_num,by rw[e,length_append];rfl,by rw[e];simpa using hO2,Below.trans (ai hB _) hB3⟩
    case measure=>simp[intOf];omega
  ·obtain rfl:k=fl.length:=by omega
   go_wp2;go_ret;exact⟨_,rfl,hO,hB⟩
def zj(S:Nat):List Bool:=(range 9).map fun i=>S.testBit i
theorem yD(S:Nat):(zj S).length=9:=by simp[zj]
theorem xq(S k:Nat)(hk:k<9):(zj S)[k]? = some (S.testBit k):=by simp[zj,hk]
theorem rC(S n:Nat):(zj S).set n true=zj (S|||1 <<< n):=by
 apply List.ext_getElem?;intro j;simp only[zj,List.getElem?_set,List.getElem?_map,length_map,List.length_range];by_cases hj:j<9
 ·rw[List.getElem?_range hj];simp only[Option.map_some,Nat.testBit_or,Nat.one_shiftLeft,Nat.testBit_two_pow];by_cases e:n=j
  ·subst e;simp[hj]
  ·simp[e]
 ·rw[List.getElem?_eq_none (by simp;omega)];by_cases e:n=j
  ·subst e;simp[hj]
  ·simp[e]
theorem eu(S:Nat)(cs:Array Value)(he:cs=(dN (zj S)).toArray){k:Nat}(hk:k<9):cs[k]? = some (.bool (S.testBit k)):=by
 subst he;simp[dN,xq S k hk]
theorem KJ(S n:Nat):((dN (zj S)).toArray).setIfInBounds n (.bool true)=(dN (zj (S|||1 <<< n))).toArray:=by
 rw[<-rC,dN,dN,List.map_set];simp
end
section
open Go Go.RowKit
def swp(x y t:Int):Int:=if t=x then y else t
def aF.sub(x y:Int)(f:aF):aF:=⟨f.eq,swp x y f.a,swp x y f.b⟩
def aL.sub(x y:Int)(f:aL):aL:=⟨f.kind,swp x y f.a,swp x y f.b⟩
def aZ(x y:Int)(a:au):au:=⟨a.facts.map (aF.sub x y),a.atoms.map (aL.sub x y)⟩
def upto{α:Type}(f:α->α)(k:Nat)(L:List α):List α:=(L.map f).take k++L.drop k
theorem jI{α:Type}(f:α->α)(k:Nat)(L:List α):(upto f k L).length=L.length:=by simp[upto];omega
theorem Ca{α:Type}(f:α->α)(L:List α):upto f 0 L=L:=by simp[upto]
theorem Cc{α:Type}(f:α->α)(L:List α):upto f L.length L=L.map f:=by simp[upto,List.take_of_length_le]
theorem uU{α:Type}(f:α->α)(k:Nat)(L:List α)(h:k<L.length):(upto f k L)[k]'(by rw[jI];exact h)=L[k]:=by
 have:(upto f k L)[k]? = some L[k]:=by
  rw[upto,List.getElem?_append_right (by simp;omega)];simp[show min k L.length=k from by omega,List.getElem?_eq_getElem h]
 rw[List.getElem?_eq_getElem (by rw[jI];exact h)] at this;exact Option.some.inj this
theorem EM{α:Type}(f:α->α)(k:Nat)(L:List α)(h:k<L.length):(upto f k L).set k (f L[k])=upto f (k+1) L:=by
 apply List.ext_getElem?;intro j;simp only[upto,List.getElem?_set,List.getElem?_append,List.getElem?_take,List.getElem?_map,List.getElem?_drop,length_append,length_take,length_map,List.length_drop];have e1:min k L.length=k:=by omega
 have e2:min (k+1) L.length=k+1:=by omega
 rw[e1,e2];by_cases hj:k=j
 ·subst hj;rw[if_pos rfl,if_pos (by omega),if_pos (by omega),if_pos (by omega),List.getElem?_eq_getElem h];rfl
 ·rw[if_neg hj];by_cases h1:j<k
  ·rw[if_pos h1,if_pos h1,if_pos (by omega),if_pos (by omega)]
  ·rw[if_neg h1,if_neg (by omega),show k+(j - k)=j from by omega,show k+1+(j - (k+1))=j from by omega]
def uo(t:Int):Bool:=decide (4<t/\t<=8)
def free(K:Nat)(t:Int):Bool:=uo t && !K.testBit t.toNat
def iH(K:Nat)(f:aF):Option (Int×Int):=
 if f.eq && !(f.a == f.b) then (if free K f.a then some (f.a,f.b) else if free K f.b then some (f.b,f.a) else none) else none
def bD(K:Nat)(fs:List aF):Option (Int×Int):=fs.findSome? (iH K)
theorem uV(K:Nat)(fs:List aF)(k:Nat)(hk:k<fs.length):bD K (fs.drop k)=(iH K fs[k]).or (bD K (fs.drop (k+1))):=by
 rw[drop_eq_getElem_cons hk,bD,List.findSome?_cons];cases iH K fs[k]<;>rfl
theorem mR{K:Nat}{f:aF}{x t:Int}(h:iH K f=some (x,t)):free K x=true/\x≠t/\((x=f.a/\t=f.b)\/(x=f.b/\t=f.a)):=by
 unfold iH at h
 split at h
 ·rename_i hc;simp at hc
  split at h
  ·rename_i hf;simp at h;obtain⟨rfl,rfl⟩:=h;exact⟨hf,hc.2,Or.inl ⟨rfl,rfl⟩⟩
  ·split at h
   ·rename_i hf;simp at h;obtain⟨rfl,rfl⟩:=h;exact⟨hf,fun e=>hc.2 e.symm,Or.inr ⟨rfl,rfl⟩⟩
   ·cases h
 ·cases h
def left(K:Nat)(a:au):List Nat:=(range 9).filter fun n=>free K (n:Int)&&decide ((n:Int)∈mz a)
theorem mD{a:au}{f:aF}(h:f∈a.facts):f.a∈mz a/\f.b∈mz a:=by
 simp only[mz,mem_append,mem_flatMap];exact⟨Or.inl ⟨f,h,by simp[qI]⟩,Or.inl ⟨f,h,by simp[qI]⟩⟩
theorem uW{a:au}{x y n:Int}(h:n∈mz (aZ x y a)):(n∈mz a/\n≠x)\/(n=y/\x∈mz a):=by
 simp only[mz,aZ,mem_append,mem_flatMap,List.mem_map] at h⊢;rcases h with ⟨g,⟨f,hf,rfl⟩,hn⟩|⟨g,⟨f,hf,rfl⟩,hn⟩
 ·simp only[qI,aF.sub,swp,mem_cons,not_mem_nil,or_false] at hn;rcases hn with hn|hn<;>split at hn
  ·rename_i e;exact Or.inr ⟨hn,Or.inl ⟨f,hf,by simp[qI,e]⟩⟩
  ·rename_i e;exact Or.inl ⟨Or.inl ⟨f,hf,by simp[qI,hn]⟩,fun h=>e (by omega)⟩
  ·rename_i e;exact Or.inr ⟨hn,Or.inl ⟨f,hf,by simp[qI,e]⟩⟩
  ·rename_i e;exact Or.inl ⟨Or.inl ⟨f,hf,by simp[qI,hn]⟩,fun h=>e (by omega)⟩
 ·simp only[mP,aL.sub,swp,mem_cons,not_mem_nil,or_false] at hn;rcases hn with hn|hn<;>split at hn
  ·rename_i e;exact Or.inr ⟨hn,Or.inr ⟨f,hf,by simp[mP,e]⟩⟩
  ·rename_i e;exact Or.inl ⟨Or.inr ⟨f,hf,by simp[mP,hn]⟩,fun h=>e (by omega)⟩
  ·rename_i e;exact Or.inr ⟨hn,Or.inr ⟨f,hf,by simp[mP,e]⟩⟩
  ·rename_i e;exact Or.inl ⟨Or.inr ⟨f,hf,by simp[mP,hn]⟩,fun h=>e (by omega)⟩
theorem filter_lt{α:Type}(p q:α->Bool)(x:α):∀(l:List α),x∈l->(∀y∈l,p y=true->q y=true)->p x=false->q x=true->(l.filter p).length<(l.filter q).length:=by
 intro l
 induction l with
 | nil=>intro h;cases h
 | cons y l ih=>
  intro h hpq hp hq
  have hle:(l.filter p).length<=(l.filter q).length:=by
   clear ih
   have:∀l:List α,(∀y∈l,p y=true->q y=true)->(l.filter p).length<=(l.filter q).length:=by
    intro l;induction l with
    | nil=>intro _;exact Nat.le_refl _
    | cons z l ih=>
     intro h;have:=ih fun y hy=>h y (mem_cons_of_mem _ hy);have hz:=h z mem_cons_self;rw[filter_cons,filter_cons];cases hp:p z<;>cases hq:q z<;>simp_all<;>omega
   exact this l fun y hy=>hpq y (mem_cons_of_mem _ hy)
  rw[filter_cons,filter_cons];rcases List.mem_cons.1 h with rfl|h
  ·simp[hp,hq];omega
  ·have h1:=ih h (fun y hy=>hpq y (mem_cons_of_mem _ hy)) hp hq;have hy:=hpq y mem_cons_self;cases hp':p y<;>cases hq':q y<;>simp_all<;>omega
theorem nL{K:Nat}{a:au}{x t:Int}(h:bD K a.facts=some (x,t)):(left K (aZ x t a)).length<(left K a).length:=by
 obtain⟨f,hf,hs⟩:=List.exists_of_findSome?_eq_some h;obtain⟨h1,h2,h3⟩:=mR hs
 have hl:4<x/\x<=8:=by
  unfold free at h1;simp only[Bool.and_eq_true] at h1;simpa[uo] using h1.1
 obtain⟨m,rfl⟩:=Int.eq_ofNat_of_zero_le (show 0<=x by omega);have hm:=mD hf
 have hx:(m:Int)∈mz a:=by
  rcases h3 with ⟨e,_⟩|⟨e,_⟩
  ·rw[e];exact hm.1
  ·rw[e];exact hm.2
 have ht:t∈mz a:=by
  rcases h3 with ⟨_,e⟩|⟨_,e⟩
  ·rw[e];exact hm.2
  ·rw[e];exact hm.1
 refine filter_lt _ _ m _ (by simp;omega) ?_ ?_ ?_
 ·intro y hy hp;simp only[Bool.and_eq_true,decide_eq_true_eq] at hp⊢;refine⟨hp.1,?_⟩;rcases uW hp.2 with ⟨h,_⟩|⟨h,_⟩
  ·exact h
  ·rw[h];exact ht
 ·simp only[Bool.and_eq_false_iff,decide_eq_false_iff_not];refine Or.inr fun hc=>?_;rcases uW hc with ⟨_,h⟩|⟨h,_⟩
  ·exact h rfl
  ·exact h2 h
 ·simp only[Bool.and_eq_true,decide_eq_true_eq];exact⟨h1,hx⟩
def jk(K:Nat)(a:au):au:=
 match _h:bD K a.facts with
 | none=>a
 | some (x,t)=>jk K (aZ x t a)
termination_by (left K a).length
decreasing_by exact nL _h
theorem gU{K:Nat}{a:au}(h:bD K a.facts=none):jk K a=a:=by
 rw[jk];split
 ·rfl
 ·rename_i e;rw[h] at e;cases e
theorem jJ{K:Nat}{a:au}{x t:Int}(h:bD K a.facts=some (x,t)):jk K a=jk K (aZ x t a):=by
 rw[jk];split
 ·rename_i e;rw[h] at e;cases e
 ·rename_i e;rw[h] at e;simp at e;obtain⟨rfl,rfl⟩:=e;rfl
def rD(K:Nat)(t:Int):Bool:=decide (t<=4) || K.testBit t.toNat
def bE(K:Nat)(f:aF):Bool:=rD K f.a&&rD K f.b
def H5(f:aF):aF:=if f.b<f.a then ⟨f.eq,f.b,f.a⟩ else f
def dL(acc:List aF)(f:aF):List aF:=if f.eq&&(f.a == f.b) then acc else if acc.contains (H5 f) then acc else acc++[H5 f]
def uq(x:aL):Bool:=x.kind != 2 || x.a != x.b
def iZ(a:au):au:=⟨a.facts.foldl dL [],a.atoms.filter uq⟩
def bL(K:Nat)(a:au):au:=
 let b:=jk K a
 iZ ⟨b.facts.filter (bE (K|||aO (mz ⟨[],b.atoms⟩))),b.atoms⟩
theorem BD(acc:List aF)(f:aF):(dL acc f).length<=acc.length+1:=by
 unfold dL;split
 ·omega
 ·split<;>simp
theorem qJ{α β:Type}(g:β->α->β)(xs:List α)(k:Nat)(hk:k<xs.length)(b:β):(xs.drop k).foldl g b=(xs.drop (k+1)).foldl g (g b xs[k]):=by
 rw[drop_eq_getElem_cons hk];rfl
theorem lF{α:Type}(p:α->Bool)(xs:List α)(k:Nat)(hk:k<xs.length):(xs.take (k+1)).filter p=(xs.take k).filter p++if p xs[k] then [xs[k]] else []:=by
 rw[List.take_succ_eq_append_getElem hk,filter_append,filter_cons,List.filter_nil]
theorem wG{x y:Int}{a:au}(h:a.valid=true)(hy:jq y=true):(aZ x y a).valid=true:=by
 simp only[au.valid,aS,aZ,Bool.and_eq_true,decide_eq_true_eq,length_map,List.all_map] at h⊢
 have hs:∀t,jq t=true->jq (swp x y t)=true:=fun t ht=>by
  unfold swp
  split
  ·exact hy
  ·exact ht
 refine⟨⟨h.1.1,?_⟩,h.2.1,?_⟩
 ·have:=h.1.2;rw[all_eq_true] at this⊢;intro f hf;have:=this f hf;simp only[aF.valid,Bool.and_eq_true,Function.comp,aF.sub] at this⊢;exact⟨hs _ this.1,hs _ this.2⟩
 ·have:=h.2.2;rw[all_eq_true] at this⊢;intro f hf;have:=this f hf;simp only[aL.valid,Bool.and_eq_true,Function.comp,aL.sub] at this⊢;exact⟨⟨this.1.1,hs _ this.1.2⟩,hs _ this.2⟩
theorem Dj{K:Nat}:∀(n:Nat) (a:au),(left K a).length<=n->a.valid=true->(jk K a).valid=true:=by
 intro n
 induction n with
 | zero=>
  intro a hn hv
  cases h:bD K a.facts with
  | none=>rw[gU h];exact hv
  | some p=>obtain⟨x,t⟩:=p;have:=nL h;omega
 | succ n ih=>
  intro a hn hv
  cases h:bD K a.facts with
  | none=>rw[gU h];exact hv
  | some p=>
   obtain⟨x,t⟩:=p;rw[jJ h];refine ih _ (by have:=nL h;omega) (wG hv ?_);obtain⟨f,hf,hs⟩:=List.exists_of_findSome?_eq_some h
   have oI:f.valid=true:=by
    simp only[au.valid,aS,Bool.and_eq_true] at hv;exact List.all_eq_true.1 hv.1.2 f hf
   simp only[aF.valid,Bool.and_eq_true] at oI;rcases(mR hs).2.2 with ⟨_,e⟩|⟨_,e⟩<;>rw[e]
   ·exact oI.2
   ·exact oI.1
def lG(S:Nat):Nat:=S >>> 5 <<< 5
theorem lH(S n:Nat):(lG S).testBit n=(decide (5<=n)&&S.testBit n):=by
 unfold lG;rw[Nat.testBit_shiftLeft,Nat.testBit_shiftRight];by_cases h:5<=n
 ·simp[h,show 5+(n - 5)=n from by omega]
 ·simp[h]
theorem H6{K:Nat}{f:aF}(hv:f.valid=true):bE K f=true↔∀n,(lG (aQ (aQ 0 f.a) f.b)).testBit n=true->K.testBit n=true:=by
 have hv':=hv;simp only[aF.valid,Bool.and_eq_true] at hv';have h1:=qU.1 hv'.1;have h2:=qU.1 hv'.2;constructor
 ·intro h n hn;simp only[lH,cr,Nat.zero_testBit,Bool.false_or,Bool.and_eq_true,Bool.or_eq_true,decide_eq_true_eq] at hn;simp only[bE,rD,Bool.and_eq_true,Bool.or_eq_true,decide_eq_true_eq] at h;obtain⟨h5,⟨_,e⟩|⟨_,e⟩⟩:=hn
  ·rcases h.1 with h|h
   ·omega
   ·rw[e] at h;simpa using h
  ·rcases h.2 with h|h
   ·omega
   ·rw[e] at h;simpa using h
 ·intro h;simp only[bE,rD,Bool.and_eq_true,Bool.or_eq_true,decide_eq_true_eq];refine⟨?_,?_⟩
  ·by_cases h5:f.a<=4
   ·exact Or.inl h5
   ·refine Or.inr (h _ ?_);simp only[lH,cr,Nat.zero_testBit,Bool.false_or,Bool.and_eq_true,Bool.or_eq_true,decide_eq_true_eq];exact⟨by omega,Or.inl ⟨hv'.1,by omega⟩⟩
  ·by_cases h5:f.b<=4
   ·exact Or.inl h5
   ·refine Or.inr (h _ ?_);simp only[lH,cr,Nat.zero_testBit,Bool.false_or,Bool.and_eq_true,Bool.or_eq_true,decide_eq_true_eq];exact⟨by omega,Or.inr ⟨hv'.2,by omega⟩⟩
end
section
open Go Go.RowKit Go.Proofs
attribute [local go_sem ↓] Go.wp_at_zero Go.wp_at_succ
theorem jK{a:au}(h:a.valid=true):∀t∈mz a,jq t=true:=by
 simp only[au.valid,aS,Bool.and_eq_true,all_eq_true] at h;intro t ht;simp only[mz,mem_append,mem_flatMap] at ht;rcases ht with ⟨f,hf,ht⟩|⟨f,hf,ht⟩
 ·have:=h.1.2 f hf;simp only[aF.valid,Bool.and_eq_true] at this;simp only[qI,mem_cons,not_mem_nil,or_false] at ht;rcases ht with rfl|rfl
  ·exact this.1
  ·exact this.2
 ·have:=h.2.2 f hf;simp only[aL.valid,Bool.and_eq_true] at this;simp only[mP,mem_cons,not_mem_nil,or_false] at ht;rcases ht with rfl|rfl
  ·exact this.1.2
  ·exact this.2
theorem Dk{a:au}{k:Nat}(h:k<a.atoms.length):a.atoms[k].a∈mz a/\a.atoms[k].b∈mz a:=by
 simp only[mz,mem_append,mem_flatMap];exact⟨Or.inr ⟨_,getElem_mem h,by simp[mP]⟩,Or.inr ⟨_,getElem_mem h,by simp[mP]⟩⟩
theorem fE(S m:Nat)(hm:m<=8):((dN (zj S)).toArray).setIfInBounds m (.bool true)=(dN (zj (aQ S (m:Int)))).toArray:=by
 rw[KJ,aQ,if_pos (qU.2 (by omega)),Int.toNat_natCast]
theorem bX.iG{w:World}{g base S:Nat}(h:ae w g tB (dN (zj S)).toArray)(hb:base<=g):bX w base (.slice (some ⟨g,0,none⟩) 9 9) (zj S):=
 ⟨ed (n:=9) (cap:=9) h hb (by simp[zj]) (by intro j hj;simp) bn (by decide) (by simp[zj]),by simp[zj,il]⟩
theorem Pp(w:World):(Instr.makeSlice 57 (.int .i64 9) (.int .i64 9)).run Tryz.prog w=.ok (.slice (some ⟨w.heap.size,0,none⟩) 9 9) (w.alloc (.cells (dN (zj 0)).toArray tB)):=
 (mkB 9 (by decide) w).trans (by rw[show (madeCells #[.bool false] (9 * 1))=(dN (zj 0)).toArray from by kernel_rfl])
theorem iM{w:World}{lo hi b o K m:Nat}(h:bB w lo hi (some ⟨b,o,none⟩) (zj K))(hm:m<=8):w.cell? ⟨b,o+m,none⟩=some (.bool (K.testBit m)):=by
 have:=h.cl (k:=m) (by rw[yD];omega);rw[this];have e:=xq K m (by omega);rw[List.getElem?_eq_getElem (by rw[yD];omega)] at e;rw[Option.some.inj e]
theorem iN{w:World}{lo hi K:Nat}{A:Option Addr}(h:bB w lo hi A (zj K)):∃b o,A=some ⟨b,o,none⟩/\b<w.heap.size:=h.blt (k:=0) (by rw[yD];omega)
theorem oK(t x y:Int)(w:World):Calls Tryz.prog 139 #[.int .i64 t,.int .i64 x,.int .i64 y] w fun e w'=>e=.returned (.int .i64 (swp x y t))/\w=w':=by
 by_cases h:t=x
 ·have hb:(t == x)=true:=by simpa using h
  have HS:aJ (swp x y t=y):=by simp[aJ,swp,h]
  clear h;(go_enter Tryz.func139,Tryz.ntmps139);go_wp2;go_ret;exact⟨sJ HS.o.symm,rfl⟩
 ·have hb:(t == x)=false:=by simpa using h
  have HS:aJ (swp x y t=t):=by simp[aJ,swp,h]
  clear h;(go_enter Tryz.func139,Tryz.ntmps139);go_wp2;go_ret;exact⟨sJ HS.o.symm,rfl⟩
theorem rE{lo hi:Nat}(A:Option Addr)(c:Nat)(xs:List Int)(w:World)(h:bG w lo hi A xs):Calls Tryz.prog 26 #[.slice A xs.length c] w fun e w'=>∃r,e=.returned r/\bX w' w.heap.size r (zj (aO xs))/\Below w.heap.size w w':=by
 have hl:=h.le;have hmk:=Pp;have HT:aJ (aO xs=xs.foldl aQ 0):=by show _=_;unfold aO;rfl
 (go_enter Tryz.func26,Tryz.ntmps26);go_wp2;clear hmk
 go_loopw [4] (fun i wr=>∃(k T:Nat),k<=xs.length/\i=.int .i64 k/\aJ (aO xs=(xs.drop k).foldl aQ T)/\ae wr w.heap.size tB (dN (zj T)).toArray/\Below w.heap.size w wr) (fun i _=>xs.length - (intOf i).toNat)
 case atStart=>exact⟨0,0,dJ,rfl,HT.o,az,aj⟩
 case round=>
  obtain⟨k,T,hk,rfl,HA,k0,hB⟩:=hrel;by_cases hlt:k<xs.length
  ·obtain⟨b,off,rfl,c0⟩:=(h.bz hB).at hlt;have HD:=ax (jD aQ T xs k hlt);have hne:=block_lt_of_cell c0;cases ht:jq xs[k]
   ·have HS:aJ (aQ T xs[k]=T):=by simp[aJ,aQ,ht]
    go_wp2_with (go_at_call 54;refine(dC _ _).mono ?_;rintro e w' ⟨rfl,rfl⟩)
    go_round
    case rel=>exact⟨k+1,T,by omega,by go_num,by show _=_;rw[HA.o,HD.o,HS.o],k0,hB⟩
    case measure=>simp[intOf];omega
   ·have hb:=qU.1 ht;obtain⟨m,hm⟩:=Int.eq_ofNat_of_zero_le hb.1;have HM:=ax hm;have m8:m<=8:=by omega
    have m8':(m:Int)<9:=by omega
    rw[hm] at c0 ht;have q3:wr.cell? ⟨w.heap.size,m,none⟩=some (.bool (T.testBit m)):=(k0.cell m).trans (eu T _ rfl (by omega));have r3:=k0.frozen;clear hm hb;(go_wp2_with (go_at_call 54;refine(dC _ _).mono ?_;rintro e w' ⟨rfl,rfl⟩))
    go_round
    case rel=>
     refine⟨k+1,aQ T xs[k],by omega,by go_num,by show _=_;rw[HA.o,HD.o],?_,aj⟩;rw[HM.o,<-fE _ _ m8];exact k0.ag _ _
    case measure=>simp[intOf];omega
  ·obtain rfl:k=xs.length:=by omega
   go_wp2;go_ret;refine⟨_,rfl,?_,hB⟩;rw[HA.o,drop_length];exact bX.iG k0 bn
theorem Rx(T m1 m2:Nat)(h1:m1<=8)(h2:m2<=8):(((dN (zj T)).toArray).setIfInBounds m1 (.bool true)).setIfInBounds m2 (.bool true)=(dN (zj (aQ (aQ T (m1:Int)) (m2:Int)))).toArray:=by
 rw[fE _ _ h1,fE _ _ h2]
theorem ae.two{w:World}{g T m1 m2:Nat}(h:ae w g tB (dN (zj T)).toArray)(h1:m1<=8)(h2:m2<=8):ae ((w.setCell ⟨g,m1,none⟩ (.bool true)).setCell ⟨g,m2,none⟩ (.bool true)) g tB (dN (zj (aQ (aQ T (m1:Int)) (m2:Int)))).toArray:=by
 rw[<-Rx _ _ _ h1 h2];exact(h.ag _ _).ag _ _
theorem ae.twice{w:World}{g T m1:Nat}(h:ae w g tB (dN (zj T)).toArray)(h1:m1<=8):ae (w.setCell ⟨g,m1,none⟩ (.bool true)) g tB (dN (zj (aQ (aQ T (m1:Int)) (m1:Int)))).toArray:=by
 rw[<-fE _ _ h1,<-fE _ _ h1]
 have e:∀(a:Array Value) (i:Nat) (u:Value),(a.setIfInBounds i u).setIfInBounds i u=a.setIfInBounds i u:=by
  intro a i u;apply Array.ext_getElem?;intro j;by_cases e:i=j
  ·subst e;rw[Array.getElem?_setIfInBounds_self,Array.size_setIfInBounds,Array.getElem?_setIfInBounds_self]
  ·rw[Array.getElem?_setIfInBounds_ne e]
 rw[e];exact h.ag _ _
theorem dO{lo hi:Nat}(v:Value)(a:au)(w:World)(h:aM w lo hi v a)(hv:∀t∈mz a,jq t=true):Calls Tryz.prog 27 #[v] w fun e w'=>∃r,e=.returned r/\bX w' w.heap.size r (zj (aO (mz a)))/\Below w.heap.size w w':=by
 obtain⟨A1,c1,A2,c2,rfl,h1,h2⟩:=h;have hl1:=h1.le;have hl2:=h2.le;have hmk:=Pp;have HV:=ax hv;have HT:=ax (zi a);clear hv;(go_enter Tryz.func27,Tryz.ntmps27);go_wp2;clear hmk
 go_loopw [4] (fun i wr=>∃(k T:Nat),k<=a.facts.length/\i=.int .i64 k/\aJ (a.facts.foldl (fun S f=>aQ (aQ S f.a) f.b) 0=(a.facts.drop k).foldl (fun S f=>aQ (aQ S f.a) f.b) T)/\ae wr w.heap.size 26 #[.slice A1 a.facts.length c1,.slice A2 a.atoms.length c2]/\ae wr (w.heap.size+1) tB (dN (zj T)).toArray/\Below w.heap.size w wr) (fun i _=>a.facts.length - (intOf i).toNat)
 case atStart=>exact⟨0,0,dJ,rfl,rfl,az,az,aj⟩
 case round=>
  obtain⟨k,T,hk,rfl,HA,k0,k1,hB⟩:=hrel;have bT:=k0.cell;by_cases hlt:k<a.facts.length
  ·obtain⟨b,off,rfl,hbl⟩:=h1.blt hlt;obtain⟨g0,g1,g2⟩:=(h1.bz hB).cl hlt;have HD:=ax (jD (fun S (f:aF)=>aQ (aQ S f.a) f.b) T a.facts k hlt);have hm:=mD (getElem_mem hlt);have b1:=qU.1 (HV.o _ hm.1);have b2:=qU.1 (HV.o _ hm.2);obtain⟨m1,e1⟩:=Int.eq_ofNat_of_zero_le b1.1;obtain⟨m2,e2⟩:=Int.eq_ofNat_of_zero_le b2.1;have E1:=ax e1;have E2:=ax e2;rw[e1] at g1;rw[e2] at g2;have m18:(m1:Int)<9:=by omega
   have m28:(m2:Int)<9:=by omega
   have q1:wr.cell? ⟨w.heap.size+1,m1,none⟩=some (.bool (T.testBit m1)):=(k1.cell m1).trans (eu T _ rfl (by omega));have q2:wr.cell? ⟨w.heap.size+1,m2,none⟩=some (.bool (T.testBit m2)):=(k1.cell m2).trans (eu T _ rfl (by omega));have r3:=k1.frozen;clear e1 e2 hm b1 b2;by_cases he:m1=m2
   ·subst he;(go_wp2_with fail)
    go_round
    case rel=>
     refine⟨k+1,aQ (aQ T (m1:Int)) (m1:Int),by omega,by go_num,by show _=_;rw[HA.o,HD.o,E1.o,E2.o],?_,?_,aj⟩
     ·first|exact k0.far (by simp) _|exact(k0.far (by simp) _).far (by simp) _
     ·first|exact k1.twice (by omega)|exact k1.two (by omega) (by omega)
    case measure=>simp[intOf];omega
   ·have he2:=Ne.symm he;(go_wp2_with fail)
    go_round
    case rel=>
     refine⟨k+1,aQ (aQ T (m1:Int)) (m2:Int),by omega,by go_num,by show _=_;rw[HA.o,HD.o,E1.o,E2.o],(k0.far (by simp) _).far (by simp) _,k1.two (by omega) (by omega),aj⟩
    case measure=>simp[intOf];omega
  ·obtain rfl:k=a.facts.length:=by omega
   have HA2:=ax (show a.facts.foldl (fun S f=>aQ (aQ S f.a) f.b) 0=T by rw[HA.o,drop_length];rfl);(go_wp2_with fail)
   go_loopw [5] (fun i wx=>∃(k T':Nat),k<=a.atoms.length/\i=.int .i64 k/\aJ (a.atoms.foldl (fun S f=>aQ (aQ S f.a) f.b) T=(a.atoms.drop k).foldl (fun S f=>aQ (aQ S f.a) f.b) T')/\ae wx w.heap.size 26 #[.slice A1 a.facts.length c1,.slice A2 a.atoms.length c2]/\ae wx (w.heap.size+1) tB (dN (zj T')).toArray/\Below w.heap.size w wx) (fun i _=>a.atoms.length - (intOf i).toNat)
   case atStart=>exact⟨0,T,dJ,rfl,rfl,k0,k1,hB⟩
   case round=>
    clear k0 bT k1 hB;obtain⟨k,T',hk,rfl,HB,k0,k1,hB⟩:=hrel;have bT:=k0.cell;by_cases hlt2:k<a.atoms.length
    ·obtain⟨b,off,rfl,hbl⟩:=h2.blt hlt2;obtain⟨g0,g1,g2⟩:=(h2.bz hB).cl hlt2;have HD:=ax (jD (fun S (f:aL)=>aQ (aQ S f.a) f.b) T' a.atoms k hlt2);have hm:=Dk hlt2;have b1:=qU.1 (HV.o _ hm.1);have b2:=qU.1 (HV.o _ hm.2);obtain⟨m1,e1⟩:=Int.eq_ofNat_of_zero_le b1.1;obtain⟨m2,e2⟩:=Int.eq_ofNat_of_zero_le b2.1;have E1:=ax e1;have E2:=ax e2;rw[e1] at g1;rw[e2] at g2;have m18:(m1:Int)<9:=by omega
     have m28:(m2:Int)<9:=by omega
     have q1:wr.cell? ⟨w.heap.size+1,m1,none⟩=some (.bool (T'.testBit m1)):=(k1.cell m1).trans (eu T' _ rfl (by omega));have q2:wr.cell? ⟨w.heap.size+1,m2,none⟩=some (.bool (T'.testBit m2)):=(k1.cell m2).trans (eu T' _ rfl (by omega));have r3:=k1.frozen;clear e1 e2 hm b1 b2;by_cases he:m1=m2
     ·subst he;(go_wp2_with fail)
      go_round
      case rel=>
       refine⟨k+1,aQ (aQ T' (m1:Int)) (m1:Int),by omega,by go_num,by show _=_;rw[HB.o,HD.o,E1.o,E2.o],?_,?_,aj⟩
       ·first|exact k0.far (by simp) _|exact(k0.far (by simp) _).far (by simp) _
       ·first|exact k1.twice (by omega)|exact k1.two (by omega) (by omega)
      case measure=>simp[intOf];omega
     ·have he2:=Ne.symm he;(go_wp2_with fail)
      go_round
      case rel=>
       refine⟨k+1,aQ (aQ T' (m1:Int)) (m2:Int),by omega,by go_num,by show _=_;rw[HB.o,HD.o,E1.o,E2.o],(k0.far (by simp) _).far (by simp) _,k1.two (by omega) (by omega),aj⟩
      case measure=>simp[intOf];omega
    ·obtain rfl:k=a.atoms.length:=by omega
     go_wp2;go_ret;refine⟨_,rfl,?_,hB⟩;rw[HT.o,HA2.o,HB.o,drop_length];exact bX.iG k1 (by omega)
theorem aG.qV{w:World}{g:Nat}{e:Bool}{x y:Int}(h:ae w g tF #[.bool e,.int .i64 x,.int .i64 y]):aG w g (g+1) (some ⟨g,0,none⟩) [⟨e,x,y⟩]:=aG.one (f:=⟨e,x,y⟩) h
theorem aB.qV{w:World}{g:Nat}{e:Int}{x y:Int}(h:ae w g tA #[.int .i64 e,.int .i64 x,.int .i64 y]):aB w g (g+1) (some ⟨g,0,none⟩) [⟨e,x,y⟩]:=aB.one (f:=⟨e,x,y⟩) h
theorem map_take{α β:Type}(f:α->β)(xs:List α)(k:Nat)(hk:k<xs.length):(xs.take (k+1)).map f=(xs.take k).map f++[f xs[k]]:=by
 rw[List.take_succ_eq_append_getElem hk,map_append];rfl
theorem rG{lo hi:Nat}(v:Value)(a:au)(x y:Int)(w:World)(h:aM w lo hi v a) :
  Calls Tryz.prog 113 #[v,.int .i64 x,.int .i64 y] w fun e w'=>∃r,e=.returned r/\aI w' w.heap.size r (aZ x y a)/\Below w.heap.size w w':=by
 obtain⟨A1,c1,A2,c2,rfl,h1,h2⟩:=h;have l1:=h1.le;have l2:=h2.le;(go_enter Tryz.func113,Tryz.ntmps113);obtain⟨k0,k1,k2⟩:=wD w 26 26 26 #[.slice A1 a.facts.length c1,.slice A2 a.atoms.length c2] #[.slice none 0 0,.slice none 0 0] #[.slice none 0 0,.slice none 0 0];(go_wp2_with fail)
 go_loopw [8] (fun i wr=>∃(k:Nat) (A:Option Addr) (c:Nat),k<=a.facts.length/\i=.int .i64 k/\ah wr (w.heap.size+1+1+1) (.slice A k c) ((a.facts.take k).map (aF.sub x y))/\
  ae wr w.heap.size 26 #[.slice A1 a.facts.length c1,.slice A2 a.atoms.length c2]/\ae wr (w.heap.size+1) 26 #[.slice none 0 0,.slice none 0 0]/\ae wr (w.heap.size+1+1) 26 #[.slice A k c,.slice none 0 0]/\Below w.heap.size w wr) (fun i _=>a.facts.length - (intOf i).toNat)
 case atStart=>exact⟨0,none,0,dJ,rfl,ah.nil _ _,k0,k1,k2,aj⟩
 case round=>
  clear k0 k1 k2;obtain⟨k,A,c,hk,rfl,of,k0,k1,k2,hB⟩:=hrel;(replace bT:=k0.z;replace fI:=k1.cell;replace nZ:=k1.frozen;replace mE:=k1.lt;replace lZ:=k2.z);by_cases hlt:k<a.facts.length
  ·obtain⟨b,off,rfl,hbl⟩:=h1.blt hlt;obtain⟨g0,g1,g2⟩:=(h1.bz hB).cl hlt;have HT:=ax (map_take (aF.sub x y) a.facts k hlt);have HL:aJ (((a.facts.take k).map (aF.sub x y)).length=k):=by simp[aJ];omega
   have hL2:(map (aF.sub x y) (take k a.facts)).length<=1049599:=by rw[HL.o];omega
   have hwz:=hB.size;(go_wp2_with fail);have kf:=ae.new wr tF #[.bool a.facts[k].eq,.int .i64 a.facts[k].a,.int .i64 a.facts[k].b];refine wp_region_noPanic ?_;refine bQ (S:=(fun w'=>(∀i,w'.cell? ⟨w.heap.size+1+1,i,none⟩=#[.slice A k c,.slice none 0 0][i]?)/\(∀i,w'.cell? ⟨wr.heap.size,i,none⟩=#[.bool a.facts[k].eq,.int .i64 a.facts[k].a,.int .i64 a.facts[k].b][i]?))) (by simp) (by kernel_rfl) (by kernel_rfl) (⟨ae.cell az,ae.cell az⟩) (fun aH=>?_);simp only[dropLast,getLast,gP,cons_append,nil_append,length_cons,length_nil,Nat.zero_add,Nat.reduceAdd];refine jQ 0 1 2 3 4 ?_;refine jQ 5 6 7 9 10 ?_;refine uM 11 12 ?_;refine aX 8 rfl fun K hK=>?_;(try simp only[zz]);(go_simp;refine(oK _ _ _ _).mono ?_;rintro e w' ⟨rfl,rfl⟩);refine hK.out _ _ (⟨ae.cell az,ae.cell az⟩) ?_;clear aH hK K;intro aH;refine aX 13 rfl fun K hK=>?_;(try simp only[zz]);(go_simp;refine(oK _ _ _ _).mono ?_;rintro e w' ⟨rfl,rfl⟩);refine hK.out _ _ (⟨ae.cell az,ae.cell az⟩) ?_;clear aH hK K;intro aH;refine jh 14 ?_;refine aX 15 rfl fun K hK=>?_;(try simp only[zz]);go_simp;refine hK.out _ _ (⟨ae.cell az,ae.cell az⟩) ?_;clear aH hK K;intro aH;(try simp only[zz]);refine aX 16 rfl fun K hK=>?_;skip;(refine jT (base:=w.heap.size+1+1+1) (xs:=(a.facts.take k).map (aF.sub x y)) rfl _ _ rfl rfl (ah.bz (w:=wr) of aj) rfl (aG.qV az) (by simp;omega) (by simp;omega) ?_;intro A' c' w2 lQ hg2 hB3;have z2:=ae.zm (g:=w.heap.size+1+1) (hg:=hg2) az (ah.bz (w:=wr) of aj).1 (by decide);have GX:=z2.cell;have QK:=z2.frozen;have zf:ae w2 wr.heap.size tF #[.bool a.facts[k].eq,.int .i64 a.facts[k].a,.int .i64 a.facts[k].b]:=ae.grown az hg2 (fun e=>absurd (of.1.lt _ e.symm).2 (Nat.lt_irrefl _)));refine hK.out _ _ (⟨GX,zf.cell⟩) ?_;clear aH hK K;intro aH;refine jh 17 ?_;refine aX 18 rfl fun K hK=>?_;go_simp;refine hK.out _ _ (⟨GX,zf.cell⟩) (fun aH=>?_);clear hK K;refine wpAnyH_done (by kernel_rfl) ?_ _;unfold mi;go_simp;refine NoPanic.normal ?_;have z0:=ae.zm (g:=w.heap.size) (hg:=hg2) az (ah.bz (w:=wr) of aj).1 (by decide);have z1:=ae.zm (g:=w.heap.size+1) (hg:=hg2) az (ah.bz (w:=wr) of aj).1 (by decide);have hBw2:Below w.heap.size w w2:=Below.trans aj (hB3.mono (by omega));(go_wp2_with fail);have Dl:=lQ.aA z2 (by decide) 0 (.slice A' (map (aF.sub x y) (take k a.facts)++[aF.sub x y a.facts[k]]).length c');rw[show (⟨a.facts[k].eq,swp x y a.facts[k].a,swp x y a.facts[k].b⟩:aF)=aF.sub x y a.facts[k] from rfl] at Dl;rw[<-HT.o] at Dl;simp only[length_map,length_take,Nat.min_eq_left (show k+1<=a.facts.length from hlt)] at Dl
   go_round
   case rel=>exact⟨k+1,A',c',by omega,by go_num,Dl,z0.far (by simp only[];omega) _,z1.far (by simp only[];omega) _,z2.ag 0 _,aj⟩
   case measure=>simp[intOf];omega
  ·obtain rfl:k=a.facts.length:=by omega
   rw[take_length] at of;(go_wp2_with fail)
   go_loopw [10] (fun i wr=>∃(k:Nat) (B:Option Addr) (d:Nat),k<=a.atoms.length/\i=.int .i64 k/\ah wr (w.heap.size+1+1+1) (.slice A a.facts.length c) (a.facts.map (aF.sub x y))/\af wr (w.heap.size+1+1+1) (.slice B k d) ((a.atoms.take k).map (aL.sub x y))/\
    ae wr w.heap.size 26 #[.slice A1 a.facts.length c1,.slice A2 a.atoms.length c2]/\ae wr (w.heap.size+1) 26 #[.slice none 0 0,.slice none 0 0]/\ae wr (w.heap.size+1+1) 26 #[.slice A a.facts.length c,.slice B k d]/\Below w.heap.size w wr) (fun i _=>a.atoms.length - (intOf i).toNat)
   case atStart=>exact⟨0,none,0,dJ,rfl,of,af.nil _ _,k0,k1,k2,aj⟩
   case round=>
    clear k0 k1 k2 of hB bT fI nZ mE lZ;obtain⟨k,B,d,hk,rfl,og,of,k0,k1,k2,hB⟩:=hrel;(replace bT:=k0.z;replace fI:=k1.cell;replace nZ:=k1.frozen;replace mE:=k1.lt;replace lZ:=k2.z);by_cases hlt:k<a.atoms.length
    ·obtain⟨b,off,rfl,hbl⟩:=h2.blt hlt;obtain⟨g0,g1,g2⟩:=(h2.bz hB).cl hlt;have HT:=ax (map_take (aL.sub x y) a.atoms k hlt);have HL:aJ (((a.atoms.take k).map (aL.sub x y)).length=k):=by simp[aJ];omega
     have hL2:(map (aL.sub x y) (take k a.atoms)).length<=1049599:=by rw[HL.o];omega
     have hwz:=hB.size;(go_wp2_with fail);have kf:=ae.new wr tA #[.int .i64 a.atoms[k].kind,.int .i64 a.atoms[k].a,.int .i64 a.atoms[k].b];refine wp_region_noPanic ?_;refine bQ (S:=(fun w'=>(∀i,w'.cell? ⟨w.heap.size+1+1,i,none⟩=#[.slice A a.facts.length c,.slice B k d][i]?)/\(∀i,w'.cell? ⟨wr.heap.size,i,none⟩=#[.int .i64 a.atoms[k].kind,.int .i64 a.atoms[k].a,.int .i64 a.atoms[k].b][i]?))) (by simp) (by kernel_rfl) (by kernel_rfl) (⟨ae.cell az,ae.cell az⟩) (fun aH=>?_);simp only[dropLast,getLast,gP,cons_append,nil_append,length_cons,length_nil,Nat.zero_add,Nat.reduceAdd];refine jQ 0 1 2 3 4 ?_;refine jQ 5 6 7 9 10 ?_;refine uM 11 12 ?_;refine aX 8 rfl fun K hK=>?_;(try simp only[zz]);(go_simp;refine(oK _ _ _ _).mono ?_;rintro e w' ⟨rfl,rfl⟩);refine hK.out _ _ (⟨ae.cell az,ae.cell az⟩) ?_;clear aH hK K;intro aH;refine aX 13 rfl fun K hK=>?_;(try simp only[zz]);(go_simp;refine(oK _ _ _ _).mono ?_;rintro e w' ⟨rfl,rfl⟩);refine hK.out _ _ (⟨ae.cell az,ae.cell az⟩) ?_;clear aH hK K;intro aH;refine jh 14 ?_;refine aX 15 rfl fun K hK=>?_;(try simp only[zz]);go_simp;refine hK.out _ _ (⟨ae.cell az,ae.cell az⟩) ?_;clear aH hK K;intro aH;(try simp only[zz]);refine aX 16 rfl fun K hK=>?_;skip;(refine lW (base:=w.heap.size+1+1+1) (xs:=(a.atoms.take k).map (aL.sub x y)) rfl _ _ rfl rfl (af.bz (w:=wr) of aj) rfl (aB.qV az) (by simp;omega) (by simp;omega) ?_;intro A' c' w2 lQ hg2 hB3;have z2:=ae.zm (g:=w.heap.size+1+1) (hg:=hg2) az (af.bz (w:=wr) of aj).1 (by decide);have GX:=z2.cell;have QK:=z2.frozen;have zf:ae w2 wr.heap.size tA #[.int .i64 a.atoms[k].kind,.int .i64 a.atoms[k].a,.int .i64 a.atoms[k].b]:=ae.grown az hg2 (fun e=>absurd (of.1.lt _ e.symm).2 (Nat.lt_irrefl _)));refine hK.out _ _ (⟨GX,zf.cell⟩) ?_;clear aH hK K;intro aH;refine jh 17 ?_;refine aX 18 rfl fun K hK=>?_;go_simp;refine hK.out _ _ (⟨GX,zf.cell⟩) (fun aH=>?_);clear hK K;refine wpAnyH_done (by kernel_rfl) ?_ _;unfold mi;go_simp;refine NoPanic.normal ?_;have z0:=ae.zm (g:=w.heap.size) (hg:=hg2) az (af.bz (w:=wr) of aj).1 (by decide);have z1:=ae.zm (g:=w.heap.size+1) (hg:=hg2) az (af.bz (w:=wr) of aj).1 (by decide);have hBw2:Below w.heap.size w w2:=Below.trans aj (hB3.mono (by omega));(go_wp2_with fail);have Dl:=lQ.aA z2 (by decide) 1 (.slice A' (map (aL.sub x y) (take k a.atoms)++[aL.sub x y a.atoms[k]]).length c');rw[show (⟨a.atoms[k].kind,swp x y a.atoms[k].a,swp x y a.atoms[k].b⟩:aL)=aL.sub x y a.atoms[k] from rfl] at Dl;rw[<-HT.o] at Dl;simp only[length_map,length_take,Nat.min_eq_left (show k+1<=a.atoms.length from hlt)] at Dl
     go_round
     case rel=>exact⟨k+1,A',c',by omega,by go_num,(ah.jF (og.bz aj) (af.bz (w:=wr) of aj) hg2).aA z2 (by decide) _ _,Dl,z0.far (by simp only[];omega) _,z1.far (by simp only[];omega) _,z2.ag 1 _,aj⟩
     case measure=>simp[intOf];omega
    ·obtain rfl:k=a.atoms.length:=by omega
     rw[take_length] at of;go_wp2;refine bodyPost_ret (v:=.agg #[.slice A a.facts.length c,.slice B a.atoms.length d]) (by simp[results,Tryz.results113,go_sem,fI]) rfl ⟨_,rfl,?_,aj⟩;refine⟨_,_,rfl,?_,?_⟩
     ·simpa[aZ] using ((og.aA k1 (by decide) 0 (.slice A a.facts.length c)).aA (k1.ag _ _) (by decide) 1 (.slice B a.atoms.length d)).bq (show w.heap.size<=w.heap.size+1+1+1 by omega)
     ·simpa[aZ] using ((of.aA k1 (by decide) 0 (.slice A a.facts.length c)).aA (k1.ag _ _) (by decide) 1 (.slice B a.atoms.length d)).bq (show w.heap.size<=w.heap.size+1+1+1 by omega)
abbrev lq:Nat:=154
theorem jL{w:World}{g:Nat}{c:List Int}{t:TypeId}(h:ae w g t (encI c).toArray){m:Nat}(hm:m<c.length):w.cell? ⟨g,m,none⟩=some (.int .i64 (cl c m)):=by
 rw[h.cell];simp[cl,List.getElem?_eq_getElem hm]
theorem kQ(f:aF)(c:List Int)(g:Nat)(w:World)(hk:ae w g lq (encI c).toArray)(hc:c.length=9)(ha:0<=f.a/\f.a<=8)(hb:0<=f.b/\f.b<=8) :
  Calls Tryz.prog 162 #[.pointer (some ⟨g,0,none⟩),f.val] w fun e w'=>e=.returned (.bool (f.fits c))/\Below w.heap.size w w':=by
 obtain⟨q,a,b⟩:=f;dsimp only at ha hb;obtain⟨a,rfl⟩:=Int.eq_ofNat_of_zero_le ha.1;obtain⟨b,rfl⟩:=Int.eq_ofNat_of_zero_le hb.1;have c1:=jL hk (m:=a) (by rw[hc];omega);have c2:=jL hk (m:=b) (by rw[hc];omega);have hlt:=hk.lt;have UW:(a:Int)<9:=by omega
 have Xj:(b:Int)<9:=by omega
 clear ha hb;(go_enter Tryz.func162,Tryz.ntmps162);(go_wp2_with fail);(go_quiet (fail));go_wp2;go_ret;exact⟨dz rfl,aj⟩
theorem qK(x:aL)(c:List Int)(g:Nat)(w:World)(hk:ae w g lq (encI c).toArray)(hc:c.length=9)(ha:0<=x.a/\x.a<=8)(hb:0<=x.b/\x.b<=8) :
  Calls Tryz.prog 168 #[.pointer (some ⟨g,0,none⟩),x.val] w fun e w'=>e=.returned (.bool (x.fill c))/\Below w.heap.size w w':=by
 obtain⟨q,a,b⟩:=x;dsimp only at ha hb;obtain⟨a,rfl⟩:=Int.eq_ofNat_of_zero_le ha.1;obtain⟨b,rfl⟩:=Int.eq_ofNat_of_zero_le hb.1;have c1:=jL hk (m:=a) (by rw[hc];omega);have c2:=jL hk (m:=b) (by rw[hc];omega);have hlt:=hk.lt;have UW:(a:Int)<9:=by omega
 have Xj:(b:Int)<9:=by omega
 clear ha hb;cases hq:(q == 1)
 all_goals
  have HQ:=ax hq;(go_enter Tryz.func168,Tryz.ntmps168);(go_wp2_with fail);(go_quiet (fail));go_wp2;go_ret;exact⟨dz (by have:=HQ.o;(try simp at this);simp[aL.fill,this];try rfl),aj⟩
theorem uX(xs:List aL)(c:List Int)(k:Nat)(hk:k<xs.length):aW (xs.take (k+1)) c=aW (xs.take k) c++if xs[k].fill c then [xs[k].cls c] else []:=by
 unfold aW;rw[List.take_succ_eq_append_getElem hk,filter_append,map_append];cases h:xs[k].fill c<;>simp[h]
theorem nM(xs:List aL)(c:List Int):(aW xs c).length<=xs.length:=by
 unfold aW;rw[length_map];exact List.length_filter_le _ _
theorem tV{lo hi:Nat}(A:Option Addr)(d:Nat)(xs:List aL)(c:List Int)(g:Nat)(w:World)(h:aB w lo hi A xs)(hk:ae w g lq (encI c).toArray)(hc:c.length=9)(hx:dM xs) :
  Calls Tryz.prog 165 #[.pointer (some ⟨g,0,none⟩),.slice A xs.length d] w fun e w'=>∃r,e=.returned r/\af w' w.heap.size r (aW xs c)/\Below w.heap.size w w':=by
 have hl:=h.le;have hgl:=hk.lt;(go_enter Tryz.func165,Tryz.ntmps165);(go_wp2_with fail)
 go_loopw [5,10] (fun r i wr=>∃(k:Nat) (B:Option Addr) (n e:Nat),k<=xs.length/\i=.int .i64 k/\n=(aW (xs.take k) c).length/\r=.slice B n e/\af wr w.heap.size (.slice B n e) (aW (xs.take k) c)/\Below w.heap.size w wr) (fun _ i _=>xs.length - (intOf i).toNat)
 case atStart=>exact⟨0,none,0,0,dJ,rfl,rfl,rfl,af.nil _ _,aj⟩
 case round=>
  obtain⟨k,B,n,e,hkk,rfl,hn,rfl,of,hB⟩:=hrel;have HN:=ax hn
  have hnl:n<=k:=by
   rw[hn];exact Nat.le_trans (nM _ _) (by simp;omega)
  clear hn;by_cases hlt:k<xs.length
  ·obtain⟨b,off,rfl,hbl⟩:=h.blt hlt;obtain⟨g0,g1,g2⟩:=(h.bz hB).cl hlt;have HT:=ax (uX xs c k hlt);have hxk:=hx _ (getElem_mem hlt);obtain⟨x,hxe⟩:∃x,x=xs[k]:=⟨_,rfl⟩;have HX:=ax hxe;rw[<-hxe] at g0 g1 g2 HT hxk;clear hxe;have kg:ae wr g lq (encI c).toArray:=hk.bz hB hgl;have hgr:=kg.lt;(go_wp2_with fail);refine(qK x c g _ (kg.alloc _) hc hxk.1 hxk.2).mono ?_;rintro e w1 ⟨rfl,hB1⟩;have hBx:Below w.heap.size w w1:=aP (w:=w) aj hB1;have TV:∀g',(Value.slice B n e).ownBlock=some g'->g'<wr.heap.size:=fun g' e'=>(of.1.lt g' e').2;have kx:=(ae.new wr tA #[.int .i64 x.kind,.int .i64 x.a,.int .i64 x.b]).nz hB1;replace of:=(of.bz (w':=wr.alloc (.cells #[.int .i64 x.kind,.int .i64 x.a,.int .i64 x.b] tA)) aj).bz hB1;replace kg:=(kg.alloc (.cells #[.int .i64 x.kind,.int .i64 x.a,.int .i64 x.b] tA)).nz hB1;have hw1:=hB1.size;simp only[World.size_alloc] at hw1;have hwz:=hB.size;clear hB1 g0 g1 g2;cases hf:x.fill c
   ·have HS:=ax (show aW (xs.take (k+1)) c=aW (xs.take k) c by rw[HT.o,hf];simp);clear hf;(go_wp2_with fail)
    go_round
    case rel=>exact⟨k+1,B,n,e,by omega,by go_num,by rw[HS.o];exact HN.o,rfl,by rw[HS.o];exact of,hBx⟩
    case measure=>simp[intOf];omega
   ·have HS:=ax (show aW (xs.take (k+1)) c=aW (xs.take k) c++[x.cls c] by rw[HT.o,hf];simp);clear hf;obtain⟨q,xa,xb⟩:=x;dsimp only at hxk kx;obtain⟨⟨a1,a2⟩,⟨b1,b2⟩⟩:=hxk;obtain⟨xa,rfl⟩:=Int.eq_ofNat_of_zero_le a1;obtain⟨xb,rfl⟩:=Int.eq_ofNat_of_zero_le b1;have UW:(xa:Int)<9:=by omega
    have Xj:(xb:Int)<9:=by omega
    have q1:∀w':World,(∀i,w'.cell? ⟨g,i,none⟩=(encI c).toArray[i]?)->w'.cell? ⟨g,xa,none⟩=some (.int .i64 (cl c xa)):=by
     intro w' hw';rw[hw'];simp[cl,List.getElem?_eq_getElem (show xa<c.length by omega)]
    have q2:∀w':World,(∀i,w'.cell? ⟨g,i,none⟩=(encI c).toArray[i]?)->w'.cell? ⟨g,xb,none⟩=some (.int .i64 (cl c xb)):=by
     intro w' hw';rw[hw'];simp[cl,List.getElem?_eq_getElem (show xb<c.length by omega)]
    have c1:=q1 _ kg.cell;have c2:=q2 _ kg.cell;have hnn:n+1<=1049600:=by omega
    clear a1 a2 b1 b2;go_wp2;refine lS (S:=(fun w'=>w'.cell? ⟨g,xa,none⟩=some (.int .i64 (cl c xa))/\w'.cell? ⟨g,xb,none⟩=some (.int .i64 (cl c xb))/\(∀i,w'.cell? ⟨wr.heap.size,i,none⟩=#[.int .i64 q,.int .i64 xa,.int .i64 xb][i]?))) (⟨c1,c2,ae.cell az⟩) fun aH=>?_;refine jQ 0 1 2 3 4 ?_;refine jQ 5 6 7 8 9 ?_;refine jQ 10 11 12 13 14 ?_;refine jh 15 ?_;refine aX 16 rfl fun K hK=>?_;(try simp only[zz]);go_simp;refine hK.out _ _ (⟨q1 _ (ae.cell az),q2 _ (ae.cell az),ae.cell az⟩) ?_;clear aH hK K;intro aH;(try simp only[zz]);refine aX 17 rfl fun K hK=>?_;skip;(refine lW (base:=w.heap.size) (xs:=aW (xs.take k) c) rfl _ _ rfl rfl (af.bz (w:=w1) of aj) rfl (aB.qV az) (by simp only[length_cons,length_nil];rw[<-HN.o];omega) (by simp;omega) ?_;intro A' c' w2 lQ hg2 hB3;have z2:=ae.zm (g:=g) (hg:=hg2) az (af.bz (w:=w1) of aj).1 (by decide);have zf:ae w2 wr.heap.size tA #[.int .i64 q,.int .i64 xa,.int .i64 xb]:=ae.grown az hg2 (fun e=>absurd (TV _ e.symm) (Nat.lt_irrefl _)));refine hK.out _ _ (⟨q1 _ z2.cell,q2 _ z2.cell,zf.cell⟩) ?_;clear aH hK K;intro aH;refine jh 18 ?_;refine jP ?_;have hBw2:Below w.heap.size w w2:=Below.trans aj (hB3.mono (by omega));(go_wp2_with fail)
    go_round
    case rel=>exact⟨k+1,A',_,c',by omega,by go_num,rfl,by rw[HS.o];simp,by rw[HS.o];exact lQ,hBw2⟩
    case measure=>simp[intOf];omega
  ·obtain rfl:k=xs.length:=by omega
   go_wp2;go_ret;refine⟨_,rfl,?_,hB⟩;rw[take_length] at of;exact of
theorem H7(c:List Int)(last:Int)(fs:List aF)(k:Nat)(hk:k<fs.length):gQ c last (fs.drop k)=(!(decide (fs[k].a<=last)&&decide (fs[k].b<=last) && !fs[k].fits c)&&gQ c last (fs.drop (k+1))):=by
 unfold gQ;rw[jm _ fs k hk]
theorem H8(c:List Int)(last:Int)(seen:List Int)(xs:List aL)(k:Nat)(hk:k<xs.length):gq c last seen (xs.drop k)=if bI c last xs[k] then !decide (cl c xs[k].a=0) && !decide (cl c xs[k].a∈seen)&&gq c last (seen++[cl c xs[k].a]) (xs.drop (k+1)) else gq c last seen (xs.drop (k+1)):=by
 rw[drop_eq_getElem_cons hk];rfl
theorem Ce(l:List Int)(t:Int):aO (l++[t])=aQ (aO l) t:=by unfold aO;simp[List.foldl_append]
theorem xP{lo hi:Nat}(v:Value)(a:au)(last:Int)(c:List Int)(g:Nat)(w:World)(h:aM w lo hi v a)(hk:ae w g lq (encI c).toArray)(hc:c.length=9)(hf:gz a.facts)(hx:dM a.atoms)
  (hcl:∀x∈a.atoms,x.a<=last->jq (cl c x.a)=true) :
  Calls Tryz.prog 163 #[.pointer (some ⟨g,0,none⟩),v,.int .i64 last] w fun e w'=>e=.returned (.bool (jW a c last))/\Below w.heap.size w w':=by
 obtain⟨A1,c1,A2,c2,rfl,h1,h2⟩:=h;have hl1:=h1.le;have hl2:=h2.le;have hgl:=hk.lt;have HP:aJ (jW a c last=(gQ c last a.facts&&gq c last [] a.atoms)):=rfl;have hFO:=ax hf;have hXO:=ax hx;have hCL:=ax hcl;clear hf hx hcl;(go_enter Tryz.func163,Tryz.ntmps163);(go_wp2_with fail)
 go_loopw [15] (fun i wr=>∃k:Nat,k<=a.facts.length/\i=.int .i64 k/\aJ (gQ c last a.facts=gQ c last (a.facts.drop k))/\ae wr w.heap.size 26 #[.slice A1 a.facts.length c1,.slice A2 a.atoms.length c2]/\Below w.heap.size w wr) (fun i _=>a.facts.length - (intOf i).toNat)
 case atStart=>exact⟨0,dJ,rfl,rfl,az,aj⟩
 case round=>
  obtain⟨k,hkk,rfl,HA,kA,hB⟩:=hrel;have qA:=kA.cell;have lA:=kA.lt;by_cases hlt:k<a.facts.length
  ·obtain⟨b,off,rfl,hbl⟩:=h1.blt hlt;obtain⟨g0,g1,g2⟩:=(h1.bz hB).cl hlt;have HD:=ax (H7 c last a.facts k hlt);have MB:=hFO.o _ (getElem_mem hlt);obtain⟨f,hfe⟩:∃f,f=a.facts[k]:=⟨_,rfl⟩;rw[<-hfe] at g0 g1 g2 HD MB;clear hfe;have kg:ae wr g lq (encI c).toArray:=hk.bz hB hgl;have hgr:=kg.lt;by_cases e1:f.a<=last
   ·by_cases e2:f.b<=last
    ·(go_wp2_with fail);refine(kQ f c g _ (kg.alloc _) hc MB.1 MB.2).mono ?_;rintro e w1 ⟨rfl,hB1⟩;have hBx:Below w.heap.size w w1:=aP (w:=w) aj hB1;replace kA:=(kA.alloc (.cells #[.bool f.eq,.int .i64 f.a,.int .i64 f.b] tF)).nz hB1;cases xu:f.fits c
     ·have HZ:=ax (show gQ c last a.facts=false by rw[HA.o,HD.o,xu,decide_eq_true e1,decide_eq_true e2];rfl);clear xu hB1 e1 e2;go_wp2;go_ret;exact⟨dz (by rw[HP.o,HZ.o];rfl),hBx⟩
     ·have HZ:=ax (show gQ c last (a.facts.drop k)=gQ c last (a.facts.drop (k+1)) by rw[HD.o,xu];simp);clear xu hB1 e1 e2;(go_wp2_with fail)
      go_round
      case rel=>exact⟨k+1,by omega,by go_num,by show _=_;rw[HA.o,HZ.o],kA,hBx⟩
      case measure=>simp[intOf];omega
    ·have HZ:=ax (show gQ c last (a.facts.drop k)=gQ c last (a.facts.drop (k+1)) by rw[HD.o,decide_eq_false e2];simp);(go_wp2_with fail)
     go_round
     case rel=>exact⟨k+1,by omega,by go_num,by show _=_;rw[HA.o,HZ.o],az,aj⟩
     case measure=>simp[intOf];omega
   ·have HZ:=ax (show gQ c last (a.facts.drop k)=gQ c last (a.facts.drop (k+1)) by rw[HD.o,decide_eq_false e1];simp);(go_wp2_with fail)
    go_round
    case rel=>exact⟨k+1,by omega,by go_num,by show _=_;rw[HA.o,HZ.o],az,aj⟩
    case measure=>simp[intOf];omega
  ·obtain rfl:k=a.facts.length:=by omega
   have HF:=ax (show jW a c last=gq c last [] a.atoms by rw[HP.o,HA.o,drop_length];rfl);clear HA HP;(go_wp2_with fail)
   go_loopw [9,39] (fun S i wr=>∃(k:Nat) (seen:List Int),k<=a.atoms.length/\i=.int .i64 k/\S=.int .u16 (aO seen:Nat)/\aJ (jW a c last=gq c last seen (a.atoms.drop k))/\Below w.heap.size w wr) (fun _ i _=>a.atoms.length - (intOf i).toNat)
   case atStart=>exact⟨0,[],dJ,rfl,by unfold aO;rfl,HF.o,hB⟩
   case round=>
    clear hB kA qA lA;obtain⟨k,seen,hkk,rfl,rfl,HA,hB⟩:=hrel;have hT:=dI seen;by_cases hlt:k<a.atoms.length
    ·obtain⟨b,off,rfl,hbl⟩:=h2.blt hlt;obtain⟨g0,g1,g2⟩:=(h2.bz hB).cl hlt;have HD:=ax (H8 c last seen a.atoms k hlt);have hxk:=hXO.o _ (getElem_mem hlt);have hcx:=hCL.o _ (getElem_mem hlt);obtain⟨x,hxe⟩:∃x,x=a.atoms[k]:=⟨_,rfl⟩;rw[<-hxe] at g0 g1 g2 HD hxk hcx;clear hxe;have kg:ae wr g lq (encI c).toArray:=hk.bz hB hgl;have hgr:=kg.lt;have hno:x.a<=last->x.b<=last->x.fill c=true->bI c last x=true:=fun h1 h2 h3=>by simp[bI,h1,h2,h3]
     by_cases e1:x.a<=last
     ·by_cases e2:x.b<=last
      ·have hct:=hcx e1;(go_wp2_with fail);refine(qK x c g _ (kg.alloc _) hc hxk.1 hxk.2).mono ?_;rintro e w1 ⟨rfl,hB1⟩;have hBx:Below w.heap.size w w1:=aP (w:=w) aj hB1;have kx:=(ae.new wr tA #[.int .i64 x.kind,.int .i64 x.a,.int .i64 x.b]).nz hB1;replace kg:=(kg.alloc (.cells #[.int .i64 x.kind,.int .i64 x.a,.int .i64 x.b] tA)).nz hB1;cases xu:x.fill c
       ·have HZ:=ax (show gq c last seen (a.atoms.drop k)=gq c last seen (a.atoms.drop (k+1)) by rw[HD.o,bI,xu];simp);clear xu hB1;(go_wp2_with fail)
        go_round
        case rel=>exact⟨k+1,seen,by omega,by go_num,rfl,by show _=_;rw[HA.o,HZ.o],hBx⟩
        case measure=>simp[intOf];omega
       ·have HI:=ax (hno e1 e2 xu);clear xu hB1 hno hcx;obtain⟨vv,hvv⟩:∃vv,vv=cl c x.a:=⟨_,rfl⟩;have Yn:=ax hvv;rw[<-hvv] at hct
        have hbt:(aO seen).testBit vv.toNat=decide (vv∈seen):=by
         have:=qU.1 hct;rw[iL,decide_eq_decide];rw[Int.toNat_of_nonneg this.1];exact⟨fun h=>h.2,fun h=>⟨hct,h⟩⟩
        obtain⟨q,xa,xb⟩:=x;dsimp only at hxk kx e1 e2 hvv g0 g1 g2;obtain⟨⟨a1,a2⟩,⟨b1,b2⟩⟩:=hxk;obtain⟨xa,rfl⟩:=Int.eq_ofNat_of_zero_le a1;obtain⟨xb,rfl⟩:=Int.eq_ofNat_of_zero_le b1;have Yo:xa<9:=by omega
        have hxal:(xa:Int)<9:=by omega
        have cc:=jL kg (m:=xa) (by rw[hc];exact Yo);rw[<-hvv] at cc;have Yp:=kx.cell;clear hvv a1 a2 b1 b2;by_cases hz:vv=0
        ·have HZ:=ax (show jW a c last=false by rw[HA.o,HD.o,if_pos HI.o,<-Yn.o,hz];simp);subst hz;go_wp2;refine lS (S:=(fun w'=>w'.cell? ⟨g,xa,none⟩=some (.int .i64 0)/\(∀i,w'.cell? ⟨wr.heap.size,i,none⟩=#[.int .i64 q,.int .i64 xa,.int .i64 xb][i]?))) (⟨cc,Yp⟩) fun aH=>?_;refine jQ 0 1 2 3 4 ?_;refine yU 5 6 7 ?_;refine yC 8 rfl aH ?_;(try simp only[zz]);refine yC 9 rfl aH ?_;(try simp only[zz]);refine yC 10 rfl aH ?_;(try simp only[zz]);refine yC 11 rfl aH ?_;(try simp only[zz]);refine yC 12 rfl aH ?_;(try simp only[zz]);refine yC 13 rfl aH ?_;(try simp only[zz]);refine yC 14 rfl aH ?_;(try simp only[zz]);refine yC 15 rfl aH ?_;refine jh 16 ?_;refine jP ?_;go_wp2;go_ret;exact⟨dz HZ.o.symm,aj⟩
        ·have hzb:(vv == 0)=false:=by simpa using hz
         have Yq:=ax hz;clear hz;(go_wp2_with fail);(go_quiet ((go_at_call 59;exact Calls.quiet_of_same ((fK _ _ _ hT).mono fun _ _ ⟨a,b⟩=>⟨a,b.symm⟩))));have cc2:(w1.drewN nq).cell? ⟨g,xa,none⟩=some (.int .i64 vv):=cc;have Yr:∀i,(w1.drewN nq).cell? ⟨wr.heap.size,i,none⟩=#[.int .i64 q,.int .i64 xa,.int .i64 xb][i]?:=Yp;have hBx2:=below_drewN hBx nq;rw[hct,hbt];clear cc Yp kx kg hBx;generalize w1.drewN nq=w2 at cc2 Yr hBx2⊢;by_cases hse:vv∈seen
         ·have HZ:=ax (show jW a c last=false by rw[HA.o,HD.o,if_pos HI.o,<-Yn.o,decide_eq_true hse];simp);go_wp2;go_ret;exact⟨dz HZ.o.symm,aj⟩
         ·have HZ:=ax (show jW a c last=gq c last (seen++[vv]) (a.atoms.drop (k+1)) by rw[HA.o,HD.o,if_pos HI.o,<-Yn.o,decide_eq_false hse,decide_eq_false Yq.o];simp);(go_wp2_with fail);(go_quiet ((go_at_call 45;exact Calls.quiet_of_same ((aY _ _ _ hT).mono fun _ _ ⟨a,b⟩=>⟨a,b.symm⟩))));(go_wp2_with fail)
          go_round
          case rel=>exact⟨k+1,seen++[vv],by omega,by go_num,by rw[Ce],HZ.o,aj⟩
          case measure=>simp[intOf];omega
      ·have HZ:=ax (show gq c last seen (a.atoms.drop k)=gq c last seen (a.atoms.drop (k+1)) by rw[HD.o,bI,decide_eq_false e2];simp);(go_wp2_with fail)
       go_round
       case rel=>exact⟨k+1,seen,by omega,by go_num,rfl,by show _=_;rw[HA.o,HZ.o],aj⟩
       case measure=>simp[intOf];omega
     ·have HZ:=ax (show gq c last seen (a.atoms.drop k)=gq c last seen (a.atoms.drop (k+1)) by rw[HD.o,bI,decide_eq_false e1];simp);(go_wp2_with fail)
      go_round
      case rel=>exact⟨k+1,seen,by omega,by go_num,rfl,by show _=_;rw[HA.o,HZ.o],aj⟩
      case measure=>simp[intOf];omega
    ·obtain rfl:k=a.atoms.length:=by omega
     go_wp2;go_ret;exact⟨dz (by rw[HA.o,drop_length];rfl),hB⟩
theorem sN{w : World}{lo hi b o : Nat}{c : List Int}(h : bG w lo hi (some ⟨b, o, none⟩) c){m : Nat}(hm : m < c.length) : w.cell? ⟨b, o + m, none⟩ = some (.int .i64 (cl c m)) := by
  rw [h.cl hm]; simp [cl, List.getElem?_eq_getElem hm]

--@ spec.Yt
theorem H9(c : List Int)(fs : List aF)(k : Nat)(hk : k < fs.length) : gF c (fs.drop k) = (!(decide (0 <= cl c fs[k].a) && decide (0 <= cl c fs[k].b) && !fs[k].fits c) && gF c (fs.drop (k + 1))) := by
  unfold gF; rw [jm _ fs k hk]
theorem BF{lo hi bJ hi' : Nat}(A B : Option Addr)(c0 c1 : Nat)(fs : List aF)(c : List Int)(w : World)(h : aG w lo hi A fs)(h' : bG w bJ hi' B c)(hc : c.length = 9)(hf : gz fs) :
    Calls Tryz.prog 154 #[.slice A fs.length c0, .slice B c.length c1] w fun e w' => e = .returned (.bool (gF c fs)) /\ w = w' := by
  have hl := h.le;obtain⟨pb, ob, rfl, TW⟩ := h'.blt (k := 0) (by omega);have HC := ax hc;have HF := ax hf;have H' := ax h';clear hf h';rw [hc];clear hc;(go_enter Tryz.func154, Tryz.ntmps154);(go_wp2_with fail)
  go_loop [5] (fun i => ∃k : Nat, k <= fs.length /\ i = .int .i64 k /\ aJ (gF c fs = gF c (fs.drop k))) (fun i => fs.length - (intOf i).toNat)
  case atStart => exact⟨0, dJ, rfl, rfl⟩
  case round =>
    obtain⟨k, hk, rfl, HA⟩ := hrel;by_cases hlt : k < fs.length
    · obtain⟨b, off, rfl, hbl⟩ := h.blt hlt
      obtain⟨g0, g1, g2⟩ := h.cl hlt;have HD := ax (H9 c fs k hlt);have MB := HF.o _ (getElem_mem hlt);obtain⟨f, hfe⟩ : ∃f, f = fs[k] := ⟨_, rfl⟩;rw [<- hfe] at g0 g1 g2 HD MB;clear hfe;obtain⟨q, fa, fb⟩ := f;dsimp only at g0 g1 g2 MB;obtain⟨⟨a1, a2⟩, ⟨b1, b2⟩⟩ := MB;obtain⟨fa, rfl⟩ := Int.eq_ofNat_of_zero_le a1;obtain⟨fb, rfl⟩ := Int.eq_ofNat_of_zero_le b1;have UW : (fa : Int) < 9 := by omega
      have Xj : (fb : Int) < 9 := by omega
      have e1 := sN H'.o (m := fa) (by rw [HC.o]; omega);have e2 := sN H'.o (m := fb) (by rw [HC.o]; omega)
      have HQ : aJ (∀u v : Int, u = cl c fa -> v = cl c fb -> gF c fs = (!(decide (0 <= u) && decide (0 <= v) && !((u == v) == q)) && gF c (fs.drop (k + 1)))) := by
        intro u v hu hv;rw [HA.o, HD.o, hu, hv]; rfl
      obtain⟨u, hu⟩ : ∃u, u = cl c fa := ⟨_, rfl⟩;obtain⟨v, hv⟩ : ∃v, v = cl c fb := ⟨_, rfl⟩;have HR := ax (HQ.o u v hu hv);rw [<- hu] at e1;rw [<- hv] at e2;clear hu hv HQ a1 a2 b1 b2;by_cases hu0 : 0 <= u
      · by_cases hv0 : 0 <= v
        · have Yu : aJ (∀t : Bool, (u == v) = t -> gF c fs = (!(!(t == q)) && gF c (fs.drop (k + 1)))) := by
            intro t ht;rw [HR.o, ht, decide_eq_true hu0, decide_eq_true hv0]; rfl
          cases huv : (u == v)
          case' false => have HZ := ax (Yu.o false huv)
          case' true => have HZ := ax (Yu.o true huv)
          all_goals
            cases q
            all_goals
              clear Yu HR;(go_wp2_with fail)
              first
                | (go_ret
                   exact⟨dz HZ.o.symm, rfl⟩)
                | (go_round
                   case rel => exact⟨k + 1, by omega, by go_num, HZ.o⟩
                   case measure => simp [intOf]; omega)
        · have HZ : aJ (gF c fs = gF c (fs.drop (k + 1))) := by show _ = _; rw [HR.o, decide_eq_false hv0]; simp
          go_wp2_with fail
          go_round
          case rel => exact⟨k + 1, by omega, by go_num, HZ⟩
          case measure => simp [intOf]; omega
      · have HZ : aJ (gF c fs = gF c (fs.drop (k + 1))) := by show _ = _; rw [HR.o, decide_eq_false hu0]; simp
        go_wp2_with fail
        go_round
        case rel => exact⟨k + 1, by omega, by go_num, HZ⟩
        case measure => simp [intOf]; omega
    · obtain rfl : k = fs.length := by omega
      go_wp2;go_ret;exact⟨dz (by rw [HA.o, drop_length]; rfl), rfl⟩

--@ spec.Xk
theorem EO(c : List Int)(seen : List Int)(xs : List aL)(k : Nat)(hk : k < xs.length) : bU c seen (xs.drop k) = if decide (xs[k].kind = 1) && decide (0 <= cl c xs[k].a) then !decide (cl c xs[k].a = 0) && !decide (cl c xs[k].a ∈ seen) && bU c (seen ++ [cl c xs[k].a]) (xs.drop (k + 1)) else bU c seen (xs.drop (k + 1)) := by
  rw [drop_eq_getElem_cons hk]; rfl
theorem zJ{lo hi bJ hi' : Nat}(A B : Option Addr)(c0 c1 : Nat)(xs : List aL)(c : List Int)(w : World)(h : aB w lo hi A xs)(h' : bG w bJ hi' B c)(hc : c.length = 9)(hx : dM xs)(hcl : ∀x ∈ xs, cl c x.a <= 8) :
    Calls Tryz.prog 155 #[.slice A xs.length c0, .slice B c.length c1] w fun e w' => e = .returned (.bool (bU c [] xs)) /\ Below w.heap.size w w' := by
  have hl := h.le;obtain⟨pb, ob, rfl, TW⟩ := h'.blt (k := 0) (by omega);have HC := ax hc;have HX := ax hx;have KM := ax hcl;have H' := ax h';have hmk := Pp;clear hx h' hcl;rw [hc];clear hc;(go_enter Tryz.func155, Tryz.ntmps155);(go_wp2_with fail);clear hmk
  go_loopw [6] (fun i wr => ∃(k : Nat) (seen : List Int), k <= xs.length /\ i = .int .i64 k /\ aJ (bU c [] xs = bU c seen (xs.drop k)) /\ ae wr w.heap.size tB (dN (zj (aO seen))).toArray /\ Below w.heap.size w wr) (fun i _ => xs.length - (intOf i).toNat)
  case atStart => exact⟨0, [], dJ, rfl, rfl, by rw [show aO [] = 0 from by unfold aO; rfl]; exact az, aj⟩
  case round =>
    obtain⟨k, seen, hk, rfl, HA, k0, hB⟩ := hrel;by_cases hlt : k < xs.length
    · obtain⟨b, off, rfl, hbl⟩ := h.blt hlt
      obtain⟨g0, g1, g2⟩ := (h.bz hB).cl hlt;have HD := ax (EO c seen xs k hlt);have hxk := HX.o _ (getElem_mem hlt);have hck := KM.o _ (getElem_mem hlt);obtain⟨x, hxe⟩ : ∃x, x = xs[k] := ⟨_, rfl⟩;rw [<- hxe] at g0 g1 g2 HD hxk hck;clear hxe;obtain⟨q, xa, xb⟩ := x;dsimp only at g0 g1 g2 hxk hck;obtain⟨⟨a1, a2⟩, -⟩ := hxk;obtain⟨xa, rfl⟩ := Int.eq_ofNat_of_zero_le a1;have UW : (xa : Int) < 9 := by omega
      have e1 := sN (H'.o.bz hB) (m := xa) (by rw [HC.o]; omega);have HR : aJ (bU c [] xs = if decide (q = 1) && decide (0 <= cl c xa) then !decide (cl c xa = 0) && !decide (cl c xa ∈ seen) && bU c (seen ++ [cl c xa]) (xs.drop (k + 1)) else bU c seen (xs.drop (k + 1))) := by show _ = _; rw [HA.o, HD.o]
      obtain⟨u, hu⟩ : ∃u, u = cl c xa := ⟨_, rfl⟩;rw [<- hu] at e1 HR hck;clear hu a1 a2 HD HA;cases hq : (q != 1)
      · have hq1 : q = 1 := by simpa using hq
        by_cases hu0 : 0 <= u
        · have HR2 : aJ (bU c [] xs = (!decide (u = 0) && !decide (u ∈ seen) && bU c (seen ++ [u]) (xs.drop (k + 1)))) := by show _ = _; rw [HR.o, hq1, decide_eq_true hu0]; rfl
          obtain⟨m, rfl⟩ := Int.eq_ofNat_of_zero_le hu0;have m8 : m <= 8 := by omega
          have m8' : (m : Int) < 9 := by omega
          have hst : jq (m : Int) = true := by rw [qU]; omega
          have hbt : (aO seen).testBit m = decide ((m : Int) ∈ seen) := by
            rw [iL, decide_eq_decide]; exact⟨fun h => h.2, fun h => ⟨hst, h⟩⟩
          have q3 : wr.cell? ⟨w.heap.size, m, none⟩ = some (.bool (decide ((m : Int) ∈ seen))) := (k0.cell m).trans ((eu _ _ rfl (by omega)).trans (by rw [hbt]));have r3 := k0.frozen;have l3 := k0.lt;clear hst hbt;by_cases hz : (m : Int) = 0
          · have HZ := ax (show bU c [] xs = false by rw [HR2.o, decide_eq_true hz]; rfl)
            have hzb : ((m : Int) == 0) = true := by simpa using hz
            clear hq1 hz;go_wp2;go_ret;exact⟨dz HZ.o.symm, hB⟩
          · have hzb : ((m : Int) == 0) = false := by simpa using hz
            by_cases hs : (m : Int) ∈ seen
            · have HZ := ax (show bU c [] xs = false by rw [HR2.o, decide_eq_true hs]; simp)
              rw [decide_eq_true hs] at q3;clear hq1 hz hs;go_wp2;go_ret;exact⟨dz HZ.o.symm, hB⟩
            · have HZ := ax (show bU c [] xs = bU c (seen ++ [(m : Int)]) (xs.drop (k + 1)) by rw [HR2.o, decide_eq_false hs, decide_eq_false hz]; simp)
              rw [decide_eq_false hs] at q3;clear hq1 hz hs;(go_wp2_with fail)
              go_round
              case rel =>
                refine⟨k + 1, seen ++ [(m : Int)], by omega, by go_num, HZ, ?_, aj⟩;rw [Ce, <- fE _ _ m8];exact k0.ag _ _
              case measure => simp [intOf]; omega
        · have HZ := ax (show bU c [] xs = bU c seen (xs.drop (k + 1)) by rw [HR.o, decide_eq_false hu0]; simp)
          clear hq1;(go_wp2_with fail)
          go_round
          case rel => exact⟨k + 1, seen, by omega, by go_num, HZ, k0, hB⟩
          case measure => simp [intOf]; omega
      · have hq1 : ¬ q = 1 := by simpa using hq
        have HZ := ax (show bU c [] xs = bU c seen (xs.drop (k + 1)) by rw [HR.o, decide_eq_false hq1]; simp);clear hq1;(go_wp2_with fail)
        go_round
        case rel => exact⟨k + 1, seen, by omega, by go_num, HZ, k0, hB⟩
        case measure => simp [intOf]; omega
    · obtain rfl : k = xs.length := by omega
      go_wp2;go_ret;exact⟨dz (by rw [HA.o, drop_length]; rfl), hB⟩

--@ spec.Xl
theorem KN(xs : List aL)(k : Nat)(hk : k < xs.length) : ji ((xs.take k).map aL.a) (xs.drop k) = (!decide (xs[k].a = 0) && !decide (xs[k].a ∈ (xs.take k).map aL.a) && ji ((xs.take (k + 1)).map aL.a) (xs.drop (k + 1))) := by
  rw [drop_eq_getElem_cons hk, List.take_succ_eq_append_getElem hk, map_append]; rfl
theorem zL{lo hi : Nat}(A : Option Addr)(c0 : Nat)(xs : List aL)(w : World)(h : aB w lo hi A xs) :
    Calls Tryz.prog 156 #[.slice A xs.length c0] w fun e w' => e = .returned (.bool (ji [] xs)) /\ Below w.heap.size w w' := by
  have hl := h.le;(go_enter Tryz.func156, Tryz.ntmps156);(go_wp2_with fail)
  go_loopw [3] (fun i wr => ∃k : Nat, k <= xs.length /\ i = .int .i64 k /\ aJ (ji [] xs = ji ((xs.take k).map aL.a) (xs.drop k)) /\ Below w.heap.size w wr) (fun i _ => xs.length - (intOf i).toNat)
  case atStart => exact⟨0, dJ, rfl, rfl, aj⟩
  case round =>
    obtain⟨k, hk, rfl, HA, hB⟩ := hrel;by_cases hlt : k < xs.length
    · obtain⟨b, off, rfl, hbl⟩ := h.blt hlt
      obtain⟨g0, g1, g2⟩ := (h.bz hB).cl hlt;have HD := ax (KN xs k hlt);by_cases hz : xs[k].a = 0
      · have HZ := ax (show ji [] xs = false by rw [HA.o, HD.o, decide_eq_true hz]; rfl)
        have hzb : (xs[k].a == 0) = true := by simpa using hz
        clear hz;go_wp2;go_ret;exact⟨dz HZ.o.symm, hB⟩
      · have hzb : (xs[k].a == 0) = false := by simpa using hz
        have Yq := ax hz;clear hz;(go_wp2_with fail)
        go_loopw [4] (fun i wr => ∃j : Nat, j <= k /\ i = .int .i64 j /\ aJ (∀n, n < j -> ∀hn : n < xs.length, xs[n].a ≠ xs[k].a) /\ Below w.heap.size w wr) (fun i _ => k - (intOf i).toNat)
        case atStart => exact⟨0, dJ, rfl, fun n hn => absurd hn (by omega), hB⟩
        case round =>
          clear hB g0 g1 g2;obtain⟨j, hj, rfl, HJ, hB⟩ := hrel;by_cases hjl : j < k
          · have hjx : j < xs.length := by omega
            obtain⟨g0, g1, g2⟩ := (h.bz hB).cl hlt;obtain⟨e0, e1, e2⟩ := (h.bz hB).cl hjx;cases he : (xs[j].a == xs[k].a)
            all_goals
              have hjx2 : (j : Int) < (xs.length : Int) := by omega
              have hkx2 : (k : Int) < (xs.length : Int) := by omega
              (go_wp2_with fail);(go_quiet (fail));have aN := below_drewN hB nq;generalize wr.drewN nq = w2 at aN⊢;(go_wp2_with fail)
            · go_round
              case rel =>
                refine⟨j + 1, by omega, by go_num, fun n hn hx => ?_, aN⟩;by_cases e : n = j
                · subst e; simpa using he
                · exact HJ.o n (by omega) hx
              case measure => simp [intOf]; omega
            · go_ret
              refine⟨dz ?_, aN⟩;have hm : xs[k].a ∈ (xs.take k).map aL.a := List.mem_map.2 ⟨xs[j], by rw [List.mem_take_iff_getElem]; exact⟨j, by omega, rfl⟩, by simpa using he⟩;rw [HA.o, HD.o, decide_eq_true hm]; simp
          · obtain rfl : j = k := by omega
            have hm : xs[j].a ∉ (xs.take j).map aL.a := fun hm => by
              obtain⟨y, hy, ey⟩ := List.mem_map.1 hm;rw [List.mem_take_iff_getElem] at hy;obtain⟨n, hn, en⟩ := hy;have hn' : n < j := by omega
              exact HJ.o n hn' (by omega) (by rw [en]; exact ey)
            have HZ := ax (show ji [] xs = ji ((xs.take (j + 1)).map aL.a) (xs.drop (j + 1)) by rw [HA.o, HD.o, decide_eq_false hm, decide_eq_false Yq.o]; simp);clear hm;(go_wp2_with fail)
            go_round
            case rel => exact⟨j + 1, by omega, by go_num, HZ, hB⟩
            case measure => simp [intOf]; omega
    · obtain rfl : k = xs.length := by omega
      go_wp2;go_ret;exact⟨dz (by rw [HA.o, drop_length]; rfl), hB⟩
theorem xQ{lo hi bJ hi':Nat}(A B:Option Addr)(c0 c1:Nat)(xs:List aL)(c:List Int)(w:World)(h:aB w lo hi A xs)(h':bG w bJ hi' B c)(hc:c.length=9)(hx:dM xs) :
  Calls Tryz.prog 157 #[.slice A xs.length c0,.slice B c.length c1] w fun e w'=>∃r,e=.returned r/\af w' w.heap.size r (aW xs c)/\Below w.heap.size w w':=by
 have hl:=h.le;obtain⟨pb,ob,rfl,TW⟩:=h'.blt (k:=0) (by omega);have HC:=ax hc;have HX:=ax hx;have H':=ax h';clear hx h';rw[hc];clear hc;(go_enter Tryz.func157,Tryz.ntmps157);(go_wp2_with fail)
 go_loopw [5,6] (fun r i wr=>∃(k:Nat) (D:Option Addr) (n e:Nat),k<=xs.length/\i=.int .i64 k/\n=(aW (xs.take k) c).length/\r=.slice D n e/\af wr w.heap.size (.slice D n e) (aW (xs.take k) c)/\Below w.heap.size w wr) (fun _ i _=>xs.length - (intOf i).toNat)
 case atStart=>exact⟨0,some ⟨w.heap.size,0,none⟩,0,0,dJ,rfl,rfl,rfl,af.empty w,aj⟩
 case round=>
  obtain⟨k,D,n,e,hkk,rfl,hn,rfl,of,hB⟩:=hrel;have HN:=ax hn
  have hnl:n<=k:=by
   rw[hn];exact Nat.le_trans (nM _ _) (by simp;omega)
  clear hn;by_cases hlt:k<xs.length
  ·obtain⟨b,off,rfl,hbl⟩:=h.blt hlt;have HH:=ax h;have HT:=ax (uX xs c k hlt);have hxk:=HX.o _ (getElem_mem hlt);obtain⟨x,hxe⟩:∃x,x=xs[k]:=⟨_,rfl⟩;have KM:aJ (∀w':World,Below w.heap.size w w'->w'.cell? ⟨b,off+k*3,none⟩=some (.int .i64 x.kind)/\w'.cell? ⟨b,off+k*3+1,none⟩=some (.int .i64 x.a)/\w'.cell? ⟨b,off+k*3+2,none⟩=some (.int .i64 x.b)):=fun w' hw'=>by rw[hxe];exact(HH.o.bz hw').cl hlt
   rw[<-hxe] at HT hxk;clear hxe;obtain⟨q,xa,xb⟩:=x;dsimp only at hxk KM;obtain⟨⟨a1,a2⟩,⟨b1,b2⟩⟩:=hxk;obtain⟨xa,rfl⟩:=Int.eq_ofNat_of_zero_le a1;obtain⟨xb,rfl⟩:=Int.eq_ofNat_of_zero_le b1;have UW:(xa:Int)<9:=by omega
   have Xj:(xb:Int)<9:=by omega
   have HCI:aJ (∀w':World,Below w.heap.size w w'->w'.cell? ⟨pb,ob+xa,none⟩=some (.int .i64 (cl c xa))/\w'.cell? ⟨pb,ob+xb,none⟩=some (.int .i64 (cl c xb))):=fun w' hw'=>⟨sN (H'.o.bz hw') (by rw[HC.o];omega),sN (H'.o.bz hw') (by rw[HC.o];omega)⟩;have hwz:=hB.size;have hlx:(k:Int)<(xs.length:Int):=by omega
   clear a1 a2 b1 b2 h;have HS:aJ (∀w':World,Below w.heap.size w w'->(w'.cell? ⟨b,off+k*3,none⟩=some (.int .i64 q)/\w'.cell? ⟨b,off+k*3+1,none⟩=some (.int .i64 xa)/\w'.cell? ⟨b,off+k*3+2,none⟩=some (.int .i64 xb))/\w'.cell? ⟨pb,ob+xa,none⟩=some (.int .i64 (cl c xa))/\w'.cell? ⟨pb,ob+xb,none⟩=some (.int .i64 (cl c xb))):=fun w' hw'=>⟨KM.o w' hw',HCI.o w' hw'⟩;go_wp2;refine lS (S:=(fun w'=>(w'.cell? ⟨b,off+k*3,none⟩=some (.int .i64 q)/\w'.cell? ⟨b,off+k*3+1,none⟩=some (.int .i64 xa)/\w'.cell? ⟨b,off+k*3+2,none⟩=some (.int .i64 xb))/\w'.cell? ⟨pb,ob+xa,none⟩=some (.int .i64 (cl c xa))/\w'.cell? ⟨pb,ob+xb,none⟩=some (.int .i64 (cl c xb)))) (HS.o _ aj) fun aH=>?_;refine jQ 0 1 2 3 4 ?_;refine jQ 5 6 7 8 9 ?_;refine jQ 10 11 12 13 14 ?_;refine jQ 15 16 17 18 19 ?_;refine uM 20 21 ?_;refine aX 22 rfl fun K hK=>?_;(try simp only[zz]);go_simp;refine hK.out _ _ (HS.o _ aj) ?_;clear aH hK K;intro aH;refine aX 23 rfl fun K hK=>?_;(try simp only[zz]);go_simp;refine hK.out _ _ (HS.o _ aj) ?_;clear aH hK K;intro aH;refine jP ?_;clear aH;have kx:ae (wr.alloc (.cells #[.int .i64 q,.int .i64 (cl c xa),.int .i64 (cl c xb)] tA)).drew wr.heap.size tA #[.int .i64 q,.int .i64 (cl c xa),.int .i64 (cl c xb)]:=az;have hB2:Below w.heap.size w (wr.alloc (.cells #[.int .i64 q,.int .i64 (cl c xa),.int .i64 (cl c xb)] tA)).drew:=aj;have lQ:=of.bz (w':=(wr.alloc (.cells #[.int .i64 q,.int .i64 (cl c xa),.int .i64 (cl c xb)] tA)).drew) aj;have hz2:wr.heap.size<(wr.alloc (.cells #[.int .i64 q,.int .i64 (cl c xa),.int .i64 (cl c xb)] tA)).drew.heap.size:=kx.lt;generalize (wr.alloc (.cells #[.int .i64 q,.int .i64 (cl c xa),.int .i64 (cl c xb)] tA)).drew=W2 at kx hB2 lQ hz2⊢
   have HF:aJ (∀s t:Bool,(q == 1)=s->(cl c xa == cl c xb)=t->aW (xs.take (k+1)) c=aW (xs.take k) c++if (s || !t) then [⟨q,cl c xa,cl c xb⟩] else []):=by
    intro s t hs ht;rw[HT.o];have:aL.fill c ⟨q,xa,xb⟩=(s || !t):=by rw[<-hs,<-ht];rfl
    rw[this];rfl
   have qx:=kx.cell;obtain⟨u,hu⟩:∃u,u=cl c xa:=⟨_,rfl⟩;obtain⟨v,hv⟩:∃v,v=cl c xb:=⟨_,rfl⟩;rw[<-hu,<-hv] at kx qx HF⊢;clear hu hv HT HS HCI KM of hB;cases hq:(q == 1)
   ·cases hab:(u == v)
    ·have HZ:aJ (aW (xs.take (k+1)) c=aW (xs.take k) c++[⟨q,u,v⟩]):=HF.o _ _ hq hab;(go_wp2_with (at_builtin;refine qG rfl _ _ rfl (v:=.slice D n e) rfl (lQ.bz (w':=W2.alloc (.cells #[.int .i64 q,.int .i64 u,.int .i64 v] tA)) aj) rfl (aB.qV (ae.dA rfl)) (by simp only[length_cons,length_nil];rw[<-HN.o];omega) (by simp;omega) ?_;intro A' c' w2 Dl hg2 hB3))
     go_round
     case rel=>exact⟨k+1,A',_,c',by omega,by go_num,rfl,by rw[HZ.o];simp,by rw[HZ.o];exact Dl,Below.trans (ai hB2 _) (hB3.mono bn)⟩
     case measure=>simp[intOf];omega
    ·have HZ:aJ (aW (xs.take (k+1)) c=aW (xs.take k) c++[]):=HF.o _ _ hq hab;(go_wp2_with fail)
     go_round
     case rel=>exact⟨k+1,D,n,e,by omega,by go_num,by rw[HZ.o,append_nil];exact HN.o,rfl,by rw[HZ.o,append_nil];exact lQ,hB2⟩
     case measure=>simp[intOf];omega
   ·have HZ:aJ (aW (xs.take (k+1)) c=aW (xs.take k) c++[⟨q,u,v⟩]):=HF.o _ _ hq rfl;(go_wp2_with (at_builtin;refine qG rfl _ _ rfl (v:=.slice D n e) rfl (lQ.bz (w':=W2.alloc (.cells #[.int .i64 q,.int .i64 u,.int .i64 v] tA)) aj) rfl (aB.qV (ae.dA rfl)) (by simp only[length_cons,length_nil];rw[<-HN.o];omega) (by simp;omega) ?_;intro A' c' w2 Dl hg2 hB3))
    go_round
    case rel=>exact⟨k+1,A',_,c',by omega,by go_num,rfl,by rw[HZ.o];simp,by rw[HZ.o];exact Dl,Below.trans (ai hB2 _) (hB3.mono bn)⟩
    case measure=>simp[intOf];omega
  ·obtain rfl:k=xs.length:=by omega
   go_wp2;go_ret;refine⟨_,rfl,?_,hB⟩;rw[take_length] at of;exact of
theorem EP(n:Nat)(h1:1<=n)(h9:n<9):opened.take (n+1)=opened.take n++[-1]:=by
 obtain rfl|rfl|rfl|rfl|rfl|rfl|rfl|rfl:n=1\/n=2\/n=3\/n=4\/n=5\/n=6\/n=7\/n=8:=by omega
 all_goals rfl
theorem lu(w:World) :
  Calls Tryz.prog 144 #[] w fun e w'=>∃r,e=.returned r/\aD w' w.heap.size r opened/\Below w.heap.size w w':=by
 (go_enter Tryz.func144,Tryz.ntmps144);(go_wp2_with fail)
 go_loopw [1] (fun r wr=>∃(n:Nat) (D:Option Addr) (e:Nat),1<=n/\n<=9/\r=.slice D n e/\aD wr w.heap.size (.slice D n e) (opened.take n)/\Below w.heap.size w wr) (fun r _=>match r with | .slice _ n _=>9 - n|_=>0)
 case atStart=>exact⟨1,some ⟨w.heap.size,0,none⟩,1,by omega,by omega,rfl,aD.one w 0 bn,aj⟩
 case round=>
  obtain⟨n,D,e,h1,h9,rfl,o,hB⟩:=hrel;have hwz:=hB.size;by_cases hlt:n<9
  ·have Ym:(n:Int)<=8:=by omega
   have HT:=ax (EP n h1 hlt);have hll:aJ ((opened.take n).length=n):=by show _=_;rw[length_take];show min n 9=n;omega
   have o1:=o.bz (w':=wr.alloc (.cells #[.int .i64 (-1)] tI)) aj;(go_wp2_with (at_builtin;refine Ha rfl _ _ rfl (v:=.slice D n e) rfl o1 wr.heap.size (-1) rfl (jR _ _ _) (by rw[hll.o];omega) (by simp;omega) ?_;intro g cc w2 o2 hg2 hB3;rw[hll.o,<-HT.o] at o2;rw[hll.o]))
   go_round
   case rel=>exact⟨n+1,_,_,by omega,by omega,rfl,o2,Below.trans aj hB3⟩
   case measure=>simp;omega
  ·obtain rfl:n=9:=by omega
   go_wp2;go_ret;exact⟨_,rfl,o,hB⟩
end
section
open Go Go.RowKit
def Ia(T : TypeId)(B : Nat)(W : World)(row : Option Nat) : Prop := ∀r, row = some r -> B <= r /\ ∃o : Obj, W.heap[r]? = some o /\ (o.isCells = false \/ ∃cs, o = .cells cs T (0, 0))
def BG{β : Type}(T : TypeId)(B : Nat)(I : β -> World -> Prop) : Prop := ∀s W W' row, I s W -> W.grownBy W' row -> Ia T B W row -> I s W'
def MC(T : TypeId)(B : Nat)(W : World)(row : Option Nat) : Prop := ∀r, row = some r -> B <= r /\ ∃cs, W.heap[r]? = some (.cells cs T (0, 0))
def Ry{β : Type}(T : TypeId)(B : Nat)(J : β -> World -> Prop) : Prop := ∀s W W' row, J s W -> W.grownBy W' row -> MC T B W row -> J s W'
structure Kept (T1 T2 : TypeId) (n₀ : Nat) (W W' : World) : Prop where
  bz : Below n₀ W W'
  keep : ∀(g : Nat) (t : TypeId) (cs : Array Value), (t = T1 \/ t = T2) -> ae W g t cs -> ae W' g t cs
section
variable{T1 T2 T : TypeId}{n₀ B : Nat}{A W W' W2 : World}
theorem Kept.refl(W : World) : Kept T1 T2 n₀ W W := ⟨Below.refl _ _, fun _ _ _ _ h => h⟩
theorem Kept.trans(h : Kept T1 T2 n₀ A W)(k : Kept T1 T2 n₀ W W') : Kept T1 T2 n₀ A W' := ⟨h.bz.trans k.bz, fun g t cs ht hb => k.keep g t cs ht (h.keep g t cs ht hb)⟩
theorem Kept.nz(h : Below W.heap.size W W')(hn : n₀ <= W.heap.size) : Kept T1 T2 n₀ W W' := ⟨h.mono hn, fun _ _ _ _ hb => hb.nz h⟩
theorem Kept.alloc(hn : n₀ <= W.heap.size)(o : Obj) : Kept T1 T2 n₀ W (W.alloc o) := ⟨(Below.refl _ _).alloc hn _, fun _ _ _ _ hb => hb.alloc o⟩
theorem Kept.set{cs : Array Value}(hk : ae W B T cs)(hn : n₀ <= B)(h1 : T ≠ T1)(h2 : T ≠ T2)(i : Nat)(u : Value) : Kept T1 T2 n₀ W (W.setCell ⟨B, i, none⟩ u) :=
  ⟨(Below.refl _ _).setCell (p := ⟨B, i, none⟩) hn _, fun g t cs ht hb => hb.far (p := ⟨B, i, none⟩) (by
    intro e;have e : g = B := e;subst e;rcases ht with rfl | rfl
    · exact(hb.Bq hk (fun e => h1 e.symm)) rfl
    · exact(hb.Bq hk (fun e => h2 e.symm)) rfl) _⟩
theorem Kept.put{l : Nat}{o : Obj}(o' : Obj)(hn : n₀ <= l)(hl : W.heap[l]? = some o)(ho : o.isCells = false) : Kept T1 T2 n₀ W (W.putObj l o') :=
  ⟨(Below.refl n₀ W).grown (grownBy_putObj' W l o') (by have := (Array.getElem?_eq_some_iff.1 hl).1; omega) (fun k e => by cases e; omega),
   fun g t cs _ hb => (World.putObj_heap_other (fun e => by subst e; unfold ae at hb; rw [hl] at hb; cases hb; cases ho)).trans hb⟩
theorem Kept.app{row : Option Nat}(hg : W.grownBy W' row)(hb : Below n₀ W W')(hr : ∀r, row = some r -> ∃t cs, ae W r t cs /\ t ≠ T1 /\ t ≠ T2) : Kept T1 T2 n₀ W W' :=
  ⟨hb, fun g t cs ht hk => hk.grown hg (fun e => by
    obtain⟨t', cs', hk', g1, g2⟩ := hr g e.symm;unfold ae at hk hk';rw [hk] at hk';injection hk' with hk';injection hk' with _ e2;subst e2;rcases ht with h | h
    · exact g1 h
    · exact g2 h)⟩

theorem BG.put{β : Type}{I : β -> World -> Prop}(h : BG T B I){s : β}{l : Nat}{o : Obj}(o' : Obj)(hs : I s W)(hB : B <= l)(hl : W.heap[l]? = some o)(ho : o.isCells = false) : I s (W.putObj l o') :=
  h s W _ (some l) hs (grownBy_putObj' W l o') (fun r e => by cases e; exact⟨hB, o, hl, Or.inl ho⟩)
theorem BG.alloc{β : Type}{I : β -> World -> Prop}(h : BG T B I){s : β}(o : Obj)(hs : I s W) : I s (W.alloc o) :=
  h s W _ none hs (World.grownBy_alloc W o none) (fun r e => by cases e)
theorem zM{row : Option Nat}(h : Below W.heap.size W W') : W.grownBy W' row := ⟨h.os, h.tape, h.output, h.size, fun k hk _ => h.block k hk⟩
theorem Ry.nz{β : Type}{J : β -> World -> Prop}(h : Ry T B J){s : β}(hs : J s W)(hb : Below W.heap.size W W') : J s W' := h s W W' none hs (zM hb) (fun r e => by cases e)
theorem Ry.set{β : Type}{J : β -> World -> Prop}(h : Ry T B J){s : β}(hs : J s W){g : Nat}{cs : Array Value}(hk : ae W g T cs)(hg : B <= g)(i : Nat)(u : Value) : J s (W.setCell ⟨g, i, none⟩ u) :=
  h s W _ (some g) hs ⟨rfl, rfl, rfl, by simp, fun k hk' hne => Below.heap_setCell W ⟨g, i, none⟩ u k (fun e => hne (by rw [e]))⟩ (fun r e => by cases e; exact⟨hg, cs, hk⟩)

theorem BG.and{β : Type}{I I' : β -> World -> Prop}(h : BG T B I)(h' : BG T B I') : BG T B (fun s W => I s W /\ I' s W) := fun s W W' row hs hg hr => ⟨h s W W' row hs.1 hg hr, h' s W W' row hs.2 hg hr⟩
theorem ae.turn{g : Nat}{t : TypeId}{cs : Array Value}{row : Option Nat}(h : ae W g t cs)(hg : W.grownBy W' row)(hr : Ia T B W row)(ht : t ≠ T \/ g < B) : ae W' g t cs :=
  h.grown hg (fun e => by
    obtain⟨hb, o, ho, hc⟩ := hr g e.symm;unfold ae at h;rw [h] at ho;cases ho;rcases hc with hc | ⟨cs', hc⟩
    · cases hc
    · injection hc with _ e2
      rcases ht with ht | ht
      · exact ht e2
      · omega)
theorem Below.turn{row : Option Nat}(h : Below n₀ A W)(hg : W.grownBy W' row)(hr : Ia T B W row)(hn : n₀ <= B)(hw : n₀ <= W.heap.size) : Below n₀ A W' :=
  h.grown hg hw (fun k e => by have := (hr k e).1; omega)
end

def UX{α : Type}(B : Nat)(Kp : World -> World -> Prop)(I : List α -> World -> Prop)(Ix : Code -> List α -> World -> Prop)(xs : List α)(W : World) : Exit -> Act -> World -> Prop
  | .normal, _, W' => KeepsFrom B W W' /\ Kp W W' /\ I xs W'
  | .ret, _, W' => KeepsFrom B W W' /\ Ix .ret xs W'
  | .exit id, _, W' => KeepsFrom B W W' /\ Ix (.exit id) xs W'
  | .goto t, _, W' => KeepsFrom B W W' /\ Ix (.goto t) xs W'
  | .panic _, _, _ => False
  | .outgrown, _, _ => False
def UY{α : Type}(P : Program)(g : Nat)(lb : Array Value)(encs : α -> Array Value)(T : TypeId)(Kp : World -> World -> Prop)(Xm S Sp : List α -> Prop)(w : World) : Prop :=
  ∀(n l : Nat) (J Jx : List α -> World -> Prop) (W : World), Below w.heap.size w W -> Ry T W.heap.size J -> Ry T W.heap.size Jx ->
    (∀m pre x W1, J pre W1 -> Xm (pre ++ [x]) -> YieldAt Fence.wide m P l (encs x) W1 fun e W' =>
      (e = .returned (.bool true) /\ J (pre ++ [x]) W' /\ Kp W1 W') \/ (e = .returned (.bool false) /\ Jx (pre ++ [x]) W')) ->
    J [] W ->
    CallsIn Fence.wide n P g (#[.func (.yield l) #[] #[]] ++ lb) W fun e W' => (∃v, e = .returned v) /\ ((∃xs, S xs /\ J xs W') \/ (∃pre, Sp pre /\ Jx pre W'))

variable{n : Nat}{P : Program}
theorem wH{α : Type}{g : Operand}{ps : Array Tmp}{assign body : Code}{Q : Exit -> Act -> World -> Prop}{a : Act}{w : World}
    {gf : Nat} {lb : Array Value} (hg : a.eval g = .func (.func gf) #[] lb) (eg : ∀args w, (callFunc gf args).run P w = .ok (.enter gf args) w)
    {encs : α -> Array Value} {T : TypeId} {Kp : World -> World -> Prop} {Xm S Sp : List α -> Prop} {w0 : World} (hseq : UY P gf lb encs T Kp Xm S Sp w0)
    (hKt : ∀ {A B C : World}, Kp A B -> Kp B C -> Kp A C) (hKb : ∀(W : World) (l : Nat) (o o' : Obj), w.heap.size <= l -> W.heap[l]? = some o -> o.isCells = false -> Kp W (W.putObj l o')) (hb0 : Below w0.heap.size w0 w) (hps : ∀x, (encs x).size = ps.size)
    (I : List α -> World -> Prop) (Ix : Code -> List α -> World -> Prop) (hI : BG T w.heap.size I) (hIx : ∀c, BG T w.heap.size (Ix c)) (h0 : I [] w)
    (Rz : ∀(l : Nat) (pre : List α) (x : α) (W : World), w.heap.size <= l -> I pre W -> Xm (pre ++ [x]) ->
      assign.wpIn (Fence.wide.inRound l) (n - 1 - 1) P (Exit.then (fun a1 W1 => KeepsFrom w.heap.size W W1 /\ Kp W W1 /\ ∀(o o' : Obj), W1.heap[l]? = some o -> o.isCells = false ->
        body.wpIn (Fence.wide.inRound l) (n - 1 - 1) P (UX w.heap.size Kp I Ix (pre ++ [x]) (W1.putObj l o')) a1 (W1.putObj l o')) (fun _ _ _ => False)) { tmps := (ps.zip (encs x)).foldl (fun t (p, v) => t.setIfInBounds p v) a.tmps, defers := [] } W)
    (hdone : ∀(D : Nat) (xs : List α) (W : World), w.heap.size <= D -> S xs -> I xs W -> W.heap[D]? = some (.deferred (some [])) -> Q .normal { a with defers := { target := .collected D, args := #[] } :: a.defers } W)
    (hstop : ∀(D : Nat) (c : Code) (pre : List α) (W : World), w.heap.size <= D -> Sp pre -> Ix c pre W -> W.heap[D]? = some (.deferred (some [])) -> c.wpIn Fence.wide n P Q { a with defers := { target := .collected D, args := #[] } :: a.defers } W) :
    (Code.rangeFunc g ps assign body).wpIn Fence.wide n P Q a w := by
  refine wpIn_rangeFunc fun fn hfn => ?_;show ∃(l : Nat) (mark : List Deferred) (w₁ : World) (d : Deferred) (w₁' : World) (f : FuncId) (args : Array Value) (w₂ : World), (Instr.enterLoop fn a.tmps ps assign body none).run P w = .ok (l, mark) w₁ /\ _
  let qW : LoopState -> Option Code -> Loop := fun st pe => { state := st, pending := pe, fn, tmps := a.tmps, params := ps, assign, body, defers := w.heap.size }
  let W1 := (w.alloc (.deferred (some []))).alloc (.loop (qW .ready none))
  have hL1 : W1.heap[w.heap.size + 1]? = some (.loop (qW .ready none)) := by
    have := World.alloc_heap_new (w.alloc (.deferred (some []))) (.loop (qW .ready none)); rwa [World.size_alloc] at this
  have hK1 : W1.heap[w.heap.size]? = some (.deferred (some [])) := (Below.heap_alloc _ _ _ (by simp)).trans (World.alloc_heap_new w _);have hs1 : W1.heap.size = w.heap.size + 1 + 1 := by simp [W1]
  have hcy : ∀ {X Y : World} {row : Option Nat}, MC T W1.heap.size X row -> Ia T w.heap.size X row := fun h r e => by
    obtain⟨h1, cs, h2⟩ := h r e;exact⟨by omega, _, h2, Or.inr ⟨cs, rfl⟩⟩
  have hst : ∀ {X Y : World} {row : Option Nat} {k : Nat} {o : Obj}, X.grownBy Y row -> MC T W1.heap.size X row -> X.heap[k]? = some o -> o.isCells = false -> Y.heap[k]? = some o := fun hg' hr hk ho =>
    (hg'.block _ (Array.getElem?_eq_some_iff.1 hk).1 (fun e => by
      obtain⟨-, cs, h2⟩ := hr _ e.symm
      rw [hk] at h2; cases h2; cases ho)).trans hk
  refine⟨w.heap.size + 1, [{ target := .collected w.heap.size, args := #[] }], W1, { target := .fn (.func gf) lb, args := #[.func (.yield (w.heap.size + 1)) #[] #[]] }, W1, gf,
    #[.func (.yield (w.heap.size + 1)) #[] #[]] ++ lb, W1, run_enterLoop_outer _ _ _ _ _, ?_, fun _ _ => trivial, ?_, fun h => (by cases h), ?_⟩
  · simp only [resolve, hg]
    simp [go_sem]
  · simp [invoke, go_sem, eg]
  · refine(hseq (n - 1) (w.heap.size + 1)
      (fun pre W => I pre W /\ W.heap[w.heap.size + 1]? = some (.loop (qW .ready none)) /\ W.heap[w.heap.size]? = some (.deferred (some [])))
      (fun pre W => ∃c, Ix c pre W /\ W.heap[w.heap.size + 1]? = some (.loop (qW .done (some c))) /\ W.heap[w.heap.size]? = some (.deferred (some [])))
      W1 (hb0.trans ((((Below.refl _ w).alloc (Nat.le_refl _) _).alloc (by simp) _).mono hb0.size))
      (fun s X Y row hs hg' hr => ⟨hI s X Y row hs.1 hg' (hcy (Y := Y) hr), hst hg' hr hs.2.1 rfl, hst hg' hr hs.2.2 rfl⟩)
      (fun s X Y row hs hg' hr => by
        obtain⟨c, hc, hl, hk⟩ := hs
        exact⟨c, hIx c s X Y row hc hg' (hcy (Y := Y) hr), hst hg' hr hl rfl, hst hg' hr hk rfl⟩)
      ?_ ⟨hI.alloc _ (hI.alloc _ h0), hL1, hK1⟩).mono ?_
    · rintro m pre x W ⟨hi, hl, hk⟩ Yv
      have hlt : w.heap.size + 1 < W.heap.size := (Array.getElem?_eq_some_iff.1 hl).1;have hy := run_yield (P := P) (args := encs x) hl (hps x);refine⟨fn, _, assign, body, hy, ?_⟩
      have Yw : ∀ {m m' : Nat} {l : Nat} {f : FuncId} {tmps : Array Value} {assign body : Code} {w : World} {R : Ending -> World -> Prop}, RoundIn Fence.wide m P l f tmps assign body w R -> RoundIn Fence.wide m' P l f tmps assign body w R :=
        fun h => ⟨h.1, fun c cs _ => h.2 c cs (room_wide _)⟩
      refine Yw (m := n - 1 - 1) (roundIn_of_wpIn trivial (wpIn_mono (Rz (w.heap.size + 1) pre x W (by omega) hi Yv) ?_));rintro e a2 W2 hp
      cases e with
      | normal =>
        obtain⟨hkf, hkp, hb⟩ := hp;have hl1 := hkf.same _ _ (by omega) hl rfl;have hk1 := hkf.same _ _ (Nat.le_refl _) hk rfl;refine⟨_, run_beginRound hl1 rfl, ?_⟩;have hlt2 : w.heap.size + 1 < W2.heap.size := (Array.getElem?_eq_some_iff.1 hl1).1;have hl2 : (W2.putObj (w.heap.size + 1) (.loop { qW .ready none with state := .busy })).heap[w.heap.size + 1]? = some (.loop { qW .ready none with state := .busy }) := World.putObj_heap_same hlt2;have hk2 : (W2.putObj (w.heap.size + 1) (.loop { qW .ready none with state := .busy })).heap[w.heap.size]? = some (.deferred (some [])) := (World.putObj_heap_other (by omega)).trans hk1;have hw2 : Kp W2 (W2.putObj (w.heap.size + 1) (.loop { qW .ready none with state := .busy })) := hKb _ _ _ _ (by omega) hl1 rfl;refine wpIn_mono (hb _ (.loop { qW .ready none with state := .busy }) hl1 rfl) ?_
        have fin : ∀(jump : Option Code) (W3 : World), KeepsFrom w.heap.size (W2.putObj (w.heap.size + 1) (.loop { qW .ready none with state := .busy })) W3 ->
            (Instr.endRound (w.heap.size + 1) jump).run P W3 = .ok (.bool jump.isNone) (W3.putObj (w.heap.size + 1) (.loop (qW (if jump.isNone then .ready else .done) jump))) /\
            W3.heap[w.heap.size + 1]? = some (.loop { qW .ready none with state := .busy }) /\
            (W3.putObj (w.heap.size + 1) (.loop (qW (if jump.isNone then .ready else .done) jump))).heap[w.heap.size + 1]? = some (.loop (qW (if jump.isNone then .ready else .done) jump)) /\
            (W3.putObj (w.heap.size + 1) (.loop (qW (if jump.isNone then .ready else .done) jump))).heap[w.heap.size]? = some (.deferred (some [])) := fun jump W3 hk3 => by
          have hl3 := hk3.same _ _ (by omega) hl2 rfl;exact⟨run_endRound (P := P) jump hl3, hl3, World.putObj_heap_same (Array.getElem?_eq_some_iff.1 hl3).1, (World.putObj_heap_other (by omega)).trans (hk3.same _ _ (Nat.le_refl _) hk2 rfl)⟩
        rintro e a3 W3 hp
        cases e with
        | normal =>
          obtain⟨hk3, hkp3, hi3⟩ := hp;obtain⟨hr, hl3, hl4, hk4⟩ := fin none W3 hk3;exact⟨_, _, hr, .inl ⟨rfl, ⟨hI.put _ hi3 (by omega) hl3 rfl, hl4, hk4⟩, hKt (hKt (hKt hkp hw2) hkp3) (hKb _ _ _ _ (by omega) hl3 rfl)⟩⟩
        | ret =>
          obtain⟨hk3, hi3⟩ := hp;obtain⟨hr, hl3, hl4, hk4⟩ := fin (some .ret) W3 hk3;exact⟨_, _, hr, .inr ⟨rfl, .ret, (hIx _).put _ hi3 (by omega) hl3 rfl, hl4, hk4⟩⟩
        | exit id =>
          obtain⟨hk3, hi3⟩ := hp;obtain⟨hr, hl3, hl4, hk4⟩ := fin (some (.exit id)) W3 hk3;exact⟨_, _, hr, .inr ⟨rfl, .exit id, (hIx _).put _ hi3 (by omega) hl3 rfl, hl4, hk4⟩⟩
        | goto t =>
          obtain⟨hk3, hi3⟩ := hp;obtain⟨hr, hl3, hl4, hk4⟩ := fin (some (.goto t)) W3 hk3;exact⟨_, _, hr, .inr ⟨rfl, .goto t, (hIx _).put _ hi3 (by omega) hl3 rfl, hl4, hk4⟩⟩
        | panic ch => exact hp.elim
        | outgrown => exact hp.elim
      | ret => exact hp.elim
      | exit id => exact hp.elim
      | goto t => exact hp.elim
      | panic ch => exact hp.elim
      | outgrown => exact hp.elim
    · rintro e W2 ⟨⟨v, rfl⟩, (⟨xs, hS, hi, hl, hk⟩ | ⟨pre, hSp, c, hi, hl, hk⟩)⟩
      · exact⟨none, _, run_endLoop (P := P) hl (by simp [qW]), hdone _ xs _ (Nat.le_refl _) hS (hI.put _ hi (by omega) hl rfl) ((World.putObj_heap_other (by omega)).trans hk)⟩
      · exact⟨some c, _, run_endLoop (P := P) hl (by simp [qW]), hstop _ c pre _ (Nat.le_refl _) hSp ((hIx c).put _ hi (by omega) hl rfl) ((World.putObj_heap_other (by omega)).trans hk)⟩

/-! ### A region that draws its order, within a round -/
end
end Go.Proofs.YtjbboklnegfohaaGreat
