/- What the reader draws: assertions, sometimes made invalid. -/
import Derived.Test.YtjaohekkmlkinaaGreatMbDrawC
import Derived.Deep.LoopGhost
set_option linter.unusedSimpArgs false
set_option linter.unusedVariables false
set_option maxRecDepth 100000
set_option maxHeartbeats 25600000
namespace Go.Proofs.YtjaohekkmlkinaaGreat
section
open Go Go.RowKit Go.Proofs
theorem c_l3Mutate {lo hi:Nat} (g p:Nat) (v:Value) (a:Asn) (w:World) (h:Rdr w g p) (hp:p≤999900) (ha:AsnV w lo hi v a) (hl:a.facts.length≤900) (hl2:a.atoms.length≤900) :
  Calls Tryz.prog 79 #[.pointer (some ⟨g,0,none⟩),v] w fun e w'=>∃ r a' q,e=.returned r∧AsnO w' w.heap.size r a'∧a'.facts.length≤a.facts.length+14∧a'.atoms.length≤a.atoms.length+7∧Rdr w' g q∧q≤p+4∧Fr g w w':=by
 have H:=ax h;have hV:=ax ha;have hlt:=h.lt;obtain ⟨A1,c1,A2,c2,rfl,-,-⟩:=ha;clear h;(go_enter Tryz.func79,Tryz.ntmps79);have kr:Blk ((w.alloc (.cells #[.slice A1 a.facts.length c1,.slice A2 a.atoms.length c2] 37)).alloc (.cells #[.slice none 0 0,.slice none 0 0] 37)) (w.heap.size+1) 37 #[.slice none 0 0,.slice none 0 0]:=blks;(go_wp2_with fail);refine (c_l3Copy _ a _ (hV.o.bz bel)).mono ?_;rintro e w1 ⟨r,rfl,o,hB1⟩;have hB:=bgo (w:=w) bel hB1;replace kr:=kr.nz hB1;replace o:=o.bq (base':=w.heap.size) (by simp;omega);obtain ⟨fv,av,rfl,o1,o2⟩:=o;obtain ⟨F,e1,rfl,-⟩:=o1.rj;obtain ⟨G,e2,rfl,-⟩:=o2.rj;have HF1:aJ (Fr g w w1):=Fr.ofBelow hB;have HR1:aJ (Rdr w1 g p):=H.o.bz hB;have l1:=kr.lt;obtain ⟨x2,hx2⟩:∃ x2,x2=w1.heap.size:=⟨_,rfl⟩;have lx:w.heap.size+2≤x2:=by omega
 have ko:Blk (w1.alloc (.cells #[.slice F a.facts.length e1,.slice G a.atoms.length e2] 37)) x2 37 #[.slice F a.facts.length e1,.slice G a.atoms.length e2]:=by rw[hx2];exact Blk.new _ _ _
 have O1:=ax (o1.bz (bbox (Below.refl _ _) (.cells #[.slice F a.facts.length e1,.slice G a.atoms.length e2] 37)));have O2:=ax (o2.bz (bbox (Below.refl _ _) (.cells #[.slice F a.facts.length e1,.slice G a.atoms.length e2] 37)));clear hB1 hB o1 o2;(go_wp2_with fail);refine (c_pick g p 50 _ (HR1.o.bz bel) (by omega)).mono ?_;rintro e w2 ⟨m,rfl,-,hR,hF⟩;rw[←hx2];replace kr:=(kr.alloc (.cells #[.slice F a.facts.length e1,.slice G a.atoms.length e2] 37)).fr hF (by omega);replace ko:=ko.fr hF (by omega);have HF2:=ax ((HF1.o.alloc _).trans hF);have HR2:=ax hR;have HO1:=ax (O1.o.fr hF hlt);have HO2:=ax (O2.o.fr hF hlt);have lk:=ko.lt;have hne:w.heap.size+1≠x2:=by omega
 clear hR hF HF1 HR1 O1 O2 l1 hx2;(replace qko:=ko.z;replace qkr:=kr.cell;replace rkr:=kr.frozen;replace lkr:=kr.lt);by_cases hm0:(m:Int)=0
 ·have t0:((m:Int) == 0)=true:=by simpa using hm0
  clear hm0;(go_wp2_with (at_builtin;refine appFL (xs:=a.facts) (ys:=[⟨false,9,0⟩]) (base:=w.heap.size) rfl _ _ rfl rfl (HO1.o.bz bel) rfl (FactsV.oneB (Blk.newE rfl)) (by simp;omega) (by simp;omega) ?_;intro A4 d4 w4 o4 hg4 hB4;rw[List.length_append,List.length_singleton] at o4 ⊢));have hF4:Fr g w w4:=(HF2.o.alloc _).goB hB4 (Nat.le_refl _);have hR4:Rdr w4 g (p+1):=(HR2.o.bz (bbox (Below.refl _ _) _)).belowB hB4 hlt;have k4:=Blk.zm (hg:=hg4) (ko.alloc _) (HO1.o.bz (bbox (Below.refl _ _) _)).1 (by decide);have kr4:=Blk.zm (hg:=hg4) (kr.alloc _) (HO1.o.bz (bbox (Below.refl _ _) _)).1 (by decide);have oa4:=AtomsO.grownF (HO2.o.bz (bbox (Below.refl _ _) _)) (HO1.o.bz (bbox (Below.refl _ _) _)) hg4;have hrd:FactsV w4 w.heap.size w4.heap.size A4 (a.facts++[⟨false,9,0⟩]):=o4.readsI.2;have hsz4:=hF4.size;have HH:=ax (And.intro hF4 (And.intro hR4 (And.intro oa4 hrd)));clear hF4 hR4 oa4 hrd o4 hg4 hB4 ko kr qko qkr rkr lkr;have hmut:=c_l1Mutate g (p+1) A4 d4 (a.facts++[⟨false,9,0⟩]) w4 HH.o.2.1 (by omega) HH.o.2.2.2 (by simp;omega);rw[List.length_append,List.length_singleton] at hmut;refine hmut.mono ?_;clear hmut;rintro e w5 ⟨r5,fs',q,rfl,o5,hlen5,hR5,hq5,hF5⟩;obtain ⟨B,d5,rfl,-⟩:=o5.rj;replace k4:=k4.fr hF5 (by omega);replace kr4:=kr4.fr hF5 (by omega);have HFs:=ax (HH.o.1.trans hF5);have HAs:=ax (HH.o.2.2.1.fr hF5 hlt);have HRs:=ax hR5;have HOs:=ax (o5.bq (base':=w.heap.size) hsz4);have HLn:=ax hlen5;clear hF5 hR5 o5 HH hlen5;(replace qk4:=k4.z;replace qkr4:=kr4.cell;replace rkr4:=kr4.frozen;replace lkr4:=kr4.lt);(go_wp2_with fail);have krx:=kr4.far (p:=⟨x2,0,none⟩) (by simp only;omega) (.slice B fs'.length d5);refine bodyPost_ret (v:=.agg #[.slice B fs'.length d5,.slice G a.atoms.length e2]) (by simp[results,Tryz.results79,go_sem,qkr4]) rfl ⟨_,⟨fs',a.atoms⟩,q,rfl,⟨_,_,rfl,?_,?_⟩,by have:=HLn.o;simp only[List.length_append,List.length_singleton] at this ⊢;omega,by simp only;omega,?_,by omega,?_⟩
  ·exact ((HOs.o.setT k4 (by decide) 0 _).setT krx (by decide) 0 _).setT (krx.set_ 0 _) (by decide) 1 _
  ·exact ((HAs.o.setT k4 (by decide) 0 _).setT krx (by decide) 0 _).setT (krx.set_ 0 _) (by decide) 1 _
  ·exact ((HRs.o.set_ (by simp only;omega) _).set_ (by simp only;omega) _).set_ (by simp only;omega) _
  ·exact ((HFs.o.set_ (Or.inr (by simp only;omega)) _).set_ (Or.inr (by simp only;omega)) _).set_ (Or.inr (by simp only;omega)) _
 ·have t0:((m:Int) == 0)=false:=by simpa using hm0
  clear hm0;by_cases hm1:(m:Int)=1
  ·have t1:((m:Int) == 1)=true:=by simpa using hm1
   clear hm1;(go_wp2_with fail);refine wp_region_noPanic ?_;refine wp_region_last' (S:=(fun w'=>∀ i,w'.cell? ⟨x2,i,none⟩=#[.slice F a.facts.length e1,.slice G a.atoms.length e2][i]?)) (by simp) (by kernel_rfl) (by kernel_rfl) (Blk.cell blks) (fun aH=>?_);simp only[List.dropLast,List.getLast,nopOf,List.cons_append,List.nil_append,List.length_cons,List.length_nil,Nat.zero_add,Nat.reduceAdd];refine tk2 0 rfl aH (h:=tk2 1 rfl aH (h:=tk2 2 rfl aH (h:=?_)));(try simp only[zz]);refine tk2 5 rfl aH (h:=?_);(try simp only[zz])
   refine wpAnyH_par [3,4,6,7] #[true,true,true,true,true,true,true,true,false,false,false,false,false] 4 (by kernel_rfl) aH
    (fun a0 D a w'=>Fr g w2 w'∧(∃ q',Rdr w' g q'∧q'≤(p+1)+(dn D 4).toNat+(dn D 7).toNat)∧∃ v25 v26 v28 v29,a=((((a0.put (some 25) v25).put (some 26) v26).put (some 28) v28).put (some 29) v29)∧
     (dn D 3=true→∃ x,v25=.slice (some ⟨x,0,none⟩) 3 3∧g<x∧Blk w' x tI #[.int .i64 0,.int .i64 3,.int .i64 1])∧
     (dn D 4=true→∃ m,m∈[(0:Int),3,1]∧v26=.int .i64 m)∧
     (dn D 6=true→∃ x,v28=.slice (some ⟨x,0,none⟩) 3 3∧g<x∧Blk w' x tI #[.int .i64 1,.int .i64 9,.int .i64 (-1)])∧
     (dn D 7=true→∃ m,m∈[(1:Int),9,-1]∧v29=.int .i64 m)) ?start ?steps ?fin
   case start=>
    refine ⟨(Fr.refl g w2).drew,⟨(p+1),HR2.o.bz bel,by omega⟩,undef,undef,undef,undef,rfl,?_,?_,?_,?_⟩
    all_goals exact fun h=>absurd h (by decide)
   case steps=>
    refine ParSteps.cons rfl (fun D a w' hu hd hI hS K' hK G hG=>?_) (ParSteps.cons rfl (fun D a w' hu hd hI hS K' hK G hG=>?_) (ParSteps.cons rfl (fun D a w' hu hd hI hS K' hK G hG=>?_) (ParSteps.cons rfl (fun D a w' hu hd hI hS K' hK G hG=>?_) (ParSteps.nil))))
    ·obtain ⟨hF,⟨q',hR,hq'⟩,v25,v26,v28,v29,ha,h3,h4,h6,h7⟩:=hI;rw[ha] at hG;clear ha a;replace hq':=ax hq';replace hR:=ax hR;replace hF:=ax hF;replace hS:=ax hS;replace h3:=ax h3;replace h4:=ax h4;replace h6:=ax h6;replace h7:=ax h7;refine hG ?_;clear hG;(try simp only[zz]);go_simp;have hF3:=hF.o.alloc (.cells #[.int .i64 0,.int .i64 3,.int .i64 1] tI);exact hK.out _ _ (fun i=>(ko.fr hF3 (by omega)).cell i) ⟨hF3,⟨q',hR.o.bz bel,(by rw[dn_ne (show 3≠4 by decide),dn_ne (show 3≠7 by decide)];exact hq'.o)⟩,(.slice (some ⟨w'.heap.size,0,none⟩) 3 3),v26,v28,v29,rfl,fun _=>⟨w'.heap.size,rfl,hR.o.lt,Blk.new _ _ _⟩,dn_keep (by decide) h4.o id,dn_keep (by decide) h6.o (fun ⟨x,e,hx,hb⟩=>⟨x,e,hx,hb.alloc _⟩),dn_keep (by decide) h7.o id⟩
    ·obtain ⟨hF,⟨q',hR,hq'⟩,v25,v26,v28,v29,ha,h3,h4,h6,h7⟩:=hI;rw[ha] at hG;clear ha a;replace hq':=ax hq';replace hR:=ax hR;replace hF:=ax hF;replace hS:=ax hS;replace h3:=ax h3;replace h4:=ax h4;replace h6:=ax h6;replace h7:=ax h7;have d3:dn D 3=true:=hd ⟨3,.data⟩ (by simp) (by decide);obtain ⟨x,rfl,hx,hb⟩:=h3.o d3;clear h3 hd;refine hG ?_;clear hG;(try simp only[zz]);go_simp;refine (c_numL g q' [(0:Int),3,1] x 3 _ _ hR.o (by have:=hq'.o;have:=Bool.toNat_le (dn D 4);have:=Bool.toNat_le (dn D 7);omega) hb (by rfl) hx (by rfl) (by decide) (by decide)).mono ?_;rintro e w2 ⟨m,hm,rfl,hR2,hF2⟩;have hF3:=hF.o.trans hF2;exact hK.out _ _ (fun i=>(ko.fr hF3 (by omega)).cell i) ⟨hF3,⟨q'+1,hR2,(by have z:=hq'.o;rw[dn_un hu] at z;rw[dn_self hu,dn_ne (show 4≠7 by decide)];simp only[Bool.toNat_true,Bool.toNat_false] at z ⊢;omega)⟩,(.slice (some ⟨x,0,none⟩) 3 3),(.int .i64 m),v28,v29,rfl,fun _=>⟨x,rfl,hx,hb.fr hF2 (by omega)⟩,fun _=>⟨m,hm,rfl⟩,dn_keep (by decide) h6.o (fun ⟨x,e,hx,hb⟩=>⟨x,e,hx,hb.fr hF2 (by omega)⟩),dn_keep (by decide) h7.o id⟩
    ·obtain ⟨hF,⟨q',hR,hq'⟩,v25,v26,v28,v29,ha,h3,h4,h6,h7⟩:=hI;rw[ha] at hG;clear ha a;replace hq':=ax hq';replace hR:=ax hR;replace hF:=ax hF;replace hS:=ax hS;replace h3:=ax h3;replace h4:=ax h4;replace h6:=ax h6;replace h7:=ax h7;refine hG ?_;clear hG;(try simp only[zz]);go_simp;have hF3:=hF.o.alloc (.cells #[.int .i64 1,.int .i64 9,.int .i64 (-1)] tI);exact hK.out _ _ (fun i=>(ko.fr hF3 (by omega)).cell i) ⟨hF3,⟨q',hR.o.bz bel,(by rw[dn_ne (show 6≠4 by decide),dn_ne (show 6≠7 by decide)];exact hq'.o)⟩,v25,v26,(.slice (some ⟨w'.heap.size,0,none⟩) 3 3),v29,rfl,dn_keep (by decide) h3.o (fun ⟨x,e,hx,hb⟩=>⟨x,e,hx,hb.alloc _⟩),dn_keep (by decide) h4.o id,fun _=>⟨w'.heap.size,rfl,hR.o.lt,Blk.new _ _ _⟩,dn_keep (by decide) h7.o id⟩
    ·obtain ⟨hF,⟨q',hR,hq'⟩,v25,v26,v28,v29,ha,h3,h4,h6,h7⟩:=hI;rw[ha] at hG;clear ha a;replace hq':=ax hq';replace hR:=ax hR;replace hF:=ax hF;replace hS:=ax hS;replace h3:=ax h3;replace h4:=ax h4;replace h6:=ax h6;replace h7:=ax h7;have d6:dn D 6=true:=hd ⟨6,.data⟩ (by simp) (by decide);obtain ⟨x,rfl,hx,hb⟩:=h6.o d6;clear h6 hd;refine hG ?_;clear hG;(try simp only[zz]);go_simp;refine (c_numL g q' [(1:Int),9,-1] x 3 _ _ hR.o (by have:=hq'.o;have:=Bool.toNat_le (dn D 4);have:=Bool.toNat_le (dn D 7);omega) hb (by rfl) hx (by rfl) (by decide) (by decide)).mono ?_;rintro e w2 ⟨m,hm,rfl,hR2,hF2⟩;have hF3:=hF.o.trans hF2;exact hK.out _ _ (fun i=>(ko.fr hF3 (by omega)).cell i) ⟨hF3,⟨q'+1,hR2,(by have z:=hq'.o;rw[dn_un hu] at z;rw[dn_self hu,dn_ne (show 7≠4 by decide)];simp only[Bool.toNat_true,Bool.toNat_false] at z ⊢;omega)⟩,v25,v26,(.slice (some ⟨x,0,none⟩) 3 3),(.int .i64 m),rfl,dn_keep (by decide) h3.o (fun ⟨x,e,hx,hb⟩=>⟨x,e,hx,hb.fr hF2 (by omega)⟩),dn_keep (by decide) h4.o id,fun _=>⟨x,rfl,hx,hb.fr hF2 (by omega)⟩,fun _=>⟨m,hm,rfl⟩⟩
   case fin=>
    rintro a w4 aH ⟨hF,⟨q',hR,hq'⟩,v25,v26,v28,v29,rfl,h3,h4,h6,h7⟩;obtain ⟨m4,hm4,rfl⟩:=h4 (by decide);obtain ⟨m7,hm7,rfl⟩:=h7 (by decide);replace hq':q'≤(p+1)+2:=hq';clear h3 h6;(try simp only[zz]);have ko4:=ko.fr hF (by omega);have kr4:=kr.fr hF (by omega);have HA4:=ax (HO2.o.fr hF hlt);have HOf4:=ax (HO1.o.fr hF hlt);have HF4:=ax (HF2.o.trans hF);have HR4:=ax hR;have hsz4:=HF4.o.size;have hlen:a.atoms.length+1≤1049600:=by omega
    clear hF hR hm4 hm7 ko kr qko qkr rkr lkr HF2 HR2 HO1 HO2;refine tk2 8 rfl aH (h:=?_);refine rdc 9 rfl fun K hK=>?_;(try simp only[zz]);go_simp;refine hK.out _ _ (Blk.cell blks) ?_;clear aH hK K;intro aH;(try simp only[zz]);refine rdc 10 rfl fun K hK=>?_;skip;(refine stepAL (ys:=[⟨m4,m7,2⟩]) (base:=w.heap.size) rfl _ _ rfl rfl (HA4.o.bz bel) rfl (AtomsV.oneB (Blk.newE rfl)) (by simpa using hlen) (by first|omega|(simp;omega)) ?_;intro A' c' w5 o5 hg5 hB5;have ko5:=Blk.zm (g:=x2) (hg:=hg5) blks (HA4.o.bz (bbox (Below.refl _ _) _)).1 (by decide);have kr5:=Blk.zm (g:=w.heap.size+1) (hg:=hg5) blks (HA4.o.bz (bbox (Below.refl _ _) _)).1 (by decide);have of5:=FactsO.grownA (HOf4.o.bz (bbox (Below.refl _ _) _)) (HA4.o.bz (bbox (Below.refl _ _) _)) hg5;rw[List.length_append,List.length_singleton] at o5 ⊢;clear hg5);refine hK.out _ _ (Blk.cell blks) ?_;clear aH hK K;intro aH;(try simp only[zz]);refine tk2 11 rfl aH (h:=?_);(try simp only[zz]);(replace qko5:=ko5.z;replace qkr5:=kr5.cell;replace rkr5:=kr5.frozen;replace lkr5:=kr5.lt);refine rdc 12 rfl fun K hK=>?_;go_simp;refine hK.out _ _ (Blk.cell blks) (fun aH=>?_);clear hK K;refine wpAnyH_done (by kernel_rfl) ?_ _;unfold lastQ;go_simp;refine NoPanic.normal ?_;have hF5:Fr g w w5:=(HF4.o.alloc _).goB hB5 (Nat.le_refl _);have hR5:Rdr w5 g q':=(HR4.o.bz (bbox (Below.refl _ _) _)).belowB hB5 hlt;have HH:=ax (And.intro hF5 (And.intro hR5 (And.intro of5 o5)));have krx:=kr5.far (p:=⟨x2,1,none⟩) (by simp only;omega) (.slice A' (a.atoms.length+1) c');clear hF5 hR5 of5 o5 hB5;(go_wp2_with fail);refine bodyPost_ret (v:=.agg #[.slice F a.facts.length e1,.slice A' (a.atoms.length+1) c']) (by simp[results,Tryz.results79,go_sem,qkr5]) rfl ⟨_,⟨a.facts,a.atoms++[⟨m4,m7,2⟩]⟩,q',rfl,⟨_,_,rfl,?_,?_⟩,by simp only;omega,by simp,?_,by omega,?_⟩
    ·exact ((HH.o.2.2.1.setT ko5 (by decide) 1 _).setT krx (by decide) 0 _).setT (krx.set_ 0 _) (by decide) 1 _
    ·exact ((HH.o.2.2.2.setT ko5 (by decide) 1 _).setT krx (by decide) 0 _).setT (krx.set_ 0 _) (by decide) 1 _
    ·exact ((HH.o.2.1.set_ (by simp only;omega) _).set_ (by simp only;omega) _).set_ (by simp only;omega) _
    ·exact ((HH.o.1.set_ (Or.inr (by simp only;omega)) _).set_ (Or.inr (by simp only;omega)) _).set_ (Or.inr (by simp only;omega)) _
  ·have t1:((m:Int) == 1)=false:=by simpa using hm1
   clear hm1;by_cases hm2:(m:Int)=2
   ·have t2:((m:Int) == 2)=true:=by simpa using hm2
    clear hm2;(go_wp2_with fail)
    go_loopg [] (a.atoms.length+7 - a.atoms.length) (fun gh wx=>∃ (xs:List Atm) (B:Option Addr) (d:Nat),7≤gh+xs.length∧(xs.length≤7∨xs.length≤a.atoms.length)∧aJ (AtomsO wx w.heap.size (.slice B xs.length d) xs)∧aJ (FactsO wx w.heap.size (.slice F a.facts.length e1) a.facts)∧Blk wx x2 37 #[.slice F a.facts.length e1,.slice B xs.length d]∧Blk wx (w.heap.size+1) 37 #[.slice none 0 0,.slice none 0 0]∧aJ (Rdr wx g (p+1))∧aJ (Fr g w wx))
    case atStart=>exact ⟨a.atoms,G,e2,by omega,Or.inr (Nat.le_refl _),HO2.o,HO1.o,ko,kr,HR2.o,HF2.o⟩
    case round=>
     clear ko kr qko qkr rkr lkr HF2 HR2 HO1 HO2;obtain ⟨xs,B,d,hgh,hx,HO,HOF,ko,kr,HR,HF⟩:=hrel;have hsz:=HF.o.size;have HX:=ax hx;have lk:=ko.lt;(replace qko:=ko.z;replace qkr:=kr.cell;replace rkr:=kr.frozen;replace lkr:=kr.lt);clear hx;by_cases hle:xs.length≤6
     ·have hlei:(xs.length:Int)≤6:=by omega
      (go_wp2_with (at_builtin;refine appAL (ys:=[⟨2,1,1⟩]) (base:=w.heap.size) rfl _ _ rfl rfl (HO.o.bz bel) rfl (AtomsV.oneB (Blk.newE rfl)) (by simp;omega) (by simp;omega) ?_;intro A4 d4 w4 o4 hg4 hB4;rw[List.length_append,List.length_singleton] at o4 ⊢;have ko4:=Blk.zm (g:=x2) (hg:=hg4) (ko.alloc _) (HO.o.bz (bbox (Below.refl _ _) _)).1 (by decide);have kr4:=Blk.zm (g:=w.heap.size+1) (hg:=hg4) (kr.alloc _) (HO.o.bz (bbox (Below.refl _ _) _)).1 (by decide);have of4:=FactsO.grownA (HOF.o.bz (bbox (Below.refl _ _) _)) (HO.o.bz (bbox (Below.refl _ _) _)) hg4;(replace qko4:=ko4.z;replace qkr4:=kr4.cell;replace rkr4:=kr4.frozen;replace lkr4:=kr4.lt);clear hg4));have hF4:Fr g w w4:=(HF.o.alloc _).goB hB4 (Nat.le_refl _);have hR4:Rdr w4 g (p+1):=(HR.o.bz (bbox (Below.refl _ _) _)).belowB hB4 hlt
      go_roundg (7 - (xs.length+1))
      case rel=>exact ⟨xs++[⟨2,1,1⟩],A4,d4,by simp;omega,Or.inl (by simp;omega),by simpa[aJ] using o4.setT ko4 (by decide) 1 (.slice A4 (xs.length+1) d4),by simpa[aJ] using of4.setT ko4 (by decide) 1 (.slice A4 (xs.length+1) d4),by simpa using ko4.set_ 1 (.slice A4 (xs.length+1) d4),kr4.far (by simp only;omega) _,hR4.set_ (by simp only;omega) _,hF4.set_ (Or.inr (by simp only;omega)) _⟩
      case measure=>omega
     ·have hlei:¬(xs.length:Int)≤6:=by omega
      (go_wp2_with fail);refine bodyPost_ret (v:=.agg #[.slice F a.facts.length e1,.slice B xs.length d]) (by simp[results,Tryz.results79,go_sem,qkr]) rfl ⟨_,rfl,⟨a.facts,xs⟩,⟨_,_,rfl,?_,?_⟩,by simp only;omega,by have:=HX.o;simp only;omega,p+1,?_,by omega,?_⟩
      ·exact (HOF.o.setT kr (by decide) 0 _).setT (kr.set_ 0 _) (by decide) 1 _
      ·exact (HO.o.setT kr (by decide) 0 _).setT (kr.set_ 0 _) (by decide) 1 _
      ·exact (HR.o.set_ (by simp only;omega) _).set_ (by simp only;omega) _
      ·exact (HF.o.set_ (Or.inr (by simp only;omega)) _).set_ (Or.inr (by simp only;omega)) _
   ·have t2:((m:Int) == 2)=false:=by simpa using hm2
    clear hm2;(go_wp2_with fail);refine bodyPost_ret (v:=.agg #[.slice F a.facts.length e1,.slice G a.atoms.length e2]) (by simp[results,Tryz.results79,go_sem,qkr]) rfl ⟨_,a,p+1,rfl,⟨_,_,rfl,?_,?_⟩,by omega,by omega,?_,by omega,?_⟩
    ·exact (HO1.o.setT kr (by decide) 0 _).setT (kr.set_ 0 _) (by decide) 1 _
    ·exact (HO2.o.setT kr (by decide) 0 _).setT (kr.set_ 0 _) (by decide) 1 _
    ·exact (HR2.o.set_ (by simp only;omega) _).set_ (by simp only;omega) _
    ·exact (HF2.o.set_ (Or.inr (by simp only;omega)) _).set_ (Or.inr (by simp only;omega)) _
def FactsI (w:World) (lo hi:Nat) (v:Value) (fs:List Fct):Prop:=FactsO w lo v fs∧Und v hi
def AtomsI (w:World) (lo hi:Nat) (v:Value) (fs:List Atm):Prop:=AtomsO w lo v fs∧Und v hi
def IntsI (w:World) (lo hi:Nat) (v:Value) (fs:List Int):Prop:=IntsO w lo v fs∧Und v hi
def AsnI (w:World) (lo hi:Nat) (v:Value) (a:Asn):Prop:=∃ fv av,v=.agg #[fv,av]∧FactsI w lo hi fv a.facts∧AtomsI w lo hi av a.atoms
section
variable {w w':World} {lo hi lo' hi' a b:Nat} {v:Value}
theorem und_range {w:World} {base:Nat} {e:TypeId} {size:Nat} {v:Value} {n:Nat} {xs:List Value} {hi:Nat} (h:w.ownsRow base e size v n xs) (hu:Und v hi):∀ g,v.ownBlock=some g→base≤g∧g<hi:=fun g hg=>⟨(h.lt g hg).1,hu g hg⟩
theorem FactsI.bz {fs:List Fct} (h:FactsI w lo hi v fs) (hb:Below w.heap.size w w'):FactsI w' lo hi v fs:=⟨h.1.bz hb,h.2⟩
theorem AtomsI.bz {fs:List Atm} (h:AtomsI w lo hi v fs) (hb:Below w.heap.size w w'):AtomsI w' lo hi v fs:=⟨h.1.bz hb,h.2⟩
theorem IntsI.bz {fs:List Int} (h:IntsI w lo hi v fs) (hb:Below w.heap.size w w'):IntsI w' lo hi v fs:=⟨h.1.bz hb,h.2⟩
theorem AsnI.bz {x:Asn} (h:AsnI w lo hi v x) (hb:Below w.heap.size w w'):AsnI w' lo hi v x:=by
 obtain ⟨fv,av,e,h1,h2⟩:=h;exact ⟨fv,av,e,h1.bz hb,h2.bz hb⟩
theorem FactsI.mk {fs:List Fct} (h:FactsI w lo hi v fs) (hb:Mk (fun g=>a≤g∧g<b) w w') (hd:hi≤a∨b≤lo):FactsI w' lo hi v fs:=
 ⟨h.1.mk hb fun g hg hp=>by have:=und_range h.1.1 h.2 g hg;omega,h.2⟩
theorem AtomsI.mk {fs:List Atm} (h:AtomsI w lo hi v fs) (hb:Mk (fun g=>a≤g∧g<b) w w') (hd:hi≤a∨b≤lo):AtomsI w' lo hi v fs:=
 ⟨h.1.mk hb fun g hg hp=>by have:=und_range h.1.1 h.2 g hg;omega,h.2⟩
theorem IntsI.mk {fs:List Int} (h:IntsI w lo hi v fs) (hb:Mk (fun g=>a≤g∧g<b) w w') (hd:hi≤a∨b≤lo):IntsI w' lo hi v fs:=
 ⟨h.1.mk hb fun g hg hp=>by have:=und_range h.1.1 h.2 g hg;omega,h.2⟩
theorem AsnI.mk {x:Asn} (h:AsnI w lo hi v x) (hb:Mk (fun g=>a≤g∧g<b) w w') (hd:hi≤a∨b≤lo):AsnI w' lo hi v x:=by
 obtain ⟨fv,av,e,h1,h2⟩:=h;exact ⟨fv,av,e,h1.mk hb hd,h2.mk hb hd⟩
theorem FactsI.form {fs:List Fct} (h:FactsI w lo hi v fs):∃ A c,v=.slice A fs.length c:=by obtain ⟨A,c,e,-⟩:=h.1.rj;exact ⟨A,c,e⟩
theorem AtomsI.form {fs:List Atm} (h:AtomsI w lo hi v fs):∃ A c,v=.slice A fs.length c:=by obtain ⟨A,c,e,-⟩:=h.1.rj;exact ⟨A,c,e⟩
theorem IntsI.form {fs:List Int} (h:IntsI w lo hi v fs):∃ A c,v=.slice A fs.length c:=by obtain ⟨A,c,e,-⟩:=h.1.rj;exact ⟨A,c,e⟩
theorem AsnI.form {x:Asn} (h:AsnI w lo hi v x):∃ A c B d,v=.agg #[.slice A x.facts.length c,.slice B x.atoms.length d]:=by
 obtain ⟨fv,av,rfl,h1,h2⟩:=h;obtain ⟨A,c,rfl⟩:=h1.form;obtain ⟨B,d,rfl⟩:=h2.form;exact ⟨A,c,B,d,rfl⟩
theorem IntsI.rj {A:Option Addr} {n c:Nat} {fs:List Int} (h:IntsI w lo hi (.slice A n c) fs):IntsV w lo w.heap.size A fs:=h.1.readsI.2
theorem AsnI.rj {x:Asn} (h:AsnI w lo hi v x):AsnV w lo w.heap.size v x:=by
 obtain ⟨fv,av,e,h1,h2⟩:=h;exact AsnO.rj ⟨fv,av,e,h1.1,h2.1⟩
theorem FactsO.I {fs:List Fct} (h:FactsO w lo v fs):FactsI w lo w.heap.size v fs:=⟨h,h.und⟩
theorem AtomsO.I {fs:List Atm} (h:AtomsO w lo v fs):AtomsI w lo w.heap.size v fs:=⟨h,h.und⟩
theorem IntsO.I {fs:List Int} (h:IntsO w lo v fs):IntsI w lo w.heap.size v fs:=⟨h,h.und⟩
theorem AsnO.I {x:Asn} (h:AsnO w lo v x):AsnI w lo w.heap.size v x:=by
 obtain ⟨fv,av,e,h1,h2⟩:=h;exact ⟨fv,av,e,h1.I,h2.I⟩
theorem AsnI.len {x:Asn} (h:AsnI w lo hi v x):x.facts.length≤1049600∧x.atoms.length≤1049600:=by
 obtain ⟨fv,av,e,h1,h2⟩:=h;exact ⟨h1.1.2,h2.1.2⟩
theorem IntsI.len {x:List Int} (h:IntsI w lo hi v x):x.length≤1049600:=h.1.2
theorem Mk.keepB {B:Nat} {w0:World} (h:Below B w0 w) (hm:Mk (fun g=>a≤g∧g<b) w w') (hB:B≤a) (hs:B≤w.heap.size):Below B w0 w':=
 h.trans (hm.bz (fun k hk=>by omega) hs)
end
end
end Go.Proofs.YtjaohekkmlkinaaGreat
