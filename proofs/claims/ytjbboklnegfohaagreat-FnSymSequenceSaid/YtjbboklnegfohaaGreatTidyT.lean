/- Tidying: the spec's TidyAssertion. -/
import Derived.Test.YtjbboklnegfohaaGreatMSymSeq
import Derived.Deep.LoopGhost
set_option linter.unusedSimpArgs false
set_option linter.unusedVariables false
set_option maxRecDepth 100000
set_option maxHeartbeats 25600000
namespace Go.Proofs.YtjbboklnegfohaaGreat
section
open Go Go.RowKit Go.Proofs
attribute [local go_sem ↓] Go.wp_at_zero Go.wp_at_succ
theorem Rd.tight{w:World}{lo hi size n:Nat}{A:Option Addr}{xs:List Value}(h:Rd w lo hi size A n xs):Rd w 0 w.heap.size size A n xs:=
 ⟨⟨h.raw.1,fun hn=>by
  obtain⟨b,o,e,_,_,hc⟩:=h.raw.2 hn;have h0:=h.raw.1
  exact⟨b,o,e,dJ,block_lt_of_cell (hc 0 _ (List.getElem?_eq_getElem (by omega))),hc⟩⟩,h.lim⟩
theorem aG.tight{w:World}{lo hi:Nat}{A:Option Addr}{xs:List aF}(h:aG w lo hi A xs):aG w 0 w.heap.size A xs:=Rd.tight h
theorem aB.tight{w:World}{lo hi:Nat}{A:Option Addr}{xs:List aL}(h:aB w lo hi A xs):aB w 0 w.heap.size A xs:=Rd.tight h
theorem aM.Jr{w:World}{lo hi e:Nat}{G:Option Addr}{xs:List aL}(h:aB w lo hi G xs):aM w lo hi (.agg #[.slice none 0 0,.slice G xs.length e]) ⟨[],xs⟩:=⟨none,0,G,e,rfl,Rd.nil _ _ _ _ _,h⟩
def Dc(K:Nat)(a:au):Option au:=if a.valid then some (bL K a) else none
theorem LY(K T:Nat)(f:aF)(m1 m2:Nat)(h1:f.a=m1)(h2:f.b=m2):bE (K|||T) f=((decide (m1<=4) || (K.testBit m1 || T.testBit m1))&&(decide (m2<=4) || (K.testBit m2 || T.testBit m2))):=by
 unfold bE rD;rw[h1,h2,Int.toNat_natCast,Int.toNat_natCast,Nat.testBit_or,Nat.testBit_or];have e1:decide ((m1:Int)<=4)=decide (m1<=4):=by rw[decide_eq_decide];omega
 have e2:decide ((m2:Int)<=4)=decide (m2<=4):=by rw[decide_eq_decide];omega
 rw[e1,e2]
theorem En{a:au}(h:a.valid=true)(p:aF->Bool):(⟨a.facts.filter p,a.atoms⟩:au).valid=true:=by
 simp only[au.valid,aS,Bool.and_eq_true,decide_eq_true_eq] at h⊢;refine⟨⟨Nat.le_trans (List.length_filter_le _ _) h.1.1,?_⟩,h.2⟩;have:=h.1.2;rw[List.all_eq_true] at this⊢;intro f hf;exact this f (List.mem_filter.1 hf).1
theorem sI{lo hi bJ hi':Nat}(v:Value)(a:au)(B:Option Addr)(c:Nat)(ks:List Int)(w:World)(h:aM w lo hi v a)(h':bG w bJ hi' B ks) :
  Calls Tryz.prog 82 #[v,.slice B ks.length c] w fun e w'=>∃r,e=.returned (.tuple #[r,.bool (Dc (aO ks) a).isSome])/\aI w' w.heap.size r ((Dc (aO ks) a).getD ⟨[],[]⟩)/\Below w.heap.size w w':=by
 have hV:=ax h;obtain⟨A1,c1,A2,c2,rfl,h1,h2⟩:=h;have HF:aJ (Dc (aO ks) a=if a.valid then some (bL (aO ks) a) else none):=rfl;have hT:=dI ks;(go_enter Tryz.func82,Tryz.ntmps82);obtain⟨k0,k1⟩:=Dh w 26 26 #[.slice A1 a.facts.length c1,.slice A2 a.atoms.length c2] #[.slice none 0 0,.slice none 0 0];(go_wp2_with fail);refine(vz _ a _ (hV.o.bz aj)).mono ?_;rintro e w1 ⟨rfl,hB1⟩;have hB:=aP (w:=w) aj hB1;(replace k0:=k0.nz hB1;replace bT:=k0.z;replace k1:=k1.nz hB1;replace fI:=k1.cell;replace nZ:=k1.frozen;replace mE:=k1.lt);cases hv:a.valid
 ·have E:=ax (show Dc (aO ks) a=none by rw[HF.o,hv];rfl);clear hv;go_wp2;refine bodyPost_ret (v:=.tuple #[.agg #[.slice none 0 0,.slice none 0 0],.bool false]) (by simp[results,Tryz.results82,go_sem,fI]) rfl ⟨_,by rw[E.o];rfl,by rw[E.o];exact aI.zero _ _,aj⟩
 have E:=ax (show Dc (aO ks) a=some (bL (aO ks) a) by rw[HF.o,hv];rfl);have Sb:=ax hv;clear hv hB1;(go_wp2_with fail);refine(rE B c ks _ (h'.bz hB)).mono ?_;rintro e w2 ⟨r,rfl,oB,hB2⟩;generalize Mf:aO ks=K at hT E oB HF;have HKE:=ax Mf;clear Mf;(replace hB:=aP hB hB2;replace k0:=k0.nz hB2;replace bT:=k0.z;replace k1:=k1.nz hB2;replace fI:=k1.cell;replace nZ:=k1.frozen;replace mE:=k1.lt);obtain⟨Bb,cb,rfl,fB⟩:=oB.rj;rw[yD];obtain⟨pb,ob,rfl,TW⟩:=iN fB;have hw2:w.heap.size+1<w2.heap.size:=mE;have hf0:=h1.tight.bz hB;have ha0:=h2.tight.bz hB;clear hB2 oB HF hV h1 h2;(go_wp2_with fail);have k2:=ae.new w2 26 #[.slice A1 a.facts.length c1,.slice A2 a.atoms.length c2];have HA0:aJ (aM w2 0 w.heap.size (.agg #[.slice A1 a.facts.length c1,.slice A2 a.atoms.length c2]) a):=⟨_,_,_,_,rfl,hf0,ha0⟩;refine(qQ _ a _ _ K _ (HA0.o.bz aj) (fB.bz aj) Sb.o).mono ?_;rintro e w3 ⟨rfl,hB3⟩;have qj:=aP (w:=w2) aj hB3;replace k2:=k2.nz hB3;(replace hB:=aP hB qj;replace k1:=k1.nz qj;replace fI:=k1.cell;replace nZ:=k1.frozen;replace mE:=k1.lt;replace hf0:=hf0.bz qj;replace ha0:=ha0.bz qj);replace fB:=(fB.bz qj).mono dJ bn;obtain⟨po,hpo⟩:∃p,p=w2.heap.size:=⟨_,rfl⟩;rw[<-hpo] at k2 TW fB hw2⊢;clear hpo hB3 qj HA0;(replace lZ:=k2.cell;replace Ag:=k2.frozen;replace xC:=k2.lt);have Vl:=ax (Nat.le_refl (left K a).length);have hlw:w.heap.size<=po:=by omega
 go_wp2_with fail
 go_loopg [8,9,10] (left K a).length (fun g s8 s9 s10 wr=>∃(b:au) (F G:Option Addr) (d e l hh:Nat),s8=.int .i64 ((bD K b.facts).getD (0,0)).1/\s9=.int .i64 ((bD K b.facts).getD (0,0)).2/\s10=.bool (bD K b.facts).isSome/\
  aJ ((left K b).length<=g)/\aJ (b.valid=true)/\aJ (jk K a=jk K b)/\aG wr l hh F b.facts/\aB wr l hh G b.atoms/\aJ (hh<=po\/po<l)/\bB wr 0 po (some ⟨pb,ob,none⟩) (zj K)/\
  ae wr (w.heap.size+1) 26 #[.slice none 0 0,.slice none 0 0]/\ae wr po 26 #[.slice F b.facts.length d,.slice G b.atoms.length e]/\Below w.heap.size w wr)
 case atStart=>exact⟨a,A1,A2,c1,c2,0,w.heap.size,rfl,rfl,rfl,Vl.o,Sb.o,rfl,hf0,ha0,Or.inl hlw,fB,k1,k2,hB⟩
 case round=>
  clear k0 bT k1 fI nZ mE k2 lZ Ag xC hf0 ha0 fB hB Vl;obtain⟨b,F,G,d,e,l,hh,rfl,rfl,rfl,HL,wu,HS,hf,ha,HD,fB,k1,k2,hB⟩:=hrel;(replace fI:=k1.cell;replace nZ:=k1.frozen;replace mE:=k1.lt;replace lZ:=k2.cell;replace Ag:=k2.frozen;replace xC:=k2.lt);have HA:aJ (aM wr l hh (.agg #[.slice F b.facts.length d,.slice G b.atoms.length e]) b):=⟨_,_,_,_,rfl,hf,ha⟩
  cases hs:bD K b.facts with
  | some p=>
   obtain⟨x,t⟩:=p;have hlt:=ax (nL hs)
   have HT:aJ ((aZ x t b).valid=true):=by
    obtain⟨f,hf,hq⟩:=List.exists_of_findSome?_eq_some hs;have hvb:=wu.o
    have oI:f.valid=true:=by
     simp only[au.valid,aS,Bool.and_eq_true] at hvb;exact List.all_eq_true.1 hvb.1.2 f hf
    simp only[aF.valid,Bool.and_eq_true] at oI;refine wG wu.o ?_;rcases(mR hq).2.2 with ⟨_,e⟩|⟨_,e⟩
    ·rw[e];exact oI.2
    ·rw[e];exact oI.1
   have PI:=ax (jJ hs);simp only[Option.getD_some,Option.isSome_some];clear hs;(go_wp2_with fail);refine(rG _ b x t _ HA.o).mono ?_;rintro e w4 ⟨r,rfl,o,hB4⟩;have Dp:=xC;(replace hB:=aP hB hB4;replace k1:=k1.nz hB4;replace fI:=k1.cell;replace nZ:=k1.frozen;replace mE:=k1.lt;replace k2:=k2.nz hB4;replace lZ:=k2.cell;replace Ag:=k2.frozen;replace xC:=k2.lt;replace fB:=fB.bz hB4);obtain⟨fv,av,rfl,Et,Mw⟩:=o;obtain⟨F4,d4,rfl,OU⟩:=Et.rj;obtain⟨G4,e4,rfl,OV⟩:=Mw.rj;clear hB4 hf ha HA Et Mw;(go_wp2_with fail);have k5:=(k2.ag 0 (.slice F4 (aZ x t b).facts.length d4)).ag 1 (.slice G4 (aZ x t b).atoms.length e4);replace OU:aG _ _ _ _ _:=Rd.kM (Rd.kM OU (p:=⟨po,0,none⟩) (Or.inl Dp) (.slice F4 (aZ x t b).facts.length d4)) (p:=⟨po,1,none⟩) (Or.inl Dp) (.slice G4 (aZ x t b).atoms.length e4);replace OV:aB _ _ _ _ _:=Rd.kM (Rd.kM OV (p:=⟨po,0,none⟩) (Or.inl Dp) (.slice F4 (aZ x t b).facts.length d4)) (p:=⟨po,1,none⟩) (Or.inl Dp) (.slice G4 (aZ x t b).atoms.length e4);replace fB:bB _ _ _ _ _:=Rd.kM (Rd.kM fB (p:=⟨po,0,none⟩) (Or.inr bn) (.slice F4 (aZ x t b).facts.length d4)) (p:=⟨po,1,none⟩) (Or.inr bn) (.slice G4 (aZ x t b).atoms.length e4);replace k1:=(k1.far (p:=⟨po,0,none⟩) (by simp only[];omega) (.slice F4 (aZ x t b).facts.length d4)).far (p:=⟨po,1,none⟩) (by simp only[];omega) (.slice G4 (aZ x t b).atoms.length e4);replace hB:=(hB.setCell (p:=⟨po,0,none⟩) (by simp only[];omega) (.slice F4 (aZ x t b).facts.length d4)).setCell (p:=⟨po,1,none⟩) (by simp only[];omega) (.slice G4 (aZ x t b).atoms.length e4);clear k2 fI nZ mE lZ Ag xC;generalize ((w4.setCell ⟨po,0,none⟩ (.slice F4 (aZ x t b).facts.length d4)).setCell ⟨po,1,none⟩ (.slice G4 (aZ x t b).atoms.length e4))=V5 at k5 OU OV fB k1 hB⊢;refine(qQ _ (aZ x t b) _ _ K _ ⟨F4,d4,G4,e4,rfl,OU,OV⟩ fB HT.o).mono ?_;rintro e w5 ⟨rfl,bW⟩;(replace hB:=aP hB bW;replace k1:=k1.nz bW;replace k5:=k5.nz bW;replace fB:=fB.bz bW;replace OU:=OU.bz bW;replace OV:=OV.bz bW);clear bW;(go_wp2_with fail)
   go_roundg (left K (aZ x t b)).length
   case rel=>exact⟨aZ x t b,F4,G4,d4,e4,_,_,rfl,rfl,rfl,bn,HT.o,by show _=_;rw[HS.o,PI.o],OU,OV,Or.inr Dp,fB,k1,by simpa using k5,hB⟩
   case measure=>have:=HL.o;have:=hlt.o;omega
  | none=>
   have PI:=ax (gU hs)
   have HT:aJ (bL K a=iZ ⟨b.facts.filter (bE (K|||aO (mz ⟨[],b.atoms⟩))),b.atoms⟩):=by
    show _=_;unfold bL;rw[HS.o,PI.o]
   simp only[Option.getD_none,Option.isSome_none];clear hs HS PI HL HA;have HA:=ax (aM.Jr (e:=e) ha)
   have HW:aJ (∀t∈mz ⟨[],b.atoms⟩,jq t=true):=by
    intro t ht;refine jK wu.o t ?_;simp only[mz,List.mem_append] at ht⊢;rcases ht with ht|ht
    ·cases ht
    ·exact Or.inr ht
   (go_wp2_with fail);refine(dO _ ⟨[],b.atoms⟩ _ HA.o HW.o).mono ?_;rintro e w4 ⟨r,rfl,oU,hB4⟩;have hwr4:=xC;(replace hB:=aP hB hB4;replace k1:=k1.nz hB4;replace fI:=k1.cell;replace nZ:=k1.frozen;replace mE:=k1.lt;replace k2:=k2.nz hB4;replace lZ:=k2.cell;replace Ag:=k2.frozen;replace xC:=k2.lt;replace fB:=fB.bz hB4;replace hf:=hf.bz hB4;replace ha:=ha.bz hB4);generalize aO (mz ⟨[],b.atoms⟩)=T at oU HT;obtain⟨Ub,cu,rfl,fU⟩:=oU.rj;rw[yD];obtain⟨pu,ou,rfl,lpu⟩:=iN fU;clear hB4 HA HW oU;have hlb:b.facts.length<=1049600:=hf.le;(go_wp2_with fail);have OU:=hf.tight;have OV:=ha.tight;have XU:=ah.empty w4;replace hf:=OU.bz (w':=w4.alloc (.cells #[] tF)) aj;replace ha:=OV.bz (w':=w4.alloc (.cells #[] tF)) aj;replace fB:=fB.bz (w':=w4.alloc (.cells #[] tF)) aj;replace fU:=(fU.bz (w':=w4.alloc (.cells #[] tF)) aj).mono dJ bn;replace k1:=k1.alloc (.cells #[] tF);replace k2:=k2.alloc (.cells #[] tF);replace hB:=ai hB (.cells #[] tF);have lV:w4.heap.size<(w4.alloc (.cells #[] tF)).heap.size:=by simp
   generalize (w4.alloc (.cells #[] tF))=V6 at XU hf ha fB fU k1 k2 hB lV⊢;clear fI nZ lZ Ag OU OV;obtain⟨pr,hpr⟩:∃p,p=w4.heap.size:=⟨_,rfl⟩;rw[<-hpr] at XU hf ha fU mE xC lV lpu⊢;clear hpr
   go_loopw [12,13] (fun s12 i wr=>∃(k:Nat) (acc:List aF) (A:Option Addr) (c:Nat),k<=b.facts.length/\i=.int .i64 k/\s12=.slice A acc.length c/\aJ (acc=(b.facts.take k).filter (bE (K|||T)))/\acc.length<=k/\ah wr pr (.slice A acc.length c) acc/\Below pr V6 wr/\pr<wr.heap.size) (fun _ i _=>b.facts.length - (intOf i).toNat)
   case atStart=>exact⟨0,[],some ⟨pr,0,none⟩,0,dJ,rfl,rfl,by simp[aJ],bn,XU,aU,lV⟩
   case round=>
    clear XU;obtain⟨k,acc,A,c,hk,rfl,rfl,mG,hal,of,hP,lwr⟩:=hrel;replace k1:=k1.bz hP (by omega);replace k2:=k2.bz hP (by omega);replace hf:=hf.gp hP bn;replace ha:=ha.gp hP bn;replace fB:=fB.gp hP (by omega);replace fU:=fU.gp hP bn;have hBw:=hB.trans (hP.mono (by omega));(replace fI:=k1.cell;replace nZ:=k1.frozen;replace mE:=k1.lt;replace lZ:=k2.cell;replace Ag:=k2.frozen;replace xC:=k2.lt);by_cases hlt:k<b.facts.length
    ·obtain⟨b2,o2,rfl,hb2⟩:=hf.blt hlt;obtain⟨g0,g1,g2⟩:=hf.cl hlt;have yL:=ax (lF (bE (K|||T)) b.facts k hlt)
     have oI:b.facts[k].valid=true:=by
      have hvb:=wu.o;simp only[au.valid,aS,Bool.and_eq_true] at hvb;exact List.all_eq_true.1 hvb.1.2 _ (List.getElem_mem hlt)
     simp only[aF.valid,Bool.and_eq_true] at oI;have b1:=qU.1 oI.1;have b2':=qU.1 oI.2;obtain⟨m1,e1⟩:=Int.eq_ofNat_of_zero_le b1.1;obtain⟨m2,e2⟩:=Int.eq_ofNat_of_zero_le b2'.1;have HO:=LY K T b.facts[k] m1 m2 e1 e2;have hfe:b.facts[k]=⟨b.facts[k].eq,m1,m2⟩:=by rw[aF.eq_iff];exact⟨rfl,e1,e2⟩
     have Qx:=ax hfe;rw[e1] at g1;rw[e2] at g2;have m18:(m1:Int)<9:=by omega
     have m28:(m2:Int)<9:=by omega
     have f1:=iM fB (m:=m1) (by omega);have f2:=iM fB (m:=m2) (by omega);have u1:=iM fU (m:=m1) (by omega);have u2:=iM fU (m:=m2) (by omega);have lpb2:pb<wr.heap.size:=by omega
     have lpu2:pu<wr.heap.size:=by omega
     clear oI b1 b2' hfe e1 e2
     have hA:(m1<=4)\/(¬m1<=4/\K.testBit m1=true)\/(¬m1<=4/\K.testBit m1=false/\T.testBit m1=true)\/(¬m1<=4/\K.testBit m1=false/\T.testBit m1=false):=by
      by_cases h:m1<=4<;>cases K.testBit m1<;>cases T.testBit m1<;>simp[h]
     have hC:(m2<=4)\/(¬m2<=4/\K.testBit m2=true)\/(¬m2<=4/\K.testBit m2=false/\T.testBit m2=true)\/(¬m2<=4/\K.testBit m2=false/\T.testBit m2=false):=by
      by_cases h:m2<=4<;>cases K.testBit m2<;>cases T.testBit m2<;>simp[h]
     rcases hA with la|⟨la,ka⟩|⟨la,ka,ta⟩|⟨la,ka,ta⟩
     ·rcases hC with lb|⟨lb,kb⟩|⟨lb,kb,tb⟩|⟨lb,kb,tb⟩
      ·simp[la,lb] at HO;have HN:aJ ((b.facts.take (k+1)).filter (bE (K|||T))=acc++[⟨b.facts[k].eq,m1,m2⟩]):=by show _=_;rw[yL.o,HO,<-mG.o,if_pos rfl,<-Qx.o]
       clear HO;have rf:=(of.bz (w':=wr.alloc (.cells #[.bool b.facts[k].eq,.int .i64 (m1:Int),.int .i64 (m2:Int)] tF)) aj).bz (w':=(wr.alloc (.cells #[.bool b.facts[k].eq,.int .i64 (m1:Int),.int .i64 (m2:Int)] tF)).alloc (.cells #[.bool b.facts[k].eq,.int .i64 (m1:Int),.int .i64 (m2:Int)] tF)) aj;(go_wp2_with (at_builtin;refine gN rfl _ _ rfl (v:=.slice A acc.length c) rfl rf rfl (aG.qV (ae.dA (by simp))) (by simp;omega) (by simp;omega) ?_;intro A' c' w7 lQ hg2 iB));have hP2:=Below.trans ((hP.alloc (by omega) _).alloc (by simp;omega) _) iB
       go_round
       case rel=>exact⟨k+1,acc++[⟨b.facts[k].eq,m1,m2⟩],A',c',by omega,by go_num,by simp,by show _=_;rw[HN.o],by simp;omega,lQ,hP2,by have:=iB.size;simp at this;omega⟩
       case measure=>simp[intOf];omega
      ·simp[la,lb,kb] at HO;rw[kb] at f2;have HN:aJ ((b.facts.take (k+1)).filter (bE (K|||T))=acc++[⟨b.facts[k].eq,m1,m2⟩]):=by show _=_;rw[yL.o,HO,<-mG.o,if_pos rfl,<-Qx.o]
       clear HO kb;have rf:=(of.bz (w':=wr.alloc (.cells #[.bool b.facts[k].eq,.int .i64 (m1:Int),.int .i64 (m2:Int)] tF)) aj).bz (w':=(wr.alloc (.cells #[.bool b.facts[k].eq,.int .i64 (m1:Int),.int .i64 (m2:Int)] tF)).alloc (.cells #[.bool b.facts[k].eq,.int .i64 (m1:Int),.int .i64 (m2:Int)] tF)) aj;(go_wp2_with (at_builtin;refine gN rfl _ _ rfl (v:=.slice A acc.length c) rfl rf rfl (aG.qV (ae.dA (by simp))) (by simp;omega) (by simp;omega) ?_;intro A' c' w7 lQ hg2 iB));have hP2:=Below.trans ((hP.alloc (by omega) _).alloc (by simp;omega) _) iB
       go_round
       case rel=>exact⟨k+1,acc++[⟨b.facts[k].eq,m1,m2⟩],A',c',by omega,by go_num,by simp,by show _=_;rw[HN.o],by simp;omega,lQ,hP2,by have:=iB.size;simp at this;omega⟩
       case measure=>simp[intOf];omega
      ·simp[la,lb,kb,tb] at HO;rw[kb] at f2;rw[tb] at u2;have HN:aJ ((b.facts.take (k+1)).filter (bE (K|||T))=acc++[⟨b.facts[k].eq,m1,m2⟩]):=by show _=_;rw[yL.o,HO,<-mG.o,if_pos rfl,<-Qx.o]
       clear HO kb tb;have rf:=(of.bz (w':=wr.alloc (.cells #[.bool b.facts[k].eq,.int .i64 (m1:Int),.int .i64 (m2:Int)] tF)) aj).bz (w':=(wr.alloc (.cells #[.bool b.facts[k].eq,.int .i64 (m1:Int),.int .i64 (m2:Int)] tF)).alloc (.cells #[.bool b.facts[k].eq,.int .i64 (m1:Int),.int .i64 (m2:Int)] tF)) aj;(go_wp2_with (at_builtin;refine gN rfl _ _ rfl (v:=.slice A acc.length c) rfl rf rfl (aG.qV (ae.dA (by simp))) (by simp;omega) (by simp;omega) ?_;intro A' c' w7 lQ hg2 iB));have hP2:=Below.trans ((hP.alloc (by omega) _).alloc (by simp;omega) _) iB
       go_round
       case rel=>exact⟨k+1,acc++[⟨b.facts[k].eq,m1,m2⟩],A',c',by omega,by go_num,by simp,by show _=_;rw[HN.o],by simp;omega,lQ,hP2,by have:=iB.size;simp at this;omega⟩
       case measure=>simp[intOf];omega
      ·simp[la,lb,kb,tb] at HO;rw[kb] at f2;rw[tb] at u2;have HN:aJ ((b.facts.take (k+1)).filter (bE (K|||T))=acc):=by show _=_;rw[yL.o,HO,<-mG.o];simp
       clear HO kb tb;(go_wp2_with fail)
       go_round
       case rel=>exact⟨k+1,acc,A,c,by omega,by go_num,rfl,by show _=_;rw[HN.o],by omega,of.bz aj,hP.alloc (by omega) _,by simp;omega⟩
       case measure=>simp[intOf];omega
     ·rcases hC with lb|⟨lb,kb⟩|⟨lb,kb,tb⟩|⟨lb,kb,tb⟩
      ·simp[la,ka,lb] at HO;rw[ka] at f1;have HN:aJ ((b.facts.take (k+1)).filter (bE (K|||T))=acc++[⟨b.facts[k].eq,m1,m2⟩]):=by show _=_;rw[yL.o,HO,<-mG.o,if_pos rfl,<-Qx.o]
       clear HO ka;have rf:=(of.bz (w':=wr.alloc (.cells #[.bool b.facts[k].eq,.int .i64 (m1:Int),.int .i64 (m2:Int)] tF)) aj).bz (w':=(wr.alloc (.cells #[.bool b.facts[k].eq,.int .i64 (m1:Int),.int .i64 (m2:Int)] tF)).alloc (.cells #[.bool b.facts[k].eq,.int .i64 (m1:Int),.int .i64 (m2:Int)] tF)) aj;(go_wp2_with (at_builtin;refine gN rfl _ _ rfl (v:=.slice A acc.length c) rfl rf rfl (aG.qV (ae.dA (by simp))) (by simp;omega) (by simp;omega) ?_;intro A' c' w7 lQ hg2 iB));have hP2:=Below.trans ((hP.alloc (by omega) _).alloc (by simp;omega) _) iB
       go_round
       case rel=>exact⟨k+1,acc++[⟨b.facts[k].eq,m1,m2⟩],A',c',by omega,by go_num,by simp,by show _=_;rw[HN.o],by simp;omega,lQ,hP2,by have:=iB.size;simp at this;omega⟩
       case measure=>simp[intOf];omega
      ·simp[la,ka,lb,kb] at HO;rw[ka] at f1;rw[kb] at f2;have HN:aJ ((b.facts.take (k+1)).filter (bE (K|||T))=acc++[⟨b.facts[k].eq,m1,m2⟩]):=by show _=_;rw[yL.o,HO,<-mG.o,if_pos rfl,<-Qx.o]
       clear HO ka kb;have rf:=(of.bz (w':=wr.alloc (.cells #[.bool b.facts[k].eq,.int .i64 (m1:Int),.int .i64 (m2:Int)] tF)) aj).bz (w':=(wr.alloc (.cells #[.bool b.facts[k].eq,.int .i64 (m1:Int),.int .i64 (m2:Int)] tF)).alloc (.cells #[.bool b.facts[k].eq,.int .i64 (m1:Int),.int .i64 (m2:Int)] tF)) aj;(go_wp2_with (at_builtin;refine gN rfl _ _ rfl (v:=.slice A acc.length c) rfl rf rfl (aG.qV (ae.dA (by simp))) (by simp;omega) (by simp;omega) ?_;intro A' c' w7 lQ hg2 iB));have hP2:=Below.trans ((hP.alloc (by omega) _).alloc (by simp;omega) _) iB
       go_round
       case rel=>exact⟨k+1,acc++[⟨b.facts[k].eq,m1,m2⟩],A',c',by omega,by go_num,by simp,by show _=_;rw[HN.o],by simp;omega,lQ,hP2,by have:=iB.size;simp at this;omega⟩
       case measure=>simp[intOf];omega
      ·simp[la,ka,lb,kb,tb] at HO;rw[ka] at f1;rw[kb] at f2;rw[tb] at u2;have HN:aJ ((b.facts.take (k+1)).filter (bE (K|||T))=acc++[⟨b.facts[k].eq,m1,m2⟩]):=by show _=_;rw[yL.o,HO,<-mG.o,if_pos rfl,<-Qx.o]
       clear HO ka kb tb;have rf:=(of.bz (w':=wr.alloc (.cells #[.bool b.facts[k].eq,.int .i64 (m1:Int),.int .i64 (m2:Int)] tF)) aj).bz (w':=(wr.alloc (.cells #[.bool b.facts[k].eq,.int .i64 (m1:Int),.int .i64 (m2:Int)] tF)).alloc (.cells #[.bool b.facts[k].eq,.int .i64 (m1:Int),.int .i64 (m2:Int)] tF)) aj;(go_wp2_with (at_builtin;refine gN rfl _ _ rfl (v:=.slice A acc.length c) rfl rf rfl (aG.qV (ae.dA (by simp))) (by simp;omega) (by simp;omega) ?_;intro A' c' w7 lQ hg2 iB));have hP2:=Below.trans ((hP.alloc (by omega) _).alloc (by simp;omega) _) iB
       go_round
       case rel=>exact⟨k+1,acc++[⟨b.facts[k].eq,m1,m2⟩],A',c',by omega,by go_num,by simp,by show _=_;rw[HN.o],by simp;omega,lQ,hP2,by have:=iB.size;simp at this;omega⟩
       case measure=>simp[intOf];omega
      ·simp[la,ka,lb,kb,tb] at HO;rw[ka] at f1;rw[kb] at f2;rw[tb] at u2;have HN:aJ ((b.facts.take (k+1)).filter (bE (K|||T))=acc):=by show _=_;rw[yL.o,HO,<-mG.o];simp
       clear HO ka kb tb;(go_wp2_with fail)
       go_round
       case rel=>exact⟨k+1,acc,A,c,by omega,by go_num,rfl,by show _=_;rw[HN.o],by omega,of.bz aj,hP.alloc (by omega) _,by simp;omega⟩
       case measure=>simp[intOf];omega
     ·rcases hC with lb|⟨lb,kb⟩|⟨lb,kb,tb⟩|⟨lb,kb,tb⟩
      ·simp[la,ka,ta,lb] at HO;rw[ka] at f1;rw[ta] at u1;have HN:aJ ((b.facts.take (k+1)).filter (bE (K|||T))=acc++[⟨b.facts[k].eq,m1,m2⟩]):=by show _=_;rw[yL.o,HO,<-mG.o,if_pos rfl,<-Qx.o]
       clear HO ka ta;have rf:=(of.bz (w':=wr.alloc (.cells #[.bool b.facts[k].eq,.int .i64 (m1:Int),.int .i64 (m2:Int)] tF)) aj).bz (w':=(wr.alloc (.cells #[.bool b.facts[k].eq,.int .i64 (m1:Int),.int .i64 (m2:Int)] tF)).alloc (.cells #[.bool b.facts[k].eq,.int .i64 (m1:Int),.int .i64 (m2:Int)] tF)) aj;(go_wp2_with (at_builtin;refine gN rfl _ _ rfl (v:=.slice A acc.length c) rfl rf rfl (aG.qV (ae.dA (by simp))) (by simp;omega) (by simp;omega) ?_;intro A' c' w7 lQ hg2 iB));have hP2:=Below.trans ((hP.alloc (by omega) _).alloc (by simp;omega) _) iB
       go_round
       case rel=>exact⟨k+1,acc++[⟨b.facts[k].eq,m1,m2⟩],A',c',by omega,by go_num,by simp,by show _=_;rw[HN.o],by simp;omega,lQ,hP2,by have:=iB.size;simp at this;omega⟩
       case measure=>simp[intOf];omega
      ·simp[la,ka,ta,lb,kb] at HO;rw[ka] at f1;rw[ta] at u1;rw[kb] at f2;have HN:aJ ((b.facts.take (k+1)).filter (bE (K|||T))=acc++[⟨b.facts[k].eq,m1,m2⟩]):=by show _=_;rw[yL.o,HO,<-mG.o,if_pos rfl,<-Qx.o]
       clear HO ka ta kb;have rf:=(of.bz (w':=wr.alloc (.cells #[.bool b.facts[k].eq,.int .i64 (m1:Int),.int .i64 (m2:Int)] tF)) aj).bz (w':=(wr.alloc (.cells #[.bool b.facts[k].eq,.int .i64 (m1:Int),.int .i64 (m2:Int)] tF)).alloc (.cells #[.bool b.facts[k].eq,.int .i64 (m1:Int),.int .i64 (m2:Int)] tF)) aj;(go_wp2_with (at_builtin;refine gN rfl _ _ rfl (v:=.slice A acc.length c) rfl rf rfl (aG.qV (ae.dA (by simp))) (by simp;omega) (by simp;omega) ?_;intro A' c' w7 lQ hg2 iB));have hP2:=Below.trans ((hP.alloc (by omega) _).alloc (by simp;omega) _) iB
       go_round
       case rel=>exact⟨k+1,acc++[⟨b.facts[k].eq,m1,m2⟩],A',c',by omega,by go_num,by simp,by show _=_;rw[HN.o],by simp;omega,lQ,hP2,by have:=iB.size;simp at this;omega⟩
       case measure=>simp[intOf];omega
      ·simp[la,ka,ta,lb,kb,tb] at HO;rw[ka] at f1;rw[ta] at u1;rw[kb] at f2;rw[tb] at u2;have HN:aJ ((b.facts.take (k+1)).filter (bE (K|||T))=acc++[⟨b.facts[k].eq,m1,m2⟩]):=by show _=_;rw[yL.o,HO,<-mG.o,if_pos rfl,<-Qx.o]
       clear HO ka ta kb tb;have rf:=(of.bz (w':=wr.alloc (.cells #[.bool b.facts[k].eq,.int .i64 (m1:Int),.int .i64 (m2:Int)] tF)) aj).bz (w':=(wr.alloc (.cells #[.bool b.facts[k].eq,.int .i64 (m1:Int),.int .i64 (m2:Int)] tF)).alloc (.cells #[.bool b.facts[k].eq,.int .i64 (m1:Int),.int .i64 (m2:Int)] tF)) aj;(go_wp2_with (at_builtin;refine gN rfl _ _ rfl (v:=.slice A acc.length c) rfl rf rfl (aG.qV (ae.dA (by simp))) (by simp;omega) (by simp;omega) ?_;intro A' c' w7 lQ hg2 iB));have hP2:=Below.trans ((hP.alloc (by omega) _).alloc (by simp;omega) _) iB
       go_round
       case rel=>exact⟨k+1,acc++[⟨b.facts[k].eq,m1,m2⟩],A',c',by omega,by go_num,by simp,by show _=_;rw[HN.o],by simp;omega,lQ,hP2,by have:=iB.size;simp at this;omega⟩
       case measure=>simp[intOf];omega
      ·simp[la,ka,ta,lb,kb,tb] at HO;rw[ka] at f1;rw[ta] at u1;rw[kb] at f2;rw[tb] at u2;have HN:aJ ((b.facts.take (k+1)).filter (bE (K|||T))=acc):=by show _=_;rw[yL.o,HO,<-mG.o];simp
       clear HO ka ta kb tb;(go_wp2_with fail)
       go_round
       case rel=>exact⟨k+1,acc,A,c,by omega,by go_num,rfl,by show _=_;rw[HN.o],by omega,of.bz aj,hP.alloc (by omega) _,by simp;omega⟩
       case measure=>simp[intOf];omega
     ·simp[la,ka,ta] at HO;rw[ka] at f1;rw[ta] at u1;have HN:aJ ((b.facts.take (k+1)).filter (bE (K|||T))=acc):=by show _=_;rw[yL.o,HO,<-mG.o];simp
      clear HO ka ta;(go_wp2_with fail)
      go_round
      case rel=>exact⟨k+1,acc,A,c,by omega,by go_num,rfl,by show _=_;rw[HN.o],by omega,of.bz aj,hP.alloc (by omega) _,by simp;omega⟩
      case measure=>simp[intOf];omega
    ·obtain rfl:k=b.facts.length:=by omega
     have hacc:acc=b.facts.filter (bE (K|||T)):=by have:=mG.o;rwa [List.take_length] at this
     subst hacc;have HA:aJ (aM wr 0 wr.heap.size (.agg #[.slice A (b.facts.filter (bE (K|||T))).length c,.slice G b.atoms.length e]) ⟨b.facts.filter (bE (K|||T)),b.atoms⟩):=⟨A,c,G,e,rfl,of.dG.2.mono dJ bn,ha.tight⟩;have HVf:=ax (En wu.o (bE (K|||T)));clear mG of hf;(go_wp2_with fail);refine(vP _ ⟨b.facts.filter (bE (K|||T)),b.atoms⟩ _ HA.o HVf.o).mono ?_;rintro e w8 ⟨r,rfl,o,eQ⟩;have hwr:=hBw.size;replace hBw:=aP hBw eQ;replace k1:=k1.nz eQ;(replace fI:=k1.cell;replace nZ:=k1.frozen;replace mE:=k1.lt);rw[<-HT.o] at o;obtain⟨fv,av,rfl,Et,Mw⟩:=o;obtain⟨F4,d4,rfl,-⟩:=Et.rj;obtain⟨G4,e4,rfl,-⟩:=Mw.rj;clear eQ k2 lZ Ag xC ha;go_wp2;refine bodyPost_ret (v:=.tuple #[.agg #[.slice F4 (bL K a).facts.length d4,.slice G4 (bL K a).atoms.length e4],.bool true]) (by simp[results,Tryz.results82,go_sem,fI]) rfl ⟨_,by rw[HKE.o,E.o];rfl,?_,aj⟩;rw[HKE.o,E.o];exact⟨_,_,rfl,((Et.aA k1 (by decide) _ _).aA (k1.ag _ _) (by decide) _ _).bq hwr,((Mw.aA k1 (by decide) _ _).aA (k1.ag _ _) (by decide) _ _).bq hwr⟩
end
end Go.Proofs.YtjbboklnegfohaaGreat
