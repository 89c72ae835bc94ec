/- Tidying: the spec's TidyAssertion. -/
import Derived.Test.YtjaohekkmlkinaaGreatMaCmdIc
import Derived.Deep.LoopGhost
set_option linter.unusedSimpArgs false
set_option linter.unusedVariables false
set_option maxRecDepth 100000
set_option maxHeartbeats 25600000
namespace Go.Proofs.YtjaohekkmlkinaaGreat
section
open Go Go.RowKit Go.Proofs
attribute [local go_sem ↓] Go.wp_at_zero Go.wp_at_succ
theorem Rd.tight {w:World} {lo hi size n:Nat} {A:Option Addr} {xs:List Value} (h:Rd w lo hi size A n xs):Rd w 0 w.heap.size size A n xs:=
 ⟨⟨h.raw.1,fun hn=>by
  obtain ⟨b,o,e,_,_,hc⟩:=h.raw.2 hn;have h0:=h.raw.1
  exact ⟨b,o,e,Nat.zero_le _,block_lt_of_cell (hc 0 _ (List.getElem?_eq_getElem (by omega))),hc⟩⟩,h.lim⟩
theorem FactsV.tight {w:World} {lo hi:Nat} {A:Option Addr} {xs:List Fct} (h:FactsV w lo hi A xs):FactsV w 0 w.heap.size A xs:=Rd.tight h
theorem AtomsV.tight {w:World} {lo hi:Nat} {A:Option Addr} {xs:List Atm} (h:AtomsV w lo hi A xs):AtomsV w 0 w.heap.size A xs:=Rd.tight h
theorem AsnV.atomsOnlyS {w:World} {lo hi e:Nat} {G:Option Addr} {xs:List Atm} (h:AtomsV w lo hi G xs):AsnV w lo hi (.agg #[.slice none 0 0,.slice G xs.length e]) ⟨[],xs⟩:=⟨none,0,G,e,rfl,Rd.nil _ _ _ _ _,h⟩
def tidyB (K:Nat) (a:Asn):Option Asn:=if a.valid then some (tidyF K a) else none
theorem okFact_or (K T:Nat) (f:Fct) (m1 m2:Nat) (h1:f.a=m1) (h2:f.b=m2):okFact (K|||T) f=((decide (m1≤4) || (K.testBit m1 || T.testBit m1))&&(decide (m2≤4) || (K.testBit m2 || T.testBit m2))):=by
 unfold okFact okTerm;rw[h1,h2,Int.toNat_natCast,Int.toNat_natCast,Nat.testBit_or,Nat.testBit_or];have e1:decide ((m1:Int)≤4)=decide (m1≤4):=by rw[decide_eq_decide];omega
 have e2:decide ((m2:Int)≤4)=decide (m2≤4):=by rw[decide_eq_decide];omega
 rw[e1,e2]
theorem filter_valid {a:Asn} (h:a.valid=true) (p:Fct→Bool):(⟨a.facts.filter p,a.atoms⟩:Asn).valid=true:=by
 simp only[Asn.valid,factsValid,Bool.and_eq_true,decide_eq_true_eq] at h ⊢;refine ⟨⟨Nat.le_trans (List.length_filter_le _ _) h.1.1,?_⟩,h.2⟩;have:=h.1.2;rw[List.all_eq_true] at this ⊢;intro f hf;exact this f (List.mem_filter.1 hf).1
theorem c_spec_TidyAssertion {lo hi lo' hi':Nat} (v:Value) (a:Asn) (B:Option Addr) (c:Nat) (ks:List Int) (w:World) (h:AsnV w lo hi v a) (h':IntsV w lo' hi' B ks) :
  Calls Tryz.prog 234 #[v,.slice B ks.length c] w fun e w'=>∃ r,e=.returned (.tuple #[r,.bool (tidyB (tset ks) a).isSome])∧AsnO w' w.heap.size r ((tidyB (tset ks) a).getD ⟨[],[]⟩)∧Below w.heap.size w w':=by
 have hV:=ax h;obtain ⟨A1,c1,A2,c2,rfl,h1,h2⟩:=h;have HF:aJ (tidyB (tset ks) a=if a.valid then some (tidyF (tset ks) a) else none):=rfl;have hT:=tset_lt ks;(go_enter Tryz.func234,Tryz.ntmps234);obtain ⟨k0,k1⟩:=blk2 w 37 37 #[.slice A1 a.facts.length c1,.slice A2 a.atoms.length c2] #[.slice none 0 0,.slice none 0 0];(go_wp2_with fail);refine (vz _ a _ (hV.o.bz bel)).mono ?_;rintro e w1 ⟨rfl,hB1⟩;have hB:=bgo (w:=w) bel hB1;(replace k0:=k0.nz hB1;replace qk0:=k0.z;replace k1:=k1.nz hB1;replace qk1:=k1.cell;replace rk1:=k1.frozen;replace lk1:=k1.lt);cases hv:a.valid
 ·have E:=ax (show tidyB (tset ks) a=none by rw[HF.o,hv];rfl);clear hv;(go_wp2_with fail);refine bodyPost_ret (v:=.tuple #[.agg #[.slice none 0 0,.slice none 0 0],.bool false]) (by simp[results,Tryz.results234,go_sem,qk1]) rfl ⟨_,by rw[E.o];rfl,by rw[E.o];exact AsnO.zero _ _,bel⟩
 have E:=ax (show tidyB (tset ks) a=some (tidyF (tset ks) a) by rw[HF.o,hv];rfl);have HVa:=ax hv;clear hv hB1;(go_wp2_with fail);refine (c_spec_l10Busy B c ks _ (h'.bz hB)).mono ?_;rintro e w2 ⟨r,rfl,oB,hB2⟩;generalize hKe:tset ks=K at hT E oB HF;have HKE:=ax hKe;clear hKe;(replace hB:=bgo hB hB2;replace k0:=k0.nz hB2;replace qk0:=k0.z;replace k1:=k1.nz hB2;replace qk1:=k1.cell;replace rk1:=k1.frozen;replace lk1:=k1.lt);obtain ⟨Bb,cb,rfl,fB⟩:=oB.rj;rw[zjB];obtain ⟨pb,ob,rfl,lpb⟩:=flags_addr fB;have hw2:w.heap.size+1<w2.heap.size:=lk1;have hf0:=h1.tight.bz hB;have ha0:=h2.tight.bz hB;clear hB2 oB HF hV h1 h2;(go_wp2_with fail);have k2:=Blk.new w2 37 #[.slice A1 a.facts.length c1,.slice A2 a.atoms.length c2];have HA0:aJ (AsnV w2 0 w.heap.size (.agg #[.slice A1 a.facts.length c1,.slice A2 a.atoms.length c2]) a):=⟨_,_,_,_,rfl,hf0,ha0⟩;refine (c_spec_l10Known _ a _ _ K _ (HA0.o.bz bel) (fB.bz bel) HVa.o).mono ?_;rintro e w3 ⟨rfl,hB3⟩;have hB3':=bgo (w:=w2) bel hB3;replace k2:=k2.nz hB3;(replace hB:=bgo hB hB3';replace k1:=k1.nz hB3';replace qk1:=k1.cell;replace rk1:=k1.frozen;replace lk1:=k1.lt;replace hf0:=hf0.bz hB3';replace ha0:=ha0.bz hB3');replace fB:=(fB.bz hB3').mono (Nat.zero_le _) (Nat.le_refl _);obtain ⟨po,hpo⟩:∃ p,p=w2.heap.size:=⟨_,rfl⟩;rw[←hpo] at k2 lpb fB hw2 ⊢;clear hpo hB3 hB3' HA0;(replace qk2:=k2.cell;replace rk2:=k2.frozen;replace lk2:=k2.lt);have HL0:=ax (Nat.le_refl (left K a).length);have hlw:w.heap.size≤po:=by omega
 go_wp2_with fail
 go_loopg [8,9,10] (left K a).length (fun g s8 s9 s10 wr=>∃ (b:Asn) (F G:Option Addr) (d e l hh:Nat),s8=.int .i64 ((subStep K b.facts).getD (0,0)).1∧s9=.int .i64 ((subStep K b.facts).getD (0,0)).2∧s10=.bool (subStep K b.facts).isSome∧
  aJ ((left K b).length≤g)∧aJ (b.valid=true)∧aJ (subAll K a=subAll K b)∧FactsV wr l hh F b.facts∧AtomsV wr l hh G b.atoms∧aJ (hh≤po∨po<l)∧BoolsV wr 0 po (some ⟨pb,ob,none⟩) (zj K)∧
  Blk wr (w.heap.size+1) 37 #[.slice none 0 0,.slice none 0 0]∧Blk wr po 37 #[.slice F b.facts.length d,.slice G b.atoms.length e]∧Below w.heap.size w wr)
 case atStart=>exact ⟨a,A1,A2,c1,c2,0,w.heap.size,rfl,rfl,rfl,HL0.o,HVa.o,rfl,hf0,ha0,Or.inl hlw,fB,k1,k2,hB⟩
 case round=>
  clear k0 qk0 k1 qk1 rk1 lk1 k2 qk2 rk2 lk2 hf0 ha0 fB hB HL0;obtain ⟨b,F,G,d,e,l,hh,rfl,rfl,rfl,HL,HVb,HS,hf,ha,HD,fB,k1,k2,hB⟩:=hrel;(replace qk1:=k1.cell;replace rk1:=k1.frozen;replace lk1:=k1.lt;replace qk2:=k2.cell;replace rk2:=k2.frozen;replace lk2:=k2.lt);have HA:aJ (AsnV wr l hh (.agg #[.slice F b.facts.length d,.slice G b.atoms.length e]) b):=⟨_,_,_,_,rfl,hf,ha⟩
  cases hs:subStep K b.facts with
  | some p=>
   obtain ⟨x,t⟩:=p;have hlt:=ax (left_lt hs)
   have HT:aJ ((substA x t b).valid=true):=by
    obtain ⟨f,hf,hq⟩:=List.exists_of_findSome?_eq_some hs;have hvb:=HVb.o
    have hfv:f.valid=true:=by
     simp only[Asn.valid,factsValid,Bool.and_eq_true] at hvb;exact List.all_eq_true.1 hvb.1.2 f hf
    simp only[Fct.valid,Bool.and_eq_true] at hfv;refine sub_valid HVb.o ?_;rcases (subOf_spec hq).2.2 with ⟨_,e⟩|⟨_,e⟩
    ·rw[e];exact hfv.2
    ·rw[e];exact hfv.1
   have HSS:=ax (subAll_some hs);simp only[Option.getD_some,Option.isSome_some];clear hs;(go_wp2_with fail);refine (c_spec_l3Subst _ b x t _ HA.o).mono ?_;rintro e w4 ⟨r,rfl,o,hB4⟩;have hz4:=lk2;(replace hB:=bgo hB hB4;replace k1:=k1.nz hB4;replace qk1:=k1.cell;replace rk1:=k1.frozen;replace lk1:=k1.lt;replace k2:=k2.nz hB4;replace qk2:=k2.cell;replace rk2:=k2.frozen;replace lk2:=k2.lt;replace fB:=fB.bz hB4);obtain ⟨fv,av,rfl,of4,oa4⟩:=o;obtain ⟨F4,d4,rfl,hf4⟩:=of4.rj;obtain ⟨G4,e4,rfl,ha4⟩:=oa4.rj;clear hB4 hf ha HA of4 oa4;(go_wp2_with fail);have k5:=(k2.set_ 0 (.slice F4 (substA x t b).facts.length d4)).set_ 1 (.slice G4 (substA x t b).atoms.length e4);replace hf4:FactsV _ _ _ _ _:=Rd.setb (Rd.setb hf4 (p:=⟨po,0,none⟩) (Or.inl hz4) (.slice F4 (substA x t b).facts.length d4)) (p:=⟨po,1,none⟩) (Or.inl hz4) (.slice G4 (substA x t b).atoms.length e4);replace ha4:AtomsV _ _ _ _ _:=Rd.setb (Rd.setb ha4 (p:=⟨po,0,none⟩) (Or.inl hz4) (.slice F4 (substA x t b).facts.length d4)) (p:=⟨po,1,none⟩) (Or.inl hz4) (.slice G4 (substA x t b).atoms.length e4);replace fB:BoolsV _ _ _ _ _:=Rd.setb (Rd.setb fB (p:=⟨po,0,none⟩) (Or.inr (Nat.le_refl _)) (.slice F4 (substA x t b).facts.length d4)) (p:=⟨po,1,none⟩) (Or.inr (Nat.le_refl _)) (.slice G4 (substA x t b).atoms.length e4);replace k1:=(k1.far (p:=⟨po,0,none⟩) (by simp only[];omega) (.slice F4 (substA x t b).facts.length d4)).far (p:=⟨po,1,none⟩) (by simp only[];omega) (.slice G4 (substA x t b).atoms.length e4);replace hB:=(hB.setCell (p:=⟨po,0,none⟩) (by simp only[];omega) (.slice F4 (substA x t b).facts.length d4)).setCell (p:=⟨po,1,none⟩) (by simp only[];omega) (.slice G4 (substA x t b).atoms.length e4);clear k2 qk1 rk1 lk1 qk2 rk2 lk2;generalize ((w4.setCell ⟨po,0,none⟩ (.slice F4 (substA x t b).facts.length d4)).setCell ⟨po,1,none⟩ (.slice G4 (substA x t b).atoms.length e4))=V5 at k5 hf4 ha4 fB k1 hB ⊢;refine (c_spec_l10Known _ (substA x t b) _ _ K _ ⟨F4,d4,G4,e4,rfl,hf4,ha4⟩ fB HT.o).mono ?_;rintro e w5 ⟨rfl,hB5⟩;(replace hB:=bgo hB hB5;replace k1:=k1.nz hB5;replace k5:=k5.nz hB5;replace fB:=fB.bz hB5;replace hf4:=hf4.bz hB5;replace ha4:=ha4.bz hB5);clear hB5;(go_wp2_with fail)
   go_roundg (left K (substA x t b)).length
   case rel=>exact ⟨substA x t b,F4,G4,d4,e4,_,_,rfl,rfl,rfl,Nat.le_refl _,HT.o,by show _=_;rw[HS.o,HSS.o],hf4,ha4,Or.inr hz4,fB,k1,by simpa using k5,hB⟩
   case measure=>have:=HL.o;have:=hlt.o;omega
  | none=>
   have HSS:=ax (subAll_none hs)
   have HT:aJ (tidyF K a=normalF ⟨b.facts.filter (okFact (K|||tset (mz ⟨[],b.atoms⟩))),b.atoms⟩):=by
    show _=_;unfold tidyF;rw[HS.o,HSS.o]
   simp only[Option.getD_none,Option.isSome_none];clear hs HS HSS HL HA;have HA:=ax (AsnV.atomsOnlyS (e:=e) ha)
   have HW:aJ (∀ t∈mz ⟨[],b.atoms⟩,jq t=true):=by
    intro t ht;refine termsL_ok HVb.o t ?_;simp only[mz,List.mem_append] at ht ⊢;rcases ht with ht|ht
    ·cases ht
    ·exact Or.inr ht
   (go_wp2_with fail);refine (c_spec_l3Terms _ ⟨[],b.atoms⟩ _ HA.o HW.o).mono ?_;rintro e w4 ⟨r,rfl,oU,hB4⟩;have hwr4:=lk2;(replace hB:=bgo hB hB4;replace k1:=k1.nz hB4;replace qk1:=k1.cell;replace rk1:=k1.frozen;replace lk1:=k1.lt;replace k2:=k2.nz hB4;replace qk2:=k2.cell;replace rk2:=k2.frozen;replace lk2:=k2.lt;replace fB:=fB.bz hB4;replace hf:=hf.bz hB4;replace ha:=ha.bz hB4);generalize tset (mz ⟨[],b.atoms⟩)=T at oU HT;obtain ⟨Ub,cu,rfl,fU⟩:=oU.rj;rw[zjB];obtain ⟨pu,ou,rfl,lpu⟩:=flags_addr fU;clear hB4 HA HW oU;have hlb:b.facts.length≤1049600:=hf.le;(go_wp2_with fail);have hf4:=hf.tight;have ha4:=ha.tight;have of0:=FactsO.empty w4;replace hf:=hf4.bz (w':=w4.alloc (.cells #[] tF)) bel;replace ha:=ha4.bz (w':=w4.alloc (.cells #[] tF)) bel;replace fB:=fB.bz (w':=w4.alloc (.cells #[] tF)) bel;replace fU:=(fU.bz (w':=w4.alloc (.cells #[] tF)) bel).mono (Nat.zero_le _) (Nat.le_refl _);replace k1:=k1.alloc (.cells #[] tF);replace k2:=k2.alloc (.cells #[] tF);replace hB:=bbox hB (.cells #[] tF);have lV:w4.heap.size<(w4.alloc (.cells #[] tF)).heap.size:=by simp
   generalize (w4.alloc (.cells #[] tF))=V6 at of0 hf ha fB fU k1 k2 hB lV ⊢;clear qk1 rk1 qk2 rk2 hf4 ha4;obtain ⟨pr,hpr⟩:∃ p,p=w4.heap.size:=⟨_,rfl⟩;rw[←hpr] at of0 hf ha fU lk1 lk2 lV lpu ⊢;clear hpr
   go_loopw [12,13] (fun s12 i wr=>∃ (k:Nat) (acc:List Fct) (A:Option Addr) (c:Nat),k≤b.facts.length∧i=.int .i64 k∧s12=.slice A acc.length c∧aJ (acc=(b.facts.take k).filter (okFact (K|||T)))∧acc.length≤k∧FactsO wr pr (.slice A acc.length c) acc∧Below pr V6 wr∧pr<wr.heap.size) (fun _ i _=>b.facts.length - (intOf i).toNat)
   case atStart=>exact ⟨0,[],some ⟨pr,0,none⟩,0,Nat.zero_le _,rfl,rfl,by simp[aJ],Nat.le_refl _,of0,Below.refl _ _,lV⟩
   case round=>
    clear of0;obtain ⟨k,acc,A,c,hk,rfl,rfl,HACC,hal,of,hP,lwr⟩:=hrel;replace k1:=k1.bz hP (by omega);replace k2:=k2.bz hP (by omega);replace hf:=hf.keepB hP (Nat.le_refl _);replace ha:=ha.keepB hP (Nat.le_refl _);replace fB:=fB.keepB hP (by omega);replace fU:=fU.keepB hP (Nat.le_refl _);have hBw:=hB.trans (hP.mono (by omega));(replace qk1:=k1.cell;replace rk1:=k1.frozen;replace lk1:=k1.lt;replace qk2:=k2.cell;replace rk2:=k2.frozen;replace lk2:=k2.lt);by_cases hlt:k<b.facts.length
    ·obtain ⟨b2,o2,rfl,hb2⟩:=hf.blt hlt;obtain ⟨g0,g1,g2⟩:=hf.cl hlt;have HFT:=ax (filter_take (okFact (K|||T)) b.facts k hlt)
     have hfv:b.facts[k].valid=true:=by
      have hvb:=HVb.o;simp only[Asn.valid,factsValid,Bool.and_eq_true] at hvb;exact List.all_eq_true.1 hvb.1.2 _ (List.getElem_mem hlt)
     simp only[Fct.valid,Bool.and_eq_true] at hfv;have b1:=zjA.1 hfv.1;have b2':=zjA.1 hfv.2;obtain ⟨m1,e1⟩:=Int.eq_ofNat_of_zero_le b1.1;obtain ⟨m2,e2⟩:=Int.eq_ofNat_of_zero_le b2'.1;have HO:=okFact_or K T b.facts[k] m1 m2 e1 e2;have hfe:b.facts[k]=⟨b.facts[k].eq,m1,m2⟩:=by rw[Fct.eq_iff];exact ⟨rfl,e1,e2⟩
     have HFE:=ax hfe;rw[e1] at g1;rw[e2] at g2;have m18:(m1:Int)<9:=by omega
     have m28:(m2:Int)<9:=by omega
     have f1:=flags_at fB (m:=m1) (by omega);have f2:=flags_at fB (m:=m2) (by omega);have u1:=flags_at fU (m:=m1) (by omega);have u2:=flags_at fU (m:=m2) (by omega);have lpb2:pb<wr.heap.size:=by omega
     have lpu2:pu<wr.heap.size:=by omega
     clear hfv b1 b2' hfe e1 e2
     have hA:(m1≤4)∨(¬m1≤4∧K.testBit m1=true)∨(¬m1≤4∧K.testBit m1=false∧T.testBit m1=true)∨(¬m1≤4∧K.testBit m1=false∧T.testBit m1=false):=by
      by_cases h:m1≤4<;>cases K.testBit m1<;>cases T.testBit m1<;>simp[h]
     have hC:(m2≤4)∨(¬m2≤4∧K.testBit m2=true)∨(¬m2≤4∧K.testBit m2=false∧T.testBit m2=true)∨(¬m2≤4∧K.testBit m2=false∧T.testBit m2=false):=by
      by_cases h:m2≤4<;>cases K.testBit m2<;>cases T.testBit m2<;>simp[h]
     rcases hA with la|⟨la,ka⟩|⟨la,ka,ta⟩|⟨la,ka,ta⟩
     ·rcases hC with lb|⟨lb,kb⟩|⟨lb,kb,tb⟩|⟨lb,kb,tb⟩
      ·simp[la,lb] at HO;have HN:aJ ((b.facts.take (k+1)).filter (okFact (K|||T))=acc++[⟨b.facts[k].eq,m1,m2⟩]):=by show _=_;rw[HFT.o,HO,←HACC.o,if_pos rfl,←HFE.o]
       clear HO;have of1:=(of.bz (w':=wr.alloc (.cells #[.bool b.facts[k].eq,.int .i64 (m1:Int),.int .i64 (m2:Int)] tF)) bel).bz (w':=(wr.alloc (.cells #[.bool b.facts[k].eq,.int .i64 (m1:Int),.int .i64 (m2:Int)] tF)).alloc (.cells #[.bool b.facts[k].eq,.int .i64 (m1:Int),.int .i64 (m2:Int)] tF)) bel;(go_wp2_with (at_builtin;refine appFL rfl _ _ rfl (v:=.slice A acc.length c) rfl of1 rfl (FactsV.one' (Blk.newE (by simp))) (by simp;omega) (by simp;omega) ?_;intro A' c' w7 of2 hg2 hB7));have hP2:=Below.trans ((hP.alloc (by omega) _).alloc (by simp;omega) _) hB7
       go_round
       case rel=>exact ⟨k+1,acc++[⟨b.facts[k].eq,m1,m2⟩],A',c',by omega,by go_num,by simp,by show _=_;rw[HN.o],by simp;omega,of2,hP2,by have:=hB7.size;simp at this;omega⟩
       case measure=>simp[intOf];omega
      ·simp[la,lb,kb] at HO;rw[kb] at f2;have HN:aJ ((b.facts.take (k+1)).filter (okFact (K|||T))=acc++[⟨b.facts[k].eq,m1,m2⟩]):=by show _=_;rw[HFT.o,HO,←HACC.o,if_pos rfl,←HFE.o]
       clear HO kb;have of1:=(of.bz (w':=wr.alloc (.cells #[.bool b.facts[k].eq,.int .i64 (m1:Int),.int .i64 (m2:Int)] tF)) bel).bz (w':=(wr.alloc (.cells #[.bool b.facts[k].eq,.int .i64 (m1:Int),.int .i64 (m2:Int)] tF)).alloc (.cells #[.bool b.facts[k].eq,.int .i64 (m1:Int),.int .i64 (m2:Int)] tF)) bel;(go_wp2_with (at_builtin;refine appFL rfl _ _ rfl (v:=.slice A acc.length c) rfl of1 rfl (FactsV.one' (Blk.newE (by simp))) (by simp;omega) (by simp;omega) ?_;intro A' c' w7 of2 hg2 hB7));have hP2:=Below.trans ((hP.alloc (by omega) _).alloc (by simp;omega) _) hB7
       go_round
       case rel=>exact ⟨k+1,acc++[⟨b.facts[k].eq,m1,m2⟩],A',c',by omega,by go_num,by simp,by show _=_;rw[HN.o],by simp;omega,of2,hP2,by have:=hB7.size;simp at this;omega⟩
       case measure=>simp[intOf];omega
      ·simp[la,lb,kb,tb] at HO;rw[kb] at f2;rw[tb] at u2;have HN:aJ ((b.facts.take (k+1)).filter (okFact (K|||T))=acc++[⟨b.facts[k].eq,m1,m2⟩]):=by show _=_;rw[HFT.o,HO,←HACC.o,if_pos rfl,←HFE.o]
       clear HO kb tb;have of1:=(of.bz (w':=wr.alloc (.cells #[.bool b.facts[k].eq,.int .i64 (m1:Int),.int .i64 (m2:Int)] tF)) bel).bz (w':=(wr.alloc (.cells #[.bool b.facts[k].eq,.int .i64 (m1:Int),.int .i64 (m2:Int)] tF)).alloc (.cells #[.bool b.facts[k].eq,.int .i64 (m1:Int),.int .i64 (m2:Int)] tF)) bel;(go_wp2_with (at_builtin;refine appFL rfl _ _ rfl (v:=.slice A acc.length c) rfl of1 rfl (FactsV.one' (Blk.newE (by simp))) (by simp;omega) (by simp;omega) ?_;intro A' c' w7 of2 hg2 hB7));have hP2:=Below.trans ((hP.alloc (by omega) _).alloc (by simp;omega) _) hB7
       go_round
       case rel=>exact ⟨k+1,acc++[⟨b.facts[k].eq,m1,m2⟩],A',c',by omega,by go_num,by simp,by show _=_;rw[HN.o],by simp;omega,of2,hP2,by have:=hB7.size;simp at this;omega⟩
       case measure=>simp[intOf];omega
      ·simp[la,lb,kb,tb] at HO;rw[kb] at f2;rw[tb] at u2;have HN:aJ ((b.facts.take (k+1)).filter (okFact (K|||T))=acc):=by show _=_;rw[HFT.o,HO,←HACC.o];simp
       clear HO kb tb;(go_wp2_with fail)
       go_round
       case rel=>exact ⟨k+1,acc,A,c,by omega,by go_num,rfl,by show _=_;rw[HN.o],by omega,of.bz bel,hP.alloc (by omega) _,by simp;omega⟩
       case measure=>simp[intOf];omega
     ·rcases hC with lb|⟨lb,kb⟩|⟨lb,kb,tb⟩|⟨lb,kb,tb⟩
      ·simp[la,ka,lb] at HO;rw[ka] at f1;have HN:aJ ((b.facts.take (k+1)).filter (okFact (K|||T))=acc++[⟨b.facts[k].eq,m1,m2⟩]):=by show _=_;rw[HFT.o,HO,←HACC.o,if_pos rfl,←HFE.o]
       clear HO ka;have of1:=(of.bz (w':=wr.alloc (.cells #[.bool b.facts[k].eq,.int .i64 (m1:Int),.int .i64 (m2:Int)] tF)) bel).bz (w':=(wr.alloc (.cells #[.bool b.facts[k].eq,.int .i64 (m1:Int),.int .i64 (m2:Int)] tF)).alloc (.cells #[.bool b.facts[k].eq,.int .i64 (m1:Int),.int .i64 (m2:Int)] tF)) bel;(go_wp2_with (at_builtin;refine appFL rfl _ _ rfl (v:=.slice A acc.length c) rfl of1 rfl (FactsV.one' (Blk.newE (by simp))) (by simp;omega) (by simp;omega) ?_;intro A' c' w7 of2 hg2 hB7));have hP2:=Below.trans ((hP.alloc (by omega) _).alloc (by simp;omega) _) hB7
       go_round
       case rel=>exact ⟨k+1,acc++[⟨b.facts[k].eq,m1,m2⟩],A',c',by omega,by go_num,by simp,by show _=_;rw[HN.o],by simp;omega,of2,hP2,by have:=hB7.size;simp at this;omega⟩
       case measure=>simp[intOf];omega
      ·simp[la,ka,lb,kb] at HO;rw[ka] at f1;rw[kb] at f2;have HN:aJ ((b.facts.take (k+1)).filter (okFact (K|||T))=acc++[⟨b.facts[k].eq,m1,m2⟩]):=by show _=_;rw[HFT.o,HO,←HACC.o,if_pos rfl,←HFE.o]
       clear HO ka kb;have of1:=(of.bz (w':=wr.alloc (.cells #[.bool b.facts[k].eq,.int .i64 (m1:Int),.int .i64 (m2:Int)] tF)) bel).bz (w':=(wr.alloc (.cells #[.bool b.facts[k].eq,.int .i64 (m1:Int),.int .i64 (m2:Int)] tF)).alloc (.cells #[.bool b.facts[k].eq,.int .i64 (m1:Int),.int .i64 (m2:Int)] tF)) bel;(go_wp2_with (at_builtin;refine appFL rfl _ _ rfl (v:=.slice A acc.length c) rfl of1 rfl (FactsV.one' (Blk.newE (by simp))) (by simp;omega) (by simp;omega) ?_;intro A' c' w7 of2 hg2 hB7));have hP2:=Below.trans ((hP.alloc (by omega) _).alloc (by simp;omega) _) hB7
       go_round
       case rel=>exact ⟨k+1,acc++[⟨b.facts[k].eq,m1,m2⟩],A',c',by omega,by go_num,by simp,by show _=_;rw[HN.o],by simp;omega,of2,hP2,by have:=hB7.size;simp at this;omega⟩
       case measure=>simp[intOf];omega
      ·simp[la,ka,lb,kb,tb] at HO;rw[ka] at f1;rw[kb] at f2;rw[tb] at u2;have HN:aJ ((b.facts.take (k+1)).filter (okFact (K|||T))=acc++[⟨b.facts[k].eq,m1,m2⟩]):=by show _=_;rw[HFT.o,HO,←HACC.o,if_pos rfl,←HFE.o]
       clear HO ka kb tb;have of1:=(of.bz (w':=wr.alloc (.cells #[.bool b.facts[k].eq,.int .i64 (m1:Int),.int .i64 (m2:Int)] tF)) bel).bz (w':=(wr.alloc (.cells #[.bool b.facts[k].eq,.int .i64 (m1:Int),.int .i64 (m2:Int)] tF)).alloc (.cells #[.bool b.facts[k].eq,.int .i64 (m1:Int),.int .i64 (m2:Int)] tF)) bel;(go_wp2_with (at_builtin;refine appFL rfl _ _ rfl (v:=.slice A acc.length c) rfl of1 rfl (FactsV.one' (Blk.newE (by simp))) (by simp;omega) (by simp;omega) ?_;intro A' c' w7 of2 hg2 hB7));have hP2:=Below.trans ((hP.alloc (by omega) _).alloc (by simp;omega) _) hB7
       go_round
       case rel=>exact ⟨k+1,acc++[⟨b.facts[k].eq,m1,m2⟩],A',c',by omega,by go_num,by simp,by show _=_;rw[HN.o],by simp;omega,of2,hP2,by have:=hB7.size;simp at this;omega⟩
       case measure=>simp[intOf];omega
      ·simp[la,ka,lb,kb,tb] at HO;rw[ka] at f1;rw[kb] at f2;rw[tb] at u2;have HN:aJ ((b.facts.take (k+1)).filter (okFact (K|||T))=acc):=by show _=_;rw[HFT.o,HO,←HACC.o];simp
       clear HO ka kb tb;(go_wp2_with fail)
       go_round
       case rel=>exact ⟨k+1,acc,A,c,by omega,by go_num,rfl,by show _=_;rw[HN.o],by omega,of.bz bel,hP.alloc (by omega) _,by simp;omega⟩
       case measure=>simp[intOf];omega
     ·rcases hC with lb|⟨lb,kb⟩|⟨lb,kb,tb⟩|⟨lb,kb,tb⟩
      ·simp[la,ka,ta,lb] at HO;rw[ka] at f1;rw[ta] at u1;have HN:aJ ((b.facts.take (k+1)).filter (okFact (K|||T))=acc++[⟨b.facts[k].eq,m1,m2⟩]):=by show _=_;rw[HFT.o,HO,←HACC.o,if_pos rfl,←HFE.o]
       clear HO ka ta;have of1:=(of.bz (w':=wr.alloc (.cells #[.bool b.facts[k].eq,.int .i64 (m1:Int),.int .i64 (m2:Int)] tF)) bel).bz (w':=(wr.alloc (.cells #[.bool b.facts[k].eq,.int .i64 (m1:Int),.int .i64 (m2:Int)] tF)).alloc (.cells #[.bool b.facts[k].eq,.int .i64 (m1:Int),.int .i64 (m2:Int)] tF)) bel;(go_wp2_with (at_builtin;refine appFL rfl _ _ rfl (v:=.slice A acc.length c) rfl of1 rfl (FactsV.one' (Blk.newE (by simp))) (by simp;omega) (by simp;omega) ?_;intro A' c' w7 of2 hg2 hB7));have hP2:=Below.trans ((hP.alloc (by omega) _).alloc (by simp;omega) _) hB7
       go_round
       case rel=>exact ⟨k+1,acc++[⟨b.facts[k].eq,m1,m2⟩],A',c',by omega,by go_num,by simp,by show _=_;rw[HN.o],by simp;omega,of2,hP2,by have:=hB7.size;simp at this;omega⟩
       case measure=>simp[intOf];omega
      ·simp[la,ka,ta,lb,kb] at HO;rw[ka] at f1;rw[ta] at u1;rw[kb] at f2;have HN:aJ ((b.facts.take (k+1)).filter (okFact (K|||T))=acc++[⟨b.facts[k].eq,m1,m2⟩]):=by show _=_;rw[HFT.o,HO,←HACC.o,if_pos rfl,←HFE.o]
       clear HO ka ta kb;have of1:=(of.bz (w':=wr.alloc (.cells #[.bool b.facts[k].eq,.int .i64 (m1:Int),.int .i64 (m2:Int)] tF)) bel).bz (w':=(wr.alloc (.cells #[.bool b.facts[k].eq,.int .i64 (m1:Int),.int .i64 (m2:Int)] tF)).alloc (.cells #[.bool b.facts[k].eq,.int .i64 (m1:Int),.int .i64 (m2:Int)] tF)) bel;(go_wp2_with (at_builtin;refine appFL rfl _ _ rfl (v:=.slice A acc.length c) rfl of1 rfl (FactsV.one' (Blk.newE (by simp))) (by simp;omega) (by simp;omega) ?_;intro A' c' w7 of2 hg2 hB7));have hP2:=Below.trans ((hP.alloc (by omega) _).alloc (by simp;omega) _) hB7
       go_round
       case rel=>exact ⟨k+1,acc++[⟨b.facts[k].eq,m1,m2⟩],A',c',by omega,by go_num,by simp,by show _=_;rw[HN.o],by simp;omega,of2,hP2,by have:=hB7.size;simp at this;omega⟩
       case measure=>simp[intOf];omega
      ·simp[la,ka,ta,lb,kb,tb] at HO;rw[ka] at f1;rw[ta] at u1;rw[kb] at f2;rw[tb] at u2;have HN:aJ ((b.facts.take (k+1)).filter (okFact (K|||T))=acc++[⟨b.facts[k].eq,m1,m2⟩]):=by show _=_;rw[HFT.o,HO,←HACC.o,if_pos rfl,←HFE.o]
       clear HO ka ta kb tb;have of1:=(of.bz (w':=wr.alloc (.cells #[.bool b.facts[k].eq,.int .i64 (m1:Int),.int .i64 (m2:Int)] tF)) bel).bz (w':=(wr.alloc (.cells #[.bool b.facts[k].eq,.int .i64 (m1:Int),.int .i64 (m2:Int)] tF)).alloc (.cells #[.bool b.facts[k].eq,.int .i64 (m1:Int),.int .i64 (m2:Int)] tF)) bel;(go_wp2_with (at_builtin;refine appFL rfl _ _ rfl (v:=.slice A acc.length c) rfl of1 rfl (FactsV.one' (Blk.newE (by simp))) (by simp;omega) (by simp;omega) ?_;intro A' c' w7 of2 hg2 hB7));have hP2:=Below.trans ((hP.alloc (by omega) _).alloc (by simp;omega) _) hB7
       go_round
       case rel=>exact ⟨k+1,acc++[⟨b.facts[k].eq,m1,m2⟩],A',c',by omega,by go_num,by simp,by show _=_;rw[HN.o],by simp;omega,of2,hP2,by have:=hB7.size;simp at this;omega⟩
       case measure=>simp[intOf];omega
      ·simp[la,ka,ta,lb,kb,tb] at HO;rw[ka] at f1;rw[ta] at u1;rw[kb] at f2;rw[tb] at u2;have HN:aJ ((b.facts.take (k+1)).filter (okFact (K|||T))=acc):=by show _=_;rw[HFT.o,HO,←HACC.o];simp
       clear HO ka ta kb tb;(go_wp2_with fail)
       go_round
       case rel=>exact ⟨k+1,acc,A,c,by omega,by go_num,rfl,by show _=_;rw[HN.o],by omega,of.bz bel,hP.alloc (by omega) _,by simp;omega⟩
       case measure=>simp[intOf];omega
     ·simp[la,ka,ta] at HO;rw[ka] at f1;rw[ta] at u1;have HN:aJ ((b.facts.take (k+1)).filter (okFact (K|||T))=acc):=by show _=_;rw[HFT.o,HO,←HACC.o];simp
      clear HO ka ta;(go_wp2_with fail)
      go_round
      case rel=>exact ⟨k+1,acc,A,c,by omega,by go_num,rfl,by show _=_;rw[HN.o],by omega,of.bz bel,hP.alloc (by omega) _,by simp;omega⟩
      case measure=>simp[intOf];omega
    ·obtain rfl:k=b.facts.length:=by omega
     have hacc:acc=b.facts.filter (okFact (K|||T)):=by have:=HACC.o;rwa [List.take_length] at this
     subst hacc;have HA:aJ (AsnV wr 0 wr.heap.size (.agg #[.slice A (b.facts.filter (okFact (K|||T))).length c,.slice G b.atoms.length e]) ⟨b.facts.filter (okFact (K|||T)),b.atoms⟩):=⟨A,c,G,e,rfl,of.readsI.2.mono (Nat.zero_le _) (Nat.le_refl _),ha.tight⟩;have HVf:=ax (filter_valid HVb.o (okFact (K|||T)));clear HACC of hf;(go_wp2_with fail);refine (c_spec_NormalForm _ ⟨b.facts.filter (okFact (K|||T)),b.atoms⟩ _ HA.o HVf.o).mono ?_;rintro e w8 ⟨r,rfl,o,hB8⟩;have hwr:=hBw.size;replace hBw:=bgo hBw hB8;replace k1:=k1.nz hB8;(replace qk1:=k1.cell;replace rk1:=k1.frozen;replace lk1:=k1.lt);rw[←HT.o] at o;obtain ⟨fv,av,rfl,of4,oa4⟩:=o;obtain ⟨F4,d4,rfl,-⟩:=of4.rj;obtain ⟨G4,e4,rfl,-⟩:=oa4.rj;clear hB8 k2 qk2 rk2 lk2 ha;(go_wp2_with fail);refine bodyPost_ret (v:=.tuple #[.agg #[.slice F4 (tidyF K a).facts.length d4,.slice G4 (tidyF K a).atoms.length e4],.bool true]) (by simp[results,Tryz.results234,go_sem,qk1]) rfl ⟨_,by rw[HKE.o,E.o];rfl,?_,bel⟩;rw[HKE.o,E.o];exact ⟨_,_,rfl,((of4.setT k1 (by decide) _ _).setT (k1.set_ _ _) (by decide) _ _).bq hwr,((oa4.setT k1 (by decide) _ _).setT (k1.set_ _ _) (by decide) _ _).bq hwr⟩
end
end Go.Proofs.YtjaohekkmlkinaaGreat
