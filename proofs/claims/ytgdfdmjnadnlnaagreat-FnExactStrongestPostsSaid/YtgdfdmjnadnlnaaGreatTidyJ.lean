/- Tidying: impl's tidy and TidyAssertion. -/
import Derived.Test.YtgdfdmjnadnlnaaGreatMLogP
import Derived.Test.YtgdfdmjnadnlnaaGreatNorm
import Derived.Deep.LoopGhost
set_option linter.unusedSimpArgs false
set_option linter.unusedVariables false
set_option maxRecDepth 100000
set_option maxHeartbeats 25600000
namespace Go.Proofs.YtgdfdmjnadnlnaaGreat
section
open Go Go.RowKit Go.Proofs
attribute [local go_sem ↓] Go.wp_at_zero Go.wp_at_succ
theorem u16_andNot_nat (a b:Nat) (ha:a<65536) (hb:b<65536):(bits .andNot .u16 (a:Int) (b:Int) == 0)=true↔∀ n,a.testBit n=true→b.testBit n=true:=by
 have e:bits .andNot .u16 (a:Int) (b:Int)=(((BitVec.ofInt 16 (a:Int) &&& ~~~ BitVec.ofInt 16 (b:Int)).toNat:Nat):Int):=by
  show IntKind.u16.wrap ((BitVec.ofInt 16 (a:Int) &&& ~~~ BitVec.ofInt 16 (b:Int)).toNat:Int)=_;exact wrap_u16 _ (BitVec.isLt _)
 rw[e]
 have hx:∀ n,(BitVec.ofInt 16 (a:Int) &&& ~~~ BitVec.ofInt 16 (b:Int)).toNat.testBit n=(a.testBit n&&(decide (n<16) && !b.testBit n)):=by
  intro n;rw[BitVec.testBit_toNat,BitVec.getLsbD_and,BitVec.getLsbD_not,←BitVec.testBit_toNat,←BitVec.testBit_toNat,ofInt_u16 a ha,ofInt_u16 b hb]
 have hlt:∀ n,a.testBit n=true→n<16:=by
  intro n hn;rcases Nat.lt_or_ge n 16 with h|h
  ·exact h
  ·have:=Nat.testBit_lt_two_pow (Nat.lt_of_lt_of_le ha (Nat.pow_le_pow_right (n:=2) (by omega) h));rw[this] at hn;cases hn
 simp only[beq_iff_eq];constructor
 ·intro h n hn;have hz:(BitVec.ofInt 16 (a:Int) &&& ~~~ BitVec.ofInt 16 (b:Int)).toNat=0:=by omega
  have:=hx n;rw[hz,Nat.zero_testBit,hn] at this;have hl:=hlt n hn;simp[hl] at this;exact this
 ·intro h
  have:(BitVec.ofInt 16 (a:Int) &&& ~~~ BitVec.ofInt 16 (b:Int)).toNat=0:=by
   apply Nat.eq_of_testBit_eq;intro n;rw[hx,Nat.zero_testBit];cases hn:a.testBit n
   ·rfl
   ·rw[h n hn];simp
  rw[this];rfl
theorem or_lt {a b:Nat} (ha:a<512) (hb:b<512):a|||b<512:=Nat.or_lt_two_pow (n:=9) ha hb
theorem AsnV.atomsOnly {w:World} {lo hi e:Nat} {G:Option Addr} {xs:List Atm} (h:AtomsV w lo hi G xs):AsnV w lo hi (.agg #[.slice none 0 0,.slice G xs.length e]) ⟨[],xs⟩:=⟨none,0,G,e,rfl,Rd.nil _ _ _ _ _,h⟩
theorem c_impl_with0 (t:Int) (w:World):Calls Tryz.prog 125 #[.int .u16 0,.int .i64 t] w fun e w'=>e=.returned (.int .u16 (tins 0 t))∧w=w':=c_impl_with 0 t w (by decide)
theorem c_impl_tidy {lo hi:Nat} (v:Value) (a:Asn) (K:Nat) (w:World) (h:AsnV w lo hi v a) (hv:a.valid=true) (hK:K<512) :
  Calls Tryz.prog 192 #[v,.int .u16 K] w fun e w'=>∃ r,e=.returned r∧AsnO w' w.heap.size r (tidyF K a)∧Below w.heap.size w w':=by
 have hV:=ax h;obtain ⟨A1,c1,A2,c2,rfl,h1,h2⟩:=h;have HK:=ax hK;have HVa:=ax hv;clear hK hv;(go_enter Tryz.func192,Tryz.ntmps192);obtain ⟨k0,k1⟩:=blk2 w 36 36 #[.slice A1 a.facts.length c1,.slice A2 a.atoms.length c2] #[.slice none 0 0,.slice none 0 0];(go_wp2_with fail);refine (c_impl_copyAssertion _ a _ (hV.o.bz bel)).mono ?_;rintro e w1 ⟨r,rfl,o,hB1⟩;have hB:=bgo (w:=w) bel hB1;(replace k0:=k0.nz hB1;replace qk0:=k0.z;replace k1:=k1.nz hB1;replace qk1:=k1.cell;replace rk1:=k1.frozen;replace lk1:=k1.lt);obtain ⟨fv,av,rfl,of,oa⟩:=o;obtain ⟨F,d,rfl,-⟩:=of.reads;obtain ⟨G,e,rfl,-⟩:=oa.reads;have lz:=k1.lt;clear hB1;(go_wp2_with fail);have HL0:=ax (Nat.le_refl (left K a).length)
 go_loopg [] (left K a).length (fun g wr=>∃ (b:Asn) (F G:Option Addr) (d e:Nat),aJ ((left K b).length≤g)∧aJ (b.valid=true)∧aJ (subAll K a=subAll K b)∧FactsO wr (w.heap.size+1+1) (.slice F b.facts.length d) b.facts∧AtomsO wr (w.heap.size+1+1) (.slice G b.atoms.length e) b.atoms∧
  Blk wr w.heap.size 36 #[.slice F b.facts.length d,.slice G b.atoms.length e]∧Blk wr (w.heap.size+1) 36 #[.slice none 0 0,.slice none 0 0]∧Below w.heap.size w wr)
 case atStart=>
  refine ⟨a,F,G,d,e,HL0.o,HVa.o,rfl,?_,?_,?_,k1.far (by simp) _ |>.far (by simp) _,bel⟩
  ·simpa using (of.setT k0 (by decide) 0 (.slice F a.facts.length d)).setT (k0.set_ _ _) (by decide) 1 (.slice G a.atoms.length e)
  ·simpa using (oa.setT k0 (by decide) 0 (.slice F a.facts.length d)).setT (k0.set_ _ _) (by decide) 1 (.slice G a.atoms.length e)
  ·exact (k0.set_ 0 _).set_ 1 _
 case round=>
  clear k0 k1 qk0 qk1 rk1 lk1 of oa hB HL0 lz;obtain ⟨b,F,G,d,e,HL,HVb,HS,of,oa,k0,k1,hB⟩:=hrel;(replace qk0:=k0.z;replace qk1:=k1.cell;replace rk1:=k1.frozen;replace lk1:=k1.lt);have lz:=k1.lt;(go_wp2_with fail);refine (c_impl_firstSub F d K b.facts _ of.readsI.2 HK.o).mono ?_;rintro e w2 ⟨rfl,hB2⟩;(replace hB:=bgo hB hB2;replace of:=of.bz hB2;replace oa:=oa.bz hB2;replace k0:=k0.nz hB2;replace qk0:=k0.z;replace k1:=k1.nz hB2;replace qk1:=k1.cell;replace rk1:=k1.frozen;replace lk1:=k1.lt);replace lz:=k1.lt;have hw2:=k1.lt;clear hB2
  cases hs:subStep K b.facts with
  | some p=>
   obtain ⟨x,t⟩:=p;have hlt:=ax (left_lt hs)
   have HT:aJ ((substA x t b).valid=true):=by
    obtain ⟨f,hf,hq⟩:=List.exists_of_findSome?_eq_some hs;have hvb:=HVb.o
    have hfv:f.valid=true:=by
     simp only[Asn.valid,factsValid,Bool.and_eq_true] at hvb;exact List.all_eq_true.1 hvb.1.2 f hf
    simp only[Fct.valid,Bool.and_eq_true] at hfv;refine sub_valid HVb.o ?_;rcases (subOf_spec hq).2.2 with ⟨_,e⟩|⟨_,e⟩
    ·rw[e];exact hfv.2
    ·rw[e];exact hfv.1
   have HSS:=ax (subAll_some hs);simp only[Option.getD_some,Option.isSome_some];clear hs;have hA:AsnV w2 (w.heap.size+1+1) w2.heap.size (.agg #[.slice F b.facts.length d,.slice G b.atoms.length e]) b:=AsnO.reads ⟨_,_,rfl,of,oa⟩;have HA:=ax hA;clear hA;(go_wp2_with fail);refine (c_impl_replaceIn _ b x t _ (HA.o.bz bel)).mono ?_;rintro e w3 ⟨r,rfl,o,hB3⟩;have hB3':=bgo (w:=w2) bel hB3;(replace hB:=bgo hB hB3';replace k0:=k0.nz hB3';replace qk0:=k0.z;replace k1:=k1.nz hB3';replace qk1:=k1.cell;replace rk1:=k1.frozen;replace lk1:=k1.lt);replace lz:=k1.lt;obtain ⟨fv,av,rfl,of3,oa3⟩:=o;obtain ⟨F3,d3,rfl,-⟩:=of3.reads;obtain ⟨G3,e3,rfl,-⟩:=oa3.reads;have hz3:=hB3'.size;rw[World.size_alloc] at of3 oa3;clear hB3 hB3' of oa;(go_wp2_with fail)
   go_roundg (left K (substA x t b)).length
   case rel=>
    refine ⟨substA x t b,F3,G3,d3,e3,Nat.le_refl _,HT.o,by show _=_;rw[HS.o,HSS.o],?_,?_,?_,(k1.far (by simp only[];omega) _).far (by simp only[];omega) _,bel⟩
    ·exact ((of3.setT k0 (by decide) _ _).setT (k0.set_ _ _) (by decide) _ _).lower (by have:=hB.size;omega)
    ·exact ((oa3.setT k0 (by decide) _ _).setT (k0.set_ _ _) (by decide) _ _).lower (by have:=hB.size;omega)
    ·exact (k0.set_ 0 _).set_ 1 _
   case measure=>have:=HL.o;have:=hlt.o;omega
  | none=>
   have HSS:=ax (subAll_none hs)
   have HT:aJ (tidyF K a=normalF ⟨b.facts.filter (okFact (K|||tset (termsL ⟨[],b.atoms⟩))),b.atoms⟩):=by
    show _=_;unfold tidyF;rw[HS.o,HSS.o]
   simp only[Option.getD_none,Option.isSome_none];clear hs HS HSS HL;have HA:=ax (AsnV.atomsOnly (e:=e) oa.readsI.2);(go_wp2_with fail);refine (c_impl_termsIn _ ⟨[],b.atoms⟩ _ (HA.o.bz bel)).mono ?_;rintro e w3 ⟨rfl,hB3⟩;have hB3':=bgo (w:=w2) bel hB3;(replace hB:=bgo hB hB3';replace of:=of.bz hB3';replace oa:=oa.bz hB3';replace k0:=k0.nz hB3';replace qk0:=k0.z;replace k1:=k1.nz hB3';replace qk1:=k1.cell;replace rk1:=k1.frozen;replace lk1:=k1.lt);replace lz:=k1.lt;have hT:=tset_lt (termsL ⟨[],b.atoms⟩);generalize tset (termsL ⟨[],b.atoms⟩)=T at hT HT;have hK:=HK.o;have hor:=u16_or_nat K T (by omega) (by omega);have hU:K|||T<512:=or_lt hK hT;generalize K|||T=U at hor hU HT;have hlb:b.facts.length≤1049600:=of.2;clear hB3 hB3' HA hT hK;(go_wp2_with fail);have kr:=Blk.new w3 36 #[.slice none 0 0,.slice G b.atoms.length e];have hf:FactsV (w3.alloc (.cells #[.slice none 0 0,.slice G b.atoms.length e] 36)) 0 w3.heap.size F b.facts:=(of.readsI.2.bz bel).mono (Nat.zero_le _) (Nat.le_refl _);replace oa:=oa.bz (w':=w3.alloc (.cells #[.slice none 0 0,.slice G b.atoms.length e] 36)) bel;replace k1:=k1.alloc (.cells #[.slice none 0 0,.slice G b.atoms.length e] 36);replace hB:=bbox hB (.cells #[.slice none 0 0,.slice G b.atoms.length e] 36);clear k0 qk0 qk1 rk1 lk1 of hor;have lV:w3.heap.size<(w3.alloc (.cells #[.slice none 0 0,.slice G b.atoms.length e] 36)).heap.size:=kr.lt;generalize (w3.alloc (.cells #[.slice none 0 0,.slice G b.atoms.length e] 36))=V at kr hf oa k1 hB lV ⊢;obtain ⟨pr,hpr⟩:∃ p,p=w3.heap.size:=⟨_,rfl⟩;rw[←hpr] at kr hf lz lV ⊢;clear hpr
   go_loopw [41] (fun i wr=>∃ (k:Nat) (acc:List Fct) (A:Option Addr) (c:Nat),k≤b.facts.length∧i=.int .i64 k∧aJ (acc=(b.facts.take k).filter (okFact U))∧acc.length≤k∧FactsO wr (pr+1) (.slice A acc.length c) acc∧FactsV wr 0 pr F b.facts∧AtomsO wr (w.heap.size+1+1) (.slice G b.atoms.length e) b.atoms∧
    Blk wr (w.heap.size+1) 36 #[.slice none 0 0,.slice none 0 0]∧Blk wr pr 36 #[.slice A acc.length c,.slice G b.atoms.length e]∧Below w.heap.size w wr) (fun i _=>b.facts.length - (intOf i).toNat)
   case atStart=>exact ⟨0,[],none,0,Nat.zero_le _,rfl,by simp[aJ],Nat.le_refl _,FactsO.nil _ _,hf,oa,k1,kr,hB⟩
   case round=>
    clear kr hf oa k1 hB lV;obtain ⟨k,acc,A,c,hk,rfl,HACC,hal,of,hf,oa,k1,kr,hB⟩:=hrel;(replace qk1:=k1.cell;replace rk1:=k1.frozen;replace lk1:=k1.lt;replace qkr:=kr.z);by_cases hlt:k<b.facts.length
    ·obtain ⟨b2,o2,rfl,hb2⟩:=hf.blt hlt;obtain ⟨g0,g1,g2⟩:=hf.cl hlt;have HFT:=ax (filter_take (okFact U) b.facts k hlt)
     have hfv:b.facts[k].valid=true:=by
      have hvb:=HVb.o;simp only[Asn.valid,factsValid,Bool.and_eq_true] at hvb;exact List.all_eq_true.1 hvb.1.2 _ (List.getElem_mem hlt)
     have hS1:=tins_lt (S:=0) (by decide) b.facts[k].a;have hS2:=tins_lt hS1 b.facts[k].b;have hS3:=logS_lt hS2;have hiff:=(u16_andNot_nat (logS (tins (tins 0 b.facts[k].a) b.facts[k].b)) U (by omega) (by omega)).trans (okFact_iff hfv).symm;cases hok:okFact U b.facts[k]
     ·have ht:(bits .andNot .u16 ((logS (tins (tins 0 b.facts[k].a) b.facts[k].b):Nat):Int) (U:Int) == 0)=false:=by
       rw[Bool.eq_false_iff];intro h;have:=hiff.1 h;rw[hok] at this;cases this
      have HN:aJ ((b.facts.take (k+1)).filter (okFact U)=acc):=by show _=_;rw[HFT.o,hok,←HACC.o];simp
      clear hiff hok hfv;(go_wp2_with fail);(go_quiet (first|(go_at_call 125;first|(with_reducible exact Calls.quiet_of_same ((c_impl_with0 _ _).mono fun _ _ ⟨a,b⟩=>⟨a,b.symm⟩))|exact Calls.quiet_of_same ((c_impl_with _ _ _ (by assumption)).mono fun _ _ ⟨a,b⟩=>⟨a,b.symm⟩))|(go_at_call 67;exact Calls.quiet_of_same ((c_impl_logical _ _ (by assumption)).mono fun _ _ ⟨a,b⟩=>⟨a,b.symm⟩))));(go_wp2_with fail)
      go_round
      case rel=>exact ⟨k+1,acc,A,c,by omega,by go_num,by show _=_;rw[HN.o],by omega,of.bz bel,hf.bz bel,oa.bz bel,(k1.alloc _).drewN _,(kr.alloc _).drewN _,bel⟩
      case measure=>simp[intOf];omega
     ·have ht:(bits .andNot .u16 ((logS (tins (tins 0 b.facts[k].a) b.facts[k].b):Nat):Int) (U:Int) == 0)=true:=hiff.2 hok;have HN:aJ ((b.facts.take (k+1)).filter (okFact U)=acc++[b.facts[k]]):=by show _=_;rw[HFT.o,hok,←HACC.o];simp
      clear hiff hok hfv;(go_wp2_with fail);(go_quiet (first|(go_at_call 125;first|(with_reducible exact Calls.quiet_of_same ((c_impl_with0 _ _).mono fun _ _ ⟨a,b⟩=>⟨a,b.symm⟩))|exact Calls.quiet_of_same ((c_impl_with _ _ _ (by assumption)).mono fun _ _ ⟨a,b⟩=>⟨a,b.symm⟩))|(go_at_call 67;exact Calls.quiet_of_same ((c_impl_logical _ _ (by assumption)).mono fun _ _ ⟨a,b⟩=>⟨a,b.symm⟩))));have kf:=(Blk.new wr tF #[.bool b.facts[k].eq,.int .i64 b.facts[k].a,.int .i64 b.facts[k].b]).drewN nq;replace of:=of.bz (w':=(wr.alloc (.cells #[.bool b.facts[k].eq,.int .i64 b.facts[k].a,.int .i64 b.facts[k].b] tF)).drewN nq) bel;replace hf:=hf.bz (w':=(wr.alloc (.cells #[.bool b.facts[k].eq,.int .i64 b.facts[k].a,.int .i64 b.facts[k].b] tF)).drewN nq) bel;replace oa:=oa.bz (w':=(wr.alloc (.cells #[.bool b.facts[k].eq,.int .i64 b.facts[k].a,.int .i64 b.facts[k].b] tF)).drewN nq) bel;replace k1:=(k1.alloc (.cells #[.bool b.facts[k].eq,.int .i64 b.facts[k].a,.int .i64 b.facts[k].b] tF)).drewN nq;replace kr:=(kr.alloc (.cells #[.bool b.facts[k].eq,.int .i64 b.facts[k].a,.int .i64 b.facts[k].b] tF)).drewN nq;replace hB:=below_drewN (bbox hB (.cells #[.bool b.facts[k].eq,.int .i64 b.facts[k].a,.int .i64 b.facts[k].b] tF)) nq;clear qk1 rk1 lk1 qkr g0 g1 g2 ht;generalize (wr.alloc (.cells #[.bool b.facts[k].eq,.int .i64 b.facts[k].a,.int .i64 b.facts[k].b] tF)).drewN nq=V2 at kf of hf oa k1 kr hB ⊢;(replace qkf:=kf.z;replace qkr:=kr.z;replace qk1:=k1.cell;replace rk1:=k1.frozen;replace lk1:=k1.lt);have of1:=of.bz (w':=V2.alloc (.cells #[.bool b.facts[k].eq,.int .i64 b.facts[k].a,.int .i64 b.facts[k].b] tF)) bel;(go_wp2_with (at_builtin;refine appFL rfl _ _ rfl (v:=.slice A acc.length c) rfl of1 rfl (FactsV.one (f:=b.facts[k]) (Blk.new V2 _ _)) (by simp;omega) (by simp;omega) ?_;intro A' c' w5 of2 hg2 hB5;have z2:=Blk.grownO (g:=pr) (kr.alloc _) of1.1 hg2 (by decide);have z2c:=z2.cell;have z2f:=z2.frozen));have z1:=Blk.grownO (g:=w.heap.size+1) (k1.alloc _) of1.1 hg2 (by decide);have oa2:=AtomsO.grownF (oa.bz (w':=V2.alloc (.cells #[.bool b.facts[k].eq,.int .i64 b.facts[k].a,.int .i64 b.facts[k].b] tF)) bel) of1 hg2;have hf2:=(hf.bz (w':=V2.alloc (.cells #[.bool b.facts[k].eq,.int .i64 b.facts[k].a,.int .i64 b.facts[k].b] tF)) bel).keepB hB5 (Nat.le_succ _);have hBw2:=Below.trans (bbox hB _) (hB5.mono (by omega))
      go_round
      case rel=>
       refine ⟨k+1,acc++[b.facts[k]],A',c',by omega,by go_num,by show _=_;rw[HN.o],by simp;omega,?_,Rd.setb hf2 (Or.inr (by simp)) _,oa2.setT z2 (by decide) _ _,z1.far (by simp only[];omega) _,?_,bel⟩
       ·simpa using of2.setT z2 (by decide) _ _
       ·simpa using z2.set_ 0 (.slice A' (acc.length+1) c')
      case measure=>simp[intOf];omega
    ·obtain rfl:k=b.facts.length:=by omega
     have hacc:acc=b.facts.filter (okFact U):=by have:=HACC.o;rwa [List.take_length] at this
     subst hacc;have HA:aJ (AsnV wr 0 wr.heap.size (.agg #[.slice A (b.facts.filter (okFact U)).length c,.slice G b.atoms.length e]) ⟨b.facts.filter (okFact U),b.atoms⟩):=⟨A,c,G,e,rfl,of.readsI.2.mono (Nat.zero_le _) (Nat.le_refl _),oa.readsI.2.mono (Nat.zero_le _) (Nat.le_refl _)⟩;clear HACC of hf;(go_wp2_with fail);refine (c_impl_normalForm _ ⟨b.facts.filter (okFact U),b.atoms⟩ _ HA.o).mono ?_;rintro e w4 ⟨r,rfl,o,hB4⟩;have hwr:=hB.size;(replace hB:=bgo hB hB4;replace k1:=k1.nz hB4;replace qk1:=k1.cell;replace rk1:=k1.frozen;replace lk1:=k1.lt);rw[←HT.o] at o;obtain ⟨fv,av,rfl,of4,oa4⟩:=o;obtain ⟨F4,d4,rfl,-⟩:=of4.reads;obtain ⟨G4,e4,rfl,-⟩:=oa4.reads;clear hB4 kr qkr oa;(go_wp2_with fail);refine bodyPost_ret (v:=.agg #[.slice F4 (tidyF K a).facts.length d4,.slice G4 (tidyF K a).atoms.length e4]) (by simp[results,Tryz.results192,go_sem,qk1]) rfl ⟨_,rfl,⟨_,_,rfl,?_,?_⟩,bel⟩
     ·exact ((of4.setT k1 (by decide) _ _).setT (k1.set_ _ _) (by decide) _ _).lower hwr
     ·exact ((oa4.setT k1 (by decide) _ _).setT (k1.set_ _ _) (by decide) _ _).lower hwr
end
end Go.Proofs.YtgdfdmjnadnlnaaGreat
