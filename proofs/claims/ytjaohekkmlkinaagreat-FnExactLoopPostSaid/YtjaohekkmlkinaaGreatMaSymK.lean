/- Tidying: impl's tidy and TidyAssertion. -/
import Derived.Test.YtjaohekkmlkinaaGreatMaNorm
import Derived.Deep.LoopGhost
import Derived.Deep.DeepCutAuto
set_option linter.unusedSimpArgs false
set_option linter.unusedVariables false
set_option maxRecDepth 100000
set_option maxHeartbeats 25600000
namespace Go.Proofs.YtjaohekkmlkinaaGreat
section
open Go Go.RowKit Go.Proofs
attribute [local go_sem ↓] Go.wp_at_zero Go.wp_at_succ
theorem u16_andNot_nat (a b:Nat) (ha:a<65536) (hb:b<65536):(bits .andNot .u16 (a:Int) (b:Int) == 0)=true↔∀ n,a.testBit n=true→b.testBit n=true:=by
 have e:bits .andNot .u16 (a:Int) (b:Int)=(((BitVec.ofInt 16 (a:Int) &&& ~~~ BitVec.ofInt 16 (b:Int)).toNat:Nat):Int):=by
  show IntKind.u16.wrap ((BitVec.ofInt 16 (a:Int) &&& ~~~ BitVec.ofInt 16 (b:Int)).toNat:Int)=_;exact wrap_u16 _ (BitVec.isLt _)
 rw[e]
 have hx:∀ n,(BitVec.ofInt 16 (a:Int) &&& ~~~ BitVec.ofInt 16 (b:Int)).toNat.testBit n=(a.testBit n&&(decide (n<16) && !b.testBit n)):=by
  intro n;rw[BitVec.testBit_toNat,BitVec.getLsbD_and,BitVec.getLsbD_not,←BitVec.testBit_toNat,←BitVec.testBit_toNat,ofInt_u16 a ha,ofInt_u16 b hb]
 have hlt:∀ n,a.testBit n=true→n<16:=by
  intro n hn;rcases Nat.lt_or_ge n 16 with h|h
  ·exact h
  ·have:=Nat.testBit_lt_two_pow (Nat.lt_of_lt_of_le ha (Nat.pow_le_pow_right (n:=2) (by omega) h));rw[this] at hn;cases hn
 simp only[beq_iff_eq];constructor
 ·intro h n hn;have hz:(BitVec.ofInt 16 (a:Int) &&& ~~~ BitVec.ofInt 16 (b:Int)).toNat=0:=by omega
  have:=hx n;rw[hz,Nat.zero_testBit,hn] at this;have hl:=hlt n hn;simp[hl] at this;exact this
 ·intro h
  have:(BitVec.ofInt 16 (a:Int) &&& ~~~ BitVec.ofInt 16 (b:Int)).toNat=0:=by
   apply Nat.eq_of_testBit_eq;intro n;rw[hx,Nat.zero_testBit];cases hn:a.testBit n
   ·rfl
   ·rw[h n hn];simp
  rw[this];rfl
theorem or_lt {a b:Nat} (ha:a<512) (hb:b<512):a|||b<512:=Nat.or_lt_two_pow (n:=9) ha hb
theorem AsnV.atomsOnly {w:World} {lo hi e:Nat} {G:Option Addr} {xs:List Atm} (h:AtomsV w lo hi G xs):AsnV w lo hi (.agg #[.slice none 0 0,.slice G xs.length e]) ⟨[],xs⟩:=⟨none,0,G,e,rfl,Rd.nil _ _ _ _ _,h⟩
theorem c_impl_with0 (t:Int) (w:World):Calls Tryz.prog 135 #[.int .u16 0,.int .i64 t] w fun e w'=>e=.returned (.int .u16 (tins 0 t))∧w=w':=c_impl_with 0 t w (by decide)
theorem c_impl_tidy {lo hi:Nat} (v:Value) (a:Asn) (K:Nat) (w:World) (h:AsnV w lo hi v a) (hv:a.valid=true) (hK:K<512) :
  Calls Tryz.prog 230 #[v,.int .u16 K] w fun e w'=>∃ r,e=.returned r∧AsnO w' w.heap.size r (tidyF K a)∧Below w.heap.size w w':=by
 have hV:=ax h;obtain ⟨A1,c1,A2,c2,rfl,h1,h2⟩:=h;have HK:=ax hK;have HVa:=ax hv;clear hK hv;(go_enter Tryz.func230,Tryz.ntmps230);obtain ⟨k0,k1⟩:=blk2 w 37 37 #[.slice A1 a.facts.length c1,.slice A2 a.atoms.length c2] #[.slice none 0 0,.slice none 0 0];(go_wp2_with fail);refine (c_impl_copyAssertion _ a _ (hV.o.bz bel)).mono ?_;rintro e w1 ⟨r,rfl,o,hB1⟩;have hB:=bgo (w:=w) bel hB1;(replace k0:=k0.nz hB1;replace qk0:=k0.z;replace k1:=k1.nz hB1;replace qk1:=k1.cell;replace rk1:=k1.frozen;replace lk1:=k1.lt);obtain ⟨fv,av,rfl,of,oa⟩:=o;obtain ⟨F,d,rfl,-⟩:=of.rj;obtain ⟨G,e,rfl,-⟩:=oa.rj;have lz:=k1.lt;clear hB1;(go_wp2_with fail);have HL0:=ax (Nat.le_refl (left K a).length)
 go_loopg [] (left K a).length (fun g wr=>∃ (b:Asn) (F G:Option Addr) (d e:Nat),aJ ((left K b).length≤g)∧aJ (b.valid=true)∧aJ (subAll K a=subAll K b)∧FactsO wr (w.heap.size+1+1) (.slice F b.facts.length d) b.facts∧AtomsO wr (w.heap.size+1+1) (.slice G b.atoms.length e) b.atoms∧
  Blk wr w.heap.size 37 #[.slice F b.facts.length d,.slice G b.atoms.length e]∧Blk wr (w.heap.size+1) 37 #[.slice none 0 0,.slice none 0 0]∧Below w.heap.size w wr)
 case atStart=>
  refine ⟨a,F,G,d,e,HL0.o,HVa.o,rfl,?_,?_,?_,k1.far (by simp) _ |>.far (by simp) _,bel⟩
  ·simpa using (of.setT k0 (by decide) 0 (.slice F a.facts.length d)).setT (k0.set_ _ _) (by decide) 1 (.slice G a.atoms.length e)
  ·simpa using (oa.setT k0 (by decide) 0 (.slice F a.facts.length d)).setT (k0.set_ _ _) (by decide) 1 (.slice G a.atoms.length e)
  ·exact (k0.set_ 0 _).set_ 1 _
 case round=>
  clear k0 k1 qk0 qk1 rk1 lk1 of oa hB HL0 lz;obtain ⟨b,F,G,d,e,HL,HVb,HS,of,oa,k0,k1,hB⟩:=hrel;(replace qk0:=k0.z;replace qk1:=k1.cell;replace rk1:=k1.frozen;replace lk1:=k1.lt);have lz:=k1.lt;(go_wp2_with fail);refine (c_impl_firstSub F d K b.facts _ of.readsI.2 HK.o).mono ?_;rintro e w2 ⟨rfl,hB2⟩;(replace hB:=bgo hB hB2;replace of:=of.bz hB2;replace oa:=oa.bz hB2;replace k0:=k0.nz hB2;replace qk0:=k0.z;replace k1:=k1.nz hB2;replace qk1:=k1.cell;replace rk1:=k1.frozen;replace lk1:=k1.lt);replace lz:=k1.lt;have hw2:=k1.lt;clear hB2
  cases hs:subStep K b.facts with
  | some p=>
   obtain ⟨x,t⟩:=p;have hlt:=ax (left_lt hs)
   have HT:aJ ((substA x t b).valid=true):=by
    obtain ⟨f,hf,hq⟩:=List.exists_of_findSome?_eq_some hs;have hvb:=HVb.o
    have hfv:f.valid=true:=by
     simp only[Asn.valid,factsValid,Bool.and_eq_true] at hvb;exact List.all_eq_true.1 hvb.1.2 f hf
    simp only[Fct.valid,Bool.and_eq_true] at hfv;refine sub_valid HVb.o ?_;rcases (subOf_spec hq).2.2 with ⟨_,e⟩|⟨_,e⟩
    ·rw[e];exact hfv.2
    ·rw[e];exact hfv.1
   have HSS:=ax (subAll_some hs);simp only[Option.getD_some,Option.isSome_some];clear hs;have hA:AsnV w2 (w.heap.size+1+1) w2.heap.size (.agg #[.slice F b.facts.length d,.slice G b.atoms.length e]) b:=AsnO.rj ⟨_,_,rfl,of,oa⟩;have HA:=ax hA;clear hA;(go_wp2_with fail);refine (c_impl_replaceIn _ b x t _ (HA.o.bz bel)).mono ?_;rintro e w3 ⟨r,rfl,o,hB3⟩;have hB3':=bgo (w:=w2) bel hB3;(replace hB:=bgo hB hB3';replace k0:=k0.nz hB3';replace qk0:=k0.z;replace k1:=k1.nz hB3';replace qk1:=k1.cell;replace rk1:=k1.frozen;replace lk1:=k1.lt);replace lz:=k1.lt;obtain ⟨fv,av,rfl,of3,oa3⟩:=o;obtain ⟨F3,d3,rfl,-⟩:=of3.rj;obtain ⟨G3,e3,rfl,-⟩:=oa3.rj;have hz3:=hB3'.size;rw[World.size_alloc] at of3 oa3;clear hB3 hB3' of oa;(go_wp2_with fail)
   go_roundg (left K (substA x t b)).length
   case rel=>
    refine ⟨substA x t b,F3,G3,d3,e3,Nat.le_refl _,HT.o,by show _=_;rw[HS.o,HSS.o],?_,?_,?_,(k1.far (by simp only[];omega) _).far (by simp only[];omega) _,bel⟩
    ·exact ((of3.setT k0 (by decide) _ _).setT (k0.set_ _ _) (by decide) _ _).bq (by have:=hB.size;omega)
    ·exact ((oa3.setT k0 (by decide) _ _).setT (k0.set_ _ _) (by decide) _ _).bq (by have:=hB.size;omega)
    ·exact (k0.set_ 0 _).set_ 1 _
   case measure=>have:=HL.o;have:=hlt.o;omega
  | none=>
   have HSS:=ax (subAll_none hs)
   have HT:aJ (tidyF K a=normalF ⟨b.facts.filter (okFact (K|||tset (mz ⟨[],b.atoms⟩))),b.atoms⟩):=by
    show _=_;unfold tidyF;rw[HS.o,HSS.o]
   simp only[Option.getD_none,Option.isSome_none];clear hs HS HSS HL;have HA:=ax (AsnV.atomsOnly (e:=e) oa.readsI.2);(go_wp2_with fail);refine (c_impl_termsIn _ ⟨[],b.atoms⟩ _ (HA.o.bz bel)).mono ?_;rintro e w3 ⟨rfl,hB3⟩;have hB3':=bgo (w:=w2) bel hB3;(replace hB:=bgo hB hB3';replace of:=of.bz hB3';replace oa:=oa.bz hB3';replace k0:=k0.nz hB3';replace qk0:=k0.z;replace k1:=k1.nz hB3';replace qk1:=k1.cell;replace rk1:=k1.frozen;replace lk1:=k1.lt);replace lz:=k1.lt;have hT:=tset_lt (mz ⟨[],b.atoms⟩);generalize tset (mz ⟨[],b.atoms⟩)=T at hT HT;have hK:=HK.o;have hor:=u16_or_nat K T (by omega) (by omega);have hU:K|||T<512:=or_lt hK hT;generalize K|||T=U at hor hU HT;have hlb:b.facts.length≤1049600:=of.2;clear hB3 hB3' HA hT hK;(go_wp2_with fail);have kr:=Blk.new w3 37 #[.slice none 0 0,.slice G b.atoms.length e];have hf:FactsV (w3.alloc (.cells #[.slice none 0 0,.slice G b.atoms.length e] 37)) 0 w3.heap.size F b.facts:=(of.readsI.2.bz bel).mono (Nat.zero_le _) (Nat.le_refl _);replace oa:=oa.bz (w':=w3.alloc (.cells #[.slice none 0 0,.slice G b.atoms.length e] 37)) bel;replace k1:=k1.alloc (.cells #[.slice none 0 0,.slice G b.atoms.length e] 37);replace hB:=bbox hB (.cells #[.slice none 0 0,.slice G b.atoms.length e] 37);clear k0 qk0 qk1 rk1 lk1 of hor;have lV:w3.heap.size<(w3.alloc (.cells #[.slice none 0 0,.slice G b.atoms.length e] 37)).heap.size:=kr.lt;generalize (w3.alloc (.cells #[.slice none 0 0,.slice G b.atoms.length e] 37))=V at kr hf oa k1 hB lV ⊢;obtain ⟨pr,hpr⟩:∃ p,p=w3.heap.size:=⟨_,rfl⟩;rw[←hpr] at kr hf lz lV ⊢;clear hpr
   go_loopw [41] (fun i wr=>∃ (k:Nat) (acc:List Fct) (A:Option Addr) (c:Nat),k≤b.facts.length∧i=.int .i64 k∧aJ (acc=(b.facts.take k).filter (okFact U))∧acc.length≤k∧FactsO wr (pr+1) (.slice A acc.length c) acc∧FactsV wr 0 pr F b.facts∧AtomsO wr (w.heap.size+1+1) (.slice G b.atoms.length e) b.atoms∧
    Blk wr (w.heap.size+1) 37 #[.slice none 0 0,.slice none 0 0]∧Blk wr pr 37 #[.slice A acc.length c,.slice G b.atoms.length e]∧Below w.heap.size w wr) (fun i _=>b.facts.length - (intOf i).toNat)
   case atStart=>exact ⟨0,[],none,0,Nat.zero_le _,rfl,by simp[aJ],Nat.le_refl _,FactsO.nil _ _,hf,oa,k1,kr,hB⟩
   case round=>
    clear kr hf oa k1 hB lV;obtain ⟨k,acc,A,c,hk,rfl,HACC,hal,of,hf,oa,k1,kr,hB⟩:=hrel;(replace qk1:=k1.cell;replace rk1:=k1.frozen;replace lk1:=k1.lt;replace qkr:=kr.z);by_cases hlt:k<b.facts.length
    ·obtain ⟨b2,o2,rfl,hb2⟩:=hf.blt hlt;obtain ⟨g0,g1,g2⟩:=hf.cl hlt;have HFT:=ax (filter_take (okFact U) b.facts k hlt)
     have hfv:b.facts[k].valid=true:=by
      have hvb:=HVb.o;simp only[Asn.valid,factsValid,Bool.and_eq_true] at hvb;exact List.all_eq_true.1 hvb.1.2 _ (List.getElem_mem hlt)
     have hS1:=tins_lt (S:=0) (by decide) b.facts[k].a;have hS2:=tins_lt hS1 b.facts[k].b;have hS3:=logS_lt hS2;have hiff:=(u16_andNot_nat (logS (tins (tins 0 b.facts[k].a) b.facts[k].b)) U (by omega) (by omega)).trans (okFact_iff hfv).symm;cases hok:okFact U b.facts[k]
     ·have ht:(bits .andNot .u16 ((logS (tins (tins 0 b.facts[k].a) b.facts[k].b):Nat):Int) (U:Int) == 0)=false:=by
       rw[Bool.eq_false_iff];intro h;have:=hiff.1 h;rw[hok] at this;cases this
      have HN:aJ ((b.facts.take (k+1)).filter (okFact U)=acc):=by show _=_;rw[HFT.o,hok,←HACC.o];simp
      clear hiff hok hfv;(go_wp2_with fail);(go_quiet (first|(go_at_call 135;first|(with_reducible exact Calls.quiet_of_same ((c_impl_with0 _ _).mono fun _ _ ⟨a,b⟩=>⟨a,b.symm⟩))|exact Calls.quiet_of_same ((c_impl_with _ _ _ (by assumption)).mono fun _ _ ⟨a,b⟩=>⟨a,b.symm⟩))|(go_at_call 65;exact Calls.quiet_of_same ((c_impl_logical _ _ (by assumption)).mono fun _ _ ⟨a,b⟩=>⟨a,b.symm⟩))));(go_wp2_with fail)
      go_round
      case rel=>exact ⟨k+1,acc,A,c,by omega,by go_num,by show _=_;rw[HN.o],by omega,of.bz bel,hf.bz bel,oa.bz bel,(k1.alloc _).drewN _,(kr.alloc _).drewN _,bel⟩
      case measure=>simp[intOf];omega
     ·have ht:(bits .andNot .u16 ((logS (tins (tins 0 b.facts[k].a) b.facts[k].b):Nat):Int) (U:Int) == 0)=true:=hiff.2 hok;have HN:aJ ((b.facts.take (k+1)).filter (okFact U)=acc++[b.facts[k]]):=by show _=_;rw[HFT.o,hok,←HACC.o];simp
      clear hiff hok hfv;(go_wp2_with fail);(go_quiet (first|(go_at_call 135;first|(with_reducible exact Calls.quiet_of_same ((c_impl_with0 _ _).mono fun _ _ ⟨a,b⟩=>⟨a,b.symm⟩))|exact Calls.quiet_of_same ((c_impl_with _ _ _ (by assumption)).mono fun _ _ ⟨a,b⟩=>⟨a,b.symm⟩))|(go_at_call 65;exact Calls.quiet_of_same ((c_impl_logical _ _ (by assumption)).mono fun _ _ ⟨a,b⟩=>⟨a,b.symm⟩))));have kf:=(Blk.new wr tF #[.bool b.facts[k].eq,.int .i64 b.facts[k].a,.int .i64 b.facts[k].b]).drewN nq;replace of:=of.bz (w':=(wr.alloc (.cells #[.bool b.facts[k].eq,.int .i64 b.facts[k].a,.int .i64 b.facts[k].b] tF)).drewN nq) bel;replace hf:=hf.bz (w':=(wr.alloc (.cells #[.bool b.facts[k].eq,.int .i64 b.facts[k].a,.int .i64 b.facts[k].b] tF)).drewN nq) bel;replace oa:=oa.bz (w':=(wr.alloc (.cells #[.bool b.facts[k].eq,.int .i64 b.facts[k].a,.int .i64 b.facts[k].b] tF)).drewN nq) bel;replace k1:=(k1.alloc (.cells #[.bool b.facts[k].eq,.int .i64 b.facts[k].a,.int .i64 b.facts[k].b] tF)).drewN nq;replace kr:=(kr.alloc (.cells #[.bool b.facts[k].eq,.int .i64 b.facts[k].a,.int .i64 b.facts[k].b] tF)).drewN nq;replace hB:=below_drewN (bbox hB (.cells #[.bool b.facts[k].eq,.int .i64 b.facts[k].a,.int .i64 b.facts[k].b] tF)) nq;clear qk1 rk1 lk1 qkr g0 g1 g2 ht;generalize (wr.alloc (.cells #[.bool b.facts[k].eq,.int .i64 b.facts[k].a,.int .i64 b.facts[k].b] tF)).drewN nq=V2 at kf of hf oa k1 kr hB ⊢;(replace qkf:=kf.z;replace qkr:=kr.z;replace qk1:=k1.cell;replace rk1:=k1.frozen;replace lk1:=k1.lt);have of1:=of.bz (w':=V2.alloc (.cells #[.bool b.facts[k].eq,.int .i64 b.facts[k].a,.int .i64 b.facts[k].b] tF)) bel;(go_wp2_with (at_builtin;refine appFL rfl _ _ rfl (v:=.slice A acc.length c) rfl of1 rfl (FactsV.one (f:=b.facts[k]) (Blk.new V2 _ _)) (by simp;omega) (by simp;omega) ?_;intro A' c' w5 of2 hg2 hB5;have z2:=Blk.zm (g:=pr) (kr.alloc _) of1.1 hg2 (by decide);have z2c:=z2.cell;have z2f:=z2.frozen));have z1:=Blk.zm (g:=w.heap.size+1) (k1.alloc _) of1.1 hg2 (by decide);have oa2:=AtomsO.grownF (oa.bz (w':=V2.alloc (.cells #[.bool b.facts[k].eq,.int .i64 b.facts[k].a,.int .i64 b.facts[k].b] tF)) bel) of1 hg2;have hf2:=(hf.bz (w':=V2.alloc (.cells #[.bool b.facts[k].eq,.int .i64 b.facts[k].a,.int .i64 b.facts[k].b] tF)) bel).keepB hB5 (Nat.le_succ _);have hBw2:=Below.trans (bbox hB _) (hB5.mono (by omega))
      go_round
      case rel=>
       refine ⟨k+1,acc++[b.facts[k]],A',c',by omega,by go_num,by show _=_;rw[HN.o],by simp;omega,?_,Rd.setb hf2 (Or.inr (by simp)) _,oa2.setT z2 (by decide) _ _,z1.far (by simp only[];omega) _,?_,bel⟩
       ·simpa using of2.setT z2 (by decide) _ _
       ·simpa using z2.set_ 0 (.slice A' (acc.length+1) c')
      case measure=>simp[intOf];omega
    ·obtain rfl:k=b.facts.length:=by omega
     have hacc:acc=b.facts.filter (okFact U):=by have:=HACC.o;rwa [List.take_length] at this
     subst hacc;have HA:aJ (AsnV wr 0 wr.heap.size (.agg #[.slice A (b.facts.filter (okFact U)).length c,.slice G b.atoms.length e]) ⟨b.facts.filter (okFact U),b.atoms⟩):=⟨A,c,G,e,rfl,of.readsI.2.mono (Nat.zero_le _) (Nat.le_refl _),oa.readsI.2.mono (Nat.zero_le _) (Nat.le_refl _)⟩;clear HACC of hf;(go_wp2_with fail);refine (c_impl_normalForm _ ⟨b.facts.filter (okFact U),b.atoms⟩ _ HA.o).mono ?_;rintro e w4 ⟨r,rfl,o,hB4⟩;have hwr:=hB.size;(replace hB:=bgo hB hB4;replace k1:=k1.nz hB4;replace qk1:=k1.cell;replace rk1:=k1.frozen;replace lk1:=k1.lt);rw[←HT.o] at o;obtain ⟨fv,av,rfl,of4,oa4⟩:=o;obtain ⟨F4,d4,rfl,-⟩:=of4.rj;obtain ⟨G4,e4,rfl,-⟩:=oa4.rj;clear hB4 kr qkr oa;(go_wp2_with fail);refine bodyPost_ret (v:=.agg #[.slice F4 (tidyF K a).facts.length d4,.slice G4 (tidyF K a).atoms.length e4]) (by simp[results,Tryz.results230,go_sem,qk1]) rfl ⟨_,rfl,⟨_,_,rfl,?_,?_⟩,bel⟩
     ·exact ((of4.setT k1 (by decide) _ _).setT (k1.set_ _ _) (by decide) _ _).bq hwr
     ·exact ((oa4.setT k1 (by decide) _ _).setT (k1.set_ _ _) (by decide) _ _).bq hwr
theorem AsnV.mono0 {w:World} {lo hi:Nat} {v:Value} {a:Asn} (h:AsnV w lo hi v a) (hh:hi≤w.heap.size):AsnV w 0 w.heap.size v a:=by
 obtain ⟨A1,c1,A2,c2,e,h1,h2⟩:=h;exact ⟨A1,c1,A2,c2,e,h1.mono (Nat.zero_le _) hh,h2.mono (Nat.zero_le _) hh⟩
theorem A2O.atC {w:World} {base n c:Nat} {A:Option Addr} {vs:List Value} {ss:List Asn} (h:A2O w base (.slice A n c) vs ss) {k:Nat} (hk:k<ss.length):∃ b o B c D d,A=some ⟨b,o,none⟩∧b<w.heap.size∧w.cell? ⟨b,o+k*2,none⟩=some (.slice B ss[k].facts.length c)∧w.cell? ⟨b,o+k*2+1,none⟩=some (.slice D ss[k].atoms.length d)∧AsnC w base w.heap.size (.agg #[.slice B ss[k].facts.length c,.slice D ss[k].atoms.length d]) ss[k]:=by
 have h1:=h.rd;have hl:vs.length=ss.length * 2:=h1.raw.1;have hr:=rowsA_len ss;obtain ⟨b,o,e,-,-,hc⟩:=h1.raw.form (by omega);obtain ⟨g1,g2⟩:=rowsA_get ss k hk;have r1:=h.els.at_ (k*2) (by omega) (by omega);have r2:=h.els.at_ (k*2+1) (by omega) (by omega);have x1:(rowsA ss)[k*2]'(by omega)=.inl ss[k].facts:=by rw[List.getElem?_eq_getElem (by omega)] at g1;exact Option.some.inj g1
 have x2:(rowsA ss)[k*2+1]'(by omega)=.inr ss[k].atoms:=by rw[List.getElem?_eq_getElem (by omega)] at g2;exact Option.some.inj g2
 rw[x1] at r1;rw[x2] at r2;have c1:=hc (k*2) _ (List.getElem?_eq_getElem (by omega));have c2:=hc (k*2+1) _ (List.getElem?_eq_getElem (by omega));have r1:FactsO w base vs[k*2] ss[k].facts:=r1;have r2:AtomsO w base vs[k*2+1] ss[k].atoms:=r2;obtain ⟨B,c,e1,-⟩:=r1.rj;obtain ⟨D,d,e2,-⟩:=r2.rj;rw[e1] at c1 r1;rw[e2] at c2 r2;exact ⟨b,o,B,c,D,d,e,block_lt_of_cell c1,c1,c2,AsnO.C ⟨_,_,rfl,r1,r2⟩⟩
theorem forget_len {a b:Asn} {x p:Int} {K:Nat} (h:forgetF a x K=some (b,p)):b.facts.length=a.facts.length:=by
 unfold forgetF at h
 split at h
 ·obtain ⟨n,-,e⟩:=Option.map_eq_some_iff.1 h;injection e with e1 e2;rw[←e1];simp[substA]
 ·injection h with h;injection h with e1 e2;rw[e1]
theorem forget_alen {a b:Asn} {x p:Int} {K:Nat} (h:forgetF a x K=some (b,p)):b.atoms.length=a.atoms.length:=by
 unfold forgetF at h
 split at h
 ·obtain ⟨n,-,e⟩:=Option.map_eq_some_iff.1 h;injection e with e1 e2;rw[←e1];simp[substA]
 ·injection h with h;injection h with e1 e2;rw[e1]
theorem AsnO.mkA {w:World} {base:Nat} {F G G':Option Addr} {f g g' n n':Nat} {b:Asn} {ys:List Atm} {m:Nat} (h:AsnO w base (.agg #[.slice F n f,.slice G n' g]) b) (h2:AtomsO w base (.slice G' m g') ys):AsnO w base (.agg #[.slice F n f,.slice G' m g']) ⟨b.facts,ys⟩:=by
 obtain ⟨fv,av,e,p1,p2⟩:=h;injection e with e;injection e with e;injection e with e1 e2;subst e1;exact ⟨_,_,rfl,p1,h2⟩
def OptO (w:World) (base:Nat) (r:Value) (o:Option Asn):Prop:=(∃ F n f G m g,r=.agg #[.slice F n f,.slice G m g])∧∀ b,o=some b→AsnO w base r b
theorem OptO.none (w:World) (base:Nat):OptO w base (.agg #[.slice .none 0 0,.slice .none 0 0]) .none:=⟨⟨_,_,_,_,_,_,rfl⟩,fun _ h=>by cases h⟩
theorem OptO.some {w:World} {base:Nat} {r:Value} {a:Asn} (h:AsnO w base r a):OptO w base r (.some a):=by
 refine ⟨?_,fun b e=>by obtain rfl:=Option.some.inj e;exact h⟩;obtain ⟨F,f,G,g,rfl⟩:=h.I.form;exact ⟨_,_,_,_,_,_,rfl⟩
theorem OptO.okX {w:World} {base:Nat} {r:Value} {a:Asn} (h:AsnO w base r a):OptO w base r (okX a):=by
 refine ⟨(OptO.some h).1,fun b e=>?_⟩;rw[(okX_ok e).2];exact h
theorem okX_some {a:Asn}:(okX a).isSome=a.valid:=by unfold okX;split<;>simp_all
theorem AsnO.setT2 {w:World} {base:Nat} {v:Value} {a:Asn} (h:AsnO w base v a) {g:Nat} {cs:Array Value} (hk:Blk w g tAs cs) (u u':Value):AsnO ((w.setCell ⟨g,0,none⟩ u).setCell ⟨g,1,none⟩ u') base v a:=by
 obtain ⟨fv,av,e,p1,p2⟩:=h;exact ⟨fv,av,e,(p1.setT hk (by decide) _ _).setT (hk.set_ _ _) (by decide) _ _,(p2.setT hk (by decide) _ _).setT (hk.set_ _ _) (by decide) _ _⟩
theorem AsnO.atomsV {w:World} {base:Nat} {F G:Option Addr} {n m f g:Nat} {b:Asn} (h:AsnO w base (.agg #[.slice F n f,.slice G m g]) b):AtomsV w base w.heap.size G b.atoms:=by
 obtain ⟨A1,c1,A2,c2,e,h1,h2⟩:=h.rj;injection e with e;injection e with e;injection e with e1 e2;injection e2 with e2;injection e2 with e2;subst e2;exact h2
theorem c_withFactX {lo hi:Nat} (v:Value) (b:Asn) (x p t:Int) (w:World) (h:AsnV w lo hi v b) (hn:b.facts.length+1≤1049600) :
  Calls Tryz.prog 187 #[v,(⟨true,x,swp x p t⟩:Fct).val] w fun e w'=>∃ F f G g,e=.returned (.agg #[.slice F (setX b x p t).facts.length f,.slice G (setX b x p t).atoms.length g])∧AsnO w' w.heap.size (.agg #[.slice F (setX b x p t).facts.length f,.slice G (setX b x p t).atoms.length g]) (setX b x p t)∧Below w.heap.size w w':=by
 refine (c_impl_withFact v b ⟨true,x,swp x p t⟩ w h hn).mono ?_;rintro e w' ⟨r,rfl,o,hB⟩;obtain ⟨F,f,G,g,rfl⟩:=o.I.form;exact ⟨F,f,G,g,rfl,o,hB⟩
theorem c_fTerm (vF vA:Value) (x p t:Int) (w:World):Calls Tryz.prog 286 #[.agg #[vF,vA,.int .i64 x,.int .i64 p],.int .i64 t] w fun e w'=>e=.returned (.int .i64 (swp x p t))∧Below w.heap.size w w':=by
 (go_enter Tryz.func286,Tryz.ntmps286);(go_wp2_with fail);refine (c_replaceTerm t x p _).mono ?_;rintro e w1 ⟨rfl,rfl⟩;(go_wp2_with fail);go_ret;exact ⟨rfl,bel⟩
theorem c_impl_assigned {lo hi:Nat} (v:Value) (a:Asn) (x t:Int) (K:Nat) (w:World) (h:AsnV w lo hi v a) (hK:K<512) (hx:jq x=true) (hl:a.facts.length≤1000) :
  Calls Tryz.prog 266 #[v,.int .i64 x,.int .i64 t,.int .u16 K] w fun e w'=>∃ r,e=.returned (.tuple #[r,.bool (assignF a x t K).isSome])∧OptO w' w.heap.size r (assignF a x t K)∧Below w.heap.size w w':=by
 have hV:=ax h;obtain ⟨A1,c1,A2,c2,rfl,-,-⟩:=h;(go_enter Tryz.func266,Tryz.ntmps266);have k0:Blk ((w.alloc (.cells #[.slice A1 a.facts.length c1,.slice A2 a.atoms.length c2] tAs)).alloc (.cells #[.slice none 0 0,.slice none 0 0] tAs)) w.heap.size tAs #[.slice A1 a.facts.length c1,.slice A2 a.atoms.length c2]:=blks;have k8:Blk ((w.alloc (.cells #[.slice A1 a.facts.length c1,.slice A2 a.atoms.length c2] tAs)).alloc (.cells #[.slice none 0 0,.slice none 0 0] tAs)) (w.heap.size+1) tAs #[.slice none 0 0,.slice none 0 0]:=blks;(go_wp2_with fail);refine (c_impl_forget _ a x K _ (hV.o.bz bel) hK hx).mono ?_;rintro e w1 ⟨hF,hB1⟩;have hB:=bgo (w:=w) bel hB1;replace k0:=k0.nz hB1;replace k8:=k8.nz hB1;have hz:=hB1.size;simp only[World.size_alloc] at hz;clear hB1
 cases hf:forgetF a x K with
 | none=>
  rw[hf] at hF;simp only[FgR] at hF;subst hF;have E:aJ (assignF a x t K=none):=ax (by unfold assignF;rw[hf];rfl);clear hf;(replace qk8:=k8.cell;replace rk8:=k8.frozen;replace lk8:=k8.lt);(go_wp2_with fail);refine bodyPost_ret (v:=.tuple #[.agg #[.slice none 0 0,.slice none 0 0],.bool false]) (by simp[results,Tryz.results266,go_sem,qk8,lk8]) rfl ⟨_,by rw[E.o];rfl,?_,bel⟩;rw[E.o];exact OptO.none _ _
 | some bp=>
  obtain ⟨b,p⟩:=bp;rw[hf] at hF;simp only[FgR] at hF;obtain ⟨F,f,G,g,rfl,oB⟩:=hF;have E:aJ (assignF a x t K=okX (setX b x p t)):=ax (by unfold assignF;rw[hf];rfl);have HL:aJ (b.facts.length=a.facts.length):=ax (forget_len hf);have OB:=ax (oB.bq (base':=w.heap.size) (by (try simp)<;>omega));clear hf oB;(replace qk8:=k8.cell;replace rk8:=k8.frozen;replace lk8:=k8.lt);(go_upto_region 4 with fail);have k10:Blk (w1.alloc (.cells #[.slice F b.facts.length f,.slice G b.atoms.length g,.int .i64 x,.int .i64 p] tFg)) w1.heap.size tFg #[.slice F b.facts.length f,.slice G b.atoms.length g,.int .i64 x,.int .i64 p]:=blks;have hBq:Below w1.heap.size w1 (w1.alloc (.cells #[.slice F b.facts.length f,.slice G b.atoms.length g,.int .i64 x,.int .i64 p] tFg)):=bbox (Below.refl _ _) _;replace k8:=k8.nz hBq;replace OB:=ax (OB.o.bz hBq);have HB:=ax (bgo hB hBq);have hk8:=k8.lt;have hyW:w.heap.size+2≤w1.heap.size:=by omega
  obtain ⟨y,hy⟩:∃ y,y=w1.heap.size:=⟨_,rfl⟩;have hsW:(w1.alloc (.cells #[.slice F b.facts.length f,.slice G b.atoms.length g,.int .i64 x,.int .i64 p] tFg)).heap.size=y+1:=by simp[hy]
  rw[←hy] at k10 hyW ⊢;clear hBq k0 hB qk8 rk8 lk8;generalize w1.alloc (.cells #[.slice F b.facts.length f,.slice G b.atoms.length g,.int .i64 x,.int .i64 p] tFg)=W at k8 k10 OB HB hsW hk8 ⊢;clear hy;have hlb:b.facts.length+1≤1049600:=by rw[HL.o];omega
  go_cut [12] (fun s12 wc=>∃ (xb:Nat) (F2:Option Addr) (f2:Nat) (G2:Option Addr) (g2:Nat),s12=.pointer (some ⟨xb,0,none⟩)∧aJ (AsnO wc w.heap.size (.agg #[.slice F2 (setX b x p t).facts.length f2,.slice G2 (setX b x p t).atoms.length g2]) (setX b x p t))∧Blk wc xb tAs #[.slice F2 (setX b x p t).facts.length f2,.slice G2 (setX b x p t).atoms.length g2]∧Blk wc (w.heap.size+1) tAs #[.slice none 0 0,.slice none 0 0]∧w.heap.size+2≤xb∧aJ (Below w.heap.size w wc))
  case first=>
   have lk10:=k10.lt;(go_wp2_with fail);refine wp_region_noPanic ?_;refine wp_region_held_drew (S:=(fun w'=>∀ i,w'.cell? ⟨y,i,none⟩=#[.slice F b.facts.length f,.slice G b.atoms.length g,.int .i64 x,.int .i64 p][i]?)) (by kernel_rfl) (k10.drew.cell) (fun aH=>?_);clear lk10;replace k8:=k8.drew;replace k10:=k10.drew;replace OB:=ax (OB.o.bz (Below.refl _ _).drew);replace HB:=ax HB.o.drew;have hzq:W.heap.size≤W.drew.heap.size:=Nat.le_refl _;generalize W.drew=wq at k8 k10 OB HB hzq aH ⊢;refine tk2 0 rfl aH (h:=tk2 1 rfl aH (h:=tk2 2 rfl aH (h:=?_)));(try simp only[zz]);refine tk2 3 rfl aH (h:=tk2 4 rfl aH (h:=?_));(try simp only[zz]);refine rdd 5 8 rfl rfl (fun K hK=>?_) fun K hK=>?_
   ·skip;(try simp only[zz]);go_simp;refine (c_fTerm _ _ x p t _).mono ?_;rintro e wq ⟨rfl,hBq⟩;replace OB:=ax (OB.o.bz hBq);replace k8:=k8.nz hBq;replace k10:=k10.nz hBq;replace HB:=ax (bgo HB.o hBq);replace hzq:=Nat.le_trans hzq hBq.size;clear hBq;refine hK.out _ _ k10.cell ?_;clear aH hK K;intro aH;refine tk2 6 rfl aH (h:=?_);(try simp only[zz]);refine rdd 7 8 rfl rfl (fun K hK=>?_) fun K hK=>?_
    ·skip;(try simp only[zz]);go_simp;refine (c_withFactX _ b x p t _ OB.o.rj hlb).mono ?_;rintro e wq ⟨F2,f2,G2,g2,rfl,oX,hBq⟩;have OX:=ax (oX.bq (base':=w.heap.size) (by omega));clear oX;replace k8:=k8.nz hBq;replace k10:=k10.nz hBq;replace HB:=ax (bgo HB.o hBq);replace hzq:=Nat.le_trans hzq hBq.size;clear hBq;refine hK.out _ _ k10.cell ?_;clear aH hK K;intro aH;refine rdc 8 rfl fun K hK=>?_;(try simp only[zz]);go_simp;refine hK.out _ _ ((rowC_ (bbox (Below.refl _ _) _) k10.lt k10.cell)) ?_;clear aH hK K;intro aH;(try simp only[zz]);have hBq:Below wq.heap.size wq (wq.alloc (.cells #[.slice none 0 0,.slice none 0 0] tAs)):=bbox (Below.refl _ _) _;have kBox:Blk (wq.alloc (.cells #[.slice none 0 0,.slice none 0 0] tAs)) wq.heap.size tAs #[.slice none 0 0,.slice none 0 0]:=Blk.new _ _ _;obtain ⟨xb,hxb⟩:∃ x,x=wq.heap.size:=⟨_,rfl⟩;have hxb2:W.heap.size≤xb:=by omega
     replace k8:=k8.nz hBq;replace k10:=k10.nz hBq;replace HB:=ax (bgo HB.o hBq);replace hzq:=Nat.le_trans hzq hBq.size;(try replace OB:=ax (OB.o.bz hBq));(try replace OX:=ax (OX.o.bz hBq));rw[←hxb] at kBox ⊢;clear hBq hxb;generalize wq.alloc (.cells #[.slice none 0 0,.slice none 0 0] tAs)=wq at *;have hlB:=kBox.lt;have qb:=kBox.cell;have rb:=kBox.frozen;refine rdc 9 rfl fun K hK=>?_;(try simp only[zz]);go_simp;refine hK.out _ _ (((k10.far (p:=⟨xb,0,none⟩) (k10.ne_ kBox (by decide)) _).far (p:=⟨xb,1,none⟩) (k10.ne_ kBox (by decide)) _).cell) ?_;clear aH hK K;intro aH;(try simp only[zz]);refine dn1 ?_;(go_wp2_with fail);go_meet
     case rel=>
      refine ⟨xb,F2,f2,G2,g2,rfl,ax (AsnO.setT2 OX.o kBox _ _),?_,(k8.far (p:=⟨xb,0,none⟩) (by simp only;omega) _).far (p:=⟨xb,1,none⟩) (by simp only;omega) _,by omega,ax ((HB.o.setCell (p:=⟨xb,0,none⟩) (by simp only;omega) _).setCell (p:=⟨xb,1,none⟩) (by simp only;omega) _)⟩;have:=(kBox.set_ 0 (.slice F2 (setX b x p t).facts.length f2)).set_ 1 (.slice G2 (setX b x p t).atoms.length g2);simpa using this
    ·skip;(try simp only[zz]);go_simp;refine hK.out _ _ (rowC_ (bbox (Below.refl _ _) _) k10.lt k10.cell) ?_;clear aH hK K;intro aH;have hBq:Below wq.heap.size wq (wq.alloc (.cells #[.slice none 0 0,.slice none 0 0] tAs)):=bbox (Below.refl _ _) _;have kBox:Blk (wq.alloc (.cells #[.slice none 0 0,.slice none 0 0] tAs)) wq.heap.size tAs #[.slice none 0 0,.slice none 0 0]:=Blk.new _ _ _;obtain ⟨xb,hxb⟩:∃ x,x=wq.heap.size:=⟨_,rfl⟩;have hxb2:W.heap.size≤xb:=by omega
     replace k8:=k8.nz hBq;replace k10:=k10.nz hBq;replace HB:=ax (bgo HB.o hBq);replace hzq:=Nat.le_trans hzq hBq.size;(try replace OB:=ax (OB.o.bz hBq));(try replace OX:=ax (OX.o.bz hBq));rw[←hxb] at kBox ⊢;clear hBq hxb;generalize wq.alloc (.cells #[.slice none 0 0,.slice none 0 0] tAs)=wq at *;refine rdc 7 rfl fun K hK=>?_;(try simp only[zz]);(go_simp;refine (c_withFactX _ b x p t _ OB.o.rj hlb).mono ?_;rintro e wq ⟨F2,f2,G2,g2,rfl,oX,hBq⟩;have OX:=ax (oX.bq (base':=w.heap.size) (by omega));clear oX;replace k8:=k8.nz hBq;replace k10:=k10.nz hBq;replace HB:=ax (bgo HB.o hBq);replace hzq:=Nat.le_trans hzq hBq.size;have kBox:=kBox.nz hBq);refine hK.out _ _ (k10.cell) ?_;clear aH hK K;intro aH;(try simp only[zz]);clear hBq;have hlB:=kBox.lt;have qb:=kBox.cell;have rb:=kBox.frozen;refine rdc 9 rfl fun K hK=>?_;(try simp only[zz]);go_simp;refine hK.out _ _ (((k10.far (p:=⟨xb,0,none⟩) (k10.ne_ kBox (by decide)) _).far (p:=⟨xb,1,none⟩) (k10.ne_ kBox (by decide)) _).cell) ?_;clear aH hK K;intro aH;(try simp only[zz]);refine dn1 ?_;(go_wp2_with fail);go_meet
     case rel=>
      refine ⟨xb,F2,f2,G2,g2,rfl,ax (AsnO.setT2 OX.o kBox _ _),?_,(k8.far (p:=⟨xb,0,none⟩) (by simp only;omega) _).far (p:=⟨xb,1,none⟩) (by simp only;omega) _,by omega,ax ((HB.o.setCell (p:=⟨xb,0,none⟩) (by simp only;omega) _).setCell (p:=⟨xb,1,none⟩) (by simp only;omega) _)⟩;have:=(kBox.set_ 0 (.slice F2 (setX b x p t).facts.length f2)).set_ 1 (.slice G2 (setX b x p t).atoms.length g2);simpa using this
   ·skip;(try simp only[zz]);go_simp;refine hK.out _ _ (rowC_ (bbox (Below.refl _ _) _) k10.lt k10.cell) ?_;clear aH hK K;intro aH;have hBq:Below wq.heap.size wq (wq.alloc (.cells #[.slice none 0 0,.slice none 0 0] tAs)):=bbox (Below.refl _ _) _;have kBox:Blk (wq.alloc (.cells #[.slice none 0 0,.slice none 0 0] tAs)) wq.heap.size tAs #[.slice none 0 0,.slice none 0 0]:=Blk.new _ _ _;obtain ⟨xb,hxb⟩:∃ x,x=wq.heap.size:=⟨_,rfl⟩;have hxb2:W.heap.size≤xb:=by omega
    replace k8:=k8.nz hBq;replace k10:=k10.nz hBq;replace HB:=ax (bgo HB.o hBq);replace hzq:=Nat.le_trans hzq hBq.size;(try replace OB:=ax (OB.o.bz hBq));(try replace OX:=ax (OX.o.bz hBq));rw[←hxb] at kBox ⊢;clear hBq hxb;generalize wq.alloc (.cells #[.slice none 0 0,.slice none 0 0] tAs)=wq at *;refine rdc 5 rfl fun K hK=>?_;(try simp only[zz]);(go_simp;refine (c_fTerm _ _ x p t _).mono ?_;rintro e wq ⟨rfl,hBq⟩;replace OB:=ax (OB.o.bz hBq);replace k8:=k8.nz hBq;replace k10:=k10.nz hBq;replace HB:=ax (bgo HB.o hBq);replace hzq:=Nat.le_trans hzq hBq.size;have kBox:=kBox.nz hBq);refine hK.out _ _ (k10.cell) ?_;clear aH hK K;intro aH;(try simp only[zz]);clear hBq;refine tk2 6 rfl aH (h:=?_);refine rdc 7 rfl fun K hK=>?_;(try simp only[zz]);(go_simp;refine (c_withFactX _ b x p t _ OB.o.rj hlb).mono ?_;rintro e wq ⟨F2,f2,G2,g2,rfl,oX,hBq⟩;have OX:=ax (oX.bq (base':=w.heap.size) (by omega));clear oX;replace k8:=k8.nz hBq;replace k10:=k10.nz hBq;replace HB:=ax (bgo HB.o hBq);replace hzq:=Nat.le_trans hzq hBq.size;have kBox:=kBox.nz hBq);refine hK.out _ _ (k10.cell) ?_;clear aH hK K;intro aH;(try simp only[zz]);clear hBq;have hlB:=kBox.lt;have qb:=kBox.cell;have rb:=kBox.frozen;refine rdc 9 rfl fun K hK=>?_;(try simp only[zz]);go_simp;refine hK.out _ _ (((k10.far (p:=⟨xb,0,none⟩) (k10.ne_ kBox (by decide)) _).far (p:=⟨xb,1,none⟩) (k10.ne_ kBox (by decide)) _).cell) ?_;clear aH hK K;intro aH;(try simp only[zz]);refine dn1 ?_;(go_wp2_with fail);go_meet
    case rel=>
     refine ⟨xb,F2,f2,G2,g2,rfl,ax (AsnO.setT2 OX.o kBox _ _),?_,(k8.far (p:=⟨xb,0,none⟩) (by simp only;omega) _).far (p:=⟨xb,1,none⟩) (by simp only;omega) _,by omega,ax ((HB.o.setCell (p:=⟨xb,0,none⟩) (by simp only;omega) _).setCell (p:=⟨xb,1,none⟩) (by simp only;omega) _)⟩;have:=(kBox.set_ 0 (.slice F2 (setX b x p t).facts.length f2)).set_ 1 (.slice G2 (setX b x p t).atoms.length g2);simpa using this
  case rest=>
   obtain ⟨xb,F2,f2,G2,g2,rfl,OX,kb,k8,hxb,HB⟩:=hcut;have hl0:=kb.lt;have HVX:aJ (AsnV wc 0 wc.heap.size (.agg #[.slice F2 (setX b x p t).facts.length f2,.slice G2 (setX b x p t).atoms.length g2]) (setX b x p t)):=ax (OX.o.rj.mono0 (Nat.le_refl _));(replace qkb:=kb.z;replace qk8:=k8.cell;replace rk8:=k8.frozen;replace lk8:=k8.lt);(go_wp2_with fail);clear qk8 rk8 lk8;refine wp_region_noPanic ?_;refine wp_region_held_drew (S:=(fun w'=>∀ i,w'.cell? ⟨xb,i,none⟩=#[.slice F2 (setX b x p t).facts.length f2,.slice G2 (setX b x p t).atoms.length g2][i]?)) (by kernel_rfl) (kb.drew.cell) (fun aH=>?_);refine tk2 0 rfl aH (h:=tk2 1 rfl aH (h:=?_));refine rdc 2 rfl fun K hK=>?_;(try simp only[zz]);(go_simp;refine (jz _ (setX b x p t) _ (HVX.o.bz (Below.refl _ _).drew)).mono ?_;rintro e w8 ⟨rfl,hB8⟩;replace hB8:Below wc.heap.size wc w8:=(Below.refl _ _).drew.trans hB8;have kb8:=kb.nz hB8;have k88:=k8.nz hB8;have OX8:=ax (OX.o.bz hB8);have HB8:=ax (bgo HB.o hB8);clear hB8);refine hK.out _ _ (kb8.cell) ?_;clear aH hK K;intro aH;(try simp only[zz]);have q88:=k88.cell;have r88:=k88.frozen;have l88:=k88.lt;refine rdc 3 rfl fun K hK=>?_;(try simp only[zz]);go_simp;refine hK.out _ _ (((kb8.far (p:=⟨w.heap.size+1,0,none⟩) (by simp only;omega) _).far (p:=⟨w.heap.size+1,1,none⟩) (by simp only;omega) _).cell) ?_;clear aH hK K;intro aH;refine rdc 4 rfl fun K hK=>?_;(try simp only[zz]);go_simp;refine hK.out _ _ (((kb8.far (p:=⟨w.heap.size+1,0,none⟩) (by simp only;omega) _).far (p:=⟨w.heap.size+1,1,none⟩) (by simp only;omega) _).cell) ?_;clear aH hK K;intro aH;(try simp only[zz]);refine dn1 ?_;(go_wp2_with fail);have z6:=((k88.set_ 0 (.slice F2 (setX b x p t).facts.length f2)).set_ 1 (.slice G2 (setX b x p t).atoms.length g2)).cell;refine bodyPost_ret (v:=.tuple #[.agg #[.slice F2 (setX b x p t).facts.length f2,.slice G2 (setX b x p t).atoms.length g2],.bool ((setX b x p t)).valid]) (by simp[results,Tryz.results266,go_sem,z6]) rfl ⟨_,by rw[E.o,okX_some],?_,?_⟩
   ·rw[E.o];exact OptO.okX (AsnO.setT2 OX8.o k88 _ _)
   ·exact (HB8.o.setCell (p:=⟨w.heap.size+1,0,none⟩) (by simp only;omega) _).setCell (p:=⟨w.heap.size+1,1,none⟩) (by simp only;omega) _
theorem c_impl_allocatedFor {lo hi:Nat} (v:Value) (a:Asn) (x:Int) (K:Nat) (w:World) (h:AsnV w lo hi v a) (hK:K<512) (hx:jq x=true) (hl:a.atoms.length≤1000) :
  Calls Tryz.prog 267 #[v,.int .i64 x,.int .u16 K] w fun e w'=>∃ r,e=.returned (.tuple #[r,.bool (cellNF a x K).isSome])∧OptO w' w.heap.size r (cellNF a x K)∧Below w.heap.size w w':=by
 have hV:=ax h;obtain ⟨A1,c1,A2,c2,rfl,-,-⟩:=h;(go_enter Tryz.func267,Tryz.ntmps267);have k0:Blk ((w.alloc (.cells #[.slice A1 a.facts.length c1,.slice A2 a.atoms.length c2] tAs)).alloc (.cells #[.slice none 0 0,.slice none 0 0] tAs)) w.heap.size tAs #[.slice A1 a.facts.length c1,.slice A2 a.atoms.length c2]:=blks;have k8:Blk ((w.alloc (.cells #[.slice A1 a.facts.length c1,.slice A2 a.atoms.length c2] tAs)).alloc (.cells #[.slice none 0 0,.slice none 0 0] tAs)) (w.heap.size+1) tAs #[.slice none 0 0,.slice none 0 0]:=blks;(go_wp2_with fail);refine (c_impl_forget _ a x K _ (hV.o.bz bel) hK hx).mono ?_;rintro e w1 ⟨hF,hB1⟩;have hB:=bgo (w:=w) bel hB1;replace k0:=k0.nz hB1;replace k8:=k8.nz hB1;have hz:=hB1.size;simp only[World.size_alloc] at hz;clear hB1
 cases hf:forgetF a x K with
 | none=>
  rw[hf] at hF;simp only[FgR] at hF;subst hF;have E:aJ (cellNF a x K=none):=ax (by unfold cellNF;rw[hf];rfl);clear hf;(replace qk8:=k8.cell;replace rk8:=k8.frozen;replace lk8:=k8.lt);(go_wp2_with fail);refine bodyPost_ret (v:=.tuple #[.agg #[.slice none 0 0,.slice none 0 0],.bool false]) (by simp[results,Tryz.results267,go_sem,qk8,lk8]) rfl ⟨_,by rw[E.o];rfl,?_,bel⟩;rw[E.o];exact OptO.none _ _
 | some bp=>
  obtain ⟨b,p⟩:=bp;rw[hf] at hF;simp only[FgR] at hF;obtain ⟨F,f,G,g,rfl,oB⟩:=hF;have E:aJ (cellNF a x K=okX (newX b x)):=ax (by unfold cellNF;rw[hf];rfl);have HL:aJ (b.atoms.length=a.atoms.length):=ax (forget_alen hf);have OB:=ax (oB.bq (base':=w.heap.size) (by (try simp)<;>omega));clear hf oB;(replace qk8:=k8.cell;replace rk8:=k8.frozen;replace lk8:=k8.lt);(go_upto_region 5 with fail);have k10:Blk ((w1.alloc (.cells #[.slice F b.facts.length f,.slice G b.atoms.length g,.int .i64 x,.int .i64 p] tFg)).alloc (.cells #[.int .i64 1,.int .i64 x,.int .i64 0] tA)) w1.heap.size tFg #[.slice F b.facts.length f,.slice G b.atoms.length g,.int .i64 x,.int .i64 p]:=blks;have hBq:Below w1.heap.size w1 ((w1.alloc (.cells #[.slice F b.facts.length f,.slice G b.atoms.length g,.int .i64 x,.int .i64 p] tFg)).alloc (.cells #[.int .i64 1,.int .i64 x,.int .i64 0] tA)):=bbox (bbox (Below.refl _ _) _) _;have kf:Blk ((w1.alloc (.cells #[.slice F b.facts.length f,.slice G b.atoms.length g,.int .i64 x,.int .i64 p] tFg)).alloc (.cells #[.int .i64 1,.int .i64 x,.int .i64 0] tA)) (w1.heap.size+1) tA #[.int .i64 1,.int .i64 x,.int .i64 0]:=Blk.newE (by simp);replace k8:=k8.nz hBq;replace OB:=ax (OB.o.bz hBq);have HB:=ax (bgo hB hBq);have hk8:=k8.lt;have hyW:w.heap.size+2≤w1.heap.size:=by omega
  obtain ⟨y,hy⟩:∃ y,y=w1.heap.size:=⟨_,rfl⟩;have hsW:((w1.alloc (.cells #[.slice F b.facts.length f,.slice G b.atoms.length g,.int .i64 x,.int .i64 p] tFg)).alloc (.cells #[.int .i64 1,.int .i64 x,.int .i64 0] tA)).heap.size=y+2:=by simp[hy]
  rw[←hy] at k10 kf hyW ⊢;clear hBq k0 hB qk8 rk8 lk8;generalize (w1.alloc (.cells #[.slice F b.facts.length f,.slice G b.atoms.length g,.int .i64 x,.int .i64 p] tFg)).alloc (.cells #[.int .i64 1,.int .i64 x,.int .i64 0] tA)=W at k8 k10 kf OB HB hsW hk8 ⊢;clear hy;have hlb:(newX b x).atoms.length≤1049600:=by have:=HL.o;simp[newX];omega
  go_cut [11] (fun s12 wc=>∃ (xb:Nat) (F2:Option Addr) (f2:Nat) (G2:Option Addr) (g2:Nat),s12=.pointer (some ⟨xb,0,none⟩)∧aJ (AsnO wc w.heap.size (.agg #[.slice F2 (newX b x).facts.length f2,.slice G2 (newX b x).atoms.length g2]) (newX b x))∧Blk wc xb tAs #[.slice F2 (newX b x).facts.length f2,.slice G2 (newX b x).atoms.length g2]∧Blk wc (w.heap.size+1) tAs #[.slice none 0 0,.slice none 0 0]∧w.heap.size+2≤xb∧aJ (Below w.heap.size w wc))
  case first=>
   have lk10:=k10.lt;(go_wp2_with fail);refine wp_region_noPanic ?_;refine wp_region_held_drew (S:=(fun w'=>∀ i,w'.cell? ⟨y,i,none⟩=#[.slice F b.facts.length f,.slice G b.atoms.length g,.int .i64 x,.int .i64 p][i]?)) (by kernel_rfl) (k10.drew.cell) (fun aH=>?_);clear lk10;replace k8:=k8.drew;replace k10:=k10.drew;replace kf:=kf.drew;replace OB:=ax (OB.o.bz (Below.refl _ _).drew);replace HB:=ax HB.o.drew;have hzq:W.heap.size≤W.drew.heap.size:=Nat.le_refl _;generalize W.drew=wq at k8 k10 kf OB HB hzq aH ⊢;refine tk2 0 rfl aH (h:=tk2 1 rfl aH (h:=tk2 2 rfl aH (h:=?_)));(try simp only[zz]);refine tk2 3 rfl aH (h:=tk2 4 rfl aH (h:=tk2 5 rfl aH (h:=?_)));(try simp only[zz]);refine tk2 6 rfl aH (h:=?_);(try simp only[zz]);refine rdd 7 9 rfl rfl (fun K hK=>?_) fun K hK=>?_
   ·skip;(try simp only[zz]);go_simp;refine (c_joinAn (some ⟨y+1,0,none⟩) G 1 g (newX b x).atoms.length [⟨1,x,0⟩] b.atoms _ (AtomsV.one (f:=⟨1,x,0⟩) kf) OB.o.atomsV (by simp[newX]<;>omega) hlb).mono ?_;rintro e wq ⟨G2,g2,rfl,oX,hBq⟩;replace OB:=ax (OB.o.bz hBq);have OX:aJ (AsnO wq w.heap.size (.agg #[.slice F (newX b x).facts.length f,.slice G2 (newX b x).atoms.length g2]) (newX b x)):=ax (AsnO.mkA OB.o (oX.bq (by omega)));clear oX;replace k8:=k8.nz hBq;replace k10:=k10.nz hBq;replace kf:=kf.nz hBq;replace HB:=ax (bgo HB.o hBq);replace hzq:=Nat.le_trans hzq hBq.size;clear hBq;refine hK.out _ _ k10.cell ?_;clear aH hK K;intro aH;refine tk2 8 rfl aH (h:=?_);refine rdc 9 rfl fun K hK=>?_;(try simp only[zz]);go_simp;refine hK.out _ _ ((rowC_ (bbox (Below.refl _ _) _) k10.lt k10.cell)) ?_;clear aH hK K;intro aH;(try simp only[zz]);have hBq:Below wq.heap.size wq (wq.alloc (.cells #[.slice none 0 0,.slice none 0 0] tAs)):=bbox (Below.refl _ _) _;have kBox:Blk (wq.alloc (.cells #[.slice none 0 0,.slice none 0 0] tAs)) wq.heap.size tAs #[.slice none 0 0,.slice none 0 0]:=Blk.new _ _ _;obtain ⟨xb,hxb⟩:∃ x,x=wq.heap.size:=⟨_,rfl⟩;have hxb2:W.heap.size≤xb:=by omega
    replace k8:=k8.nz hBq;replace k10:=k10.nz hBq;replace kf:=kf.nz hBq;replace HB:=ax (bgo HB.o hBq);replace hzq:=Nat.le_trans hzq hBq.size;(try replace OB:=ax (OB.o.bz hBq));(try replace OX:=ax (OX.o.bz hBq));rw[←hxb] at kBox ⊢;clear hBq hxb;generalize wq.alloc (.cells #[.slice none 0 0,.slice none 0 0] tAs)=wq at *;have hlB:=kBox.lt;have qb:=kBox.cell;have rb:=kBox.frozen;refine rdc 10 rfl fun K hK=>?_;(try simp only[zz]);go_simp;refine hK.out _ _ (((k10.far (p:=⟨xb,0,none⟩) (k10.ne_ kBox (by decide)) _).far (p:=⟨xb,1,none⟩) (k10.ne_ kBox (by decide)) _).cell) ?_;clear aH hK K;intro aH;(try simp only[zz]);refine dn1 ?_;(go_wp2_with fail);go_meet
    case rel=>
     refine ⟨xb,F,f,G2,g2,rfl,ax (AsnO.setT2 OX.o kBox _ _),?_,(k8.far (p:=⟨xb,0,none⟩) (by simp only;omega) _).far (p:=⟨xb,1,none⟩) (by simp only;omega) _,by omega,ax ((HB.o.setCell (p:=⟨xb,0,none⟩) (by simp only;omega) _).setCell (p:=⟨xb,1,none⟩) (by simp only;omega) _)⟩;have:=(kBox.set_ 0 (.slice F b.facts.length f)).set_ 1 (.slice G2 (newX b x).atoms.length g2);simp only[List.setIfInBounds_toArray,List.set_cons_zero,List.set_cons_succ] at this;exact this
   ·skip;(try simp only[zz]);go_simp;refine hK.out _ _ (rowC_ (bbox (Below.refl _ _) _) k10.lt k10.cell) ?_;clear aH hK K;intro aH;have hBq:Below wq.heap.size wq (wq.alloc (.cells #[.slice none 0 0,.slice none 0 0] tAs)):=bbox (Below.refl _ _) _;have kBox:Blk (wq.alloc (.cells #[.slice none 0 0,.slice none 0 0] tAs)) wq.heap.size tAs #[.slice none 0 0,.slice none 0 0]:=Blk.new _ _ _;obtain ⟨xb,hxb⟩:∃ x,x=wq.heap.size:=⟨_,rfl⟩;have hxb2:W.heap.size≤xb:=by omega
    replace k8:=k8.nz hBq;replace k10:=k10.nz hBq;replace kf:=kf.nz hBq;replace HB:=ax (bgo HB.o hBq);replace hzq:=Nat.le_trans hzq hBq.size;(try replace OB:=ax (OB.o.bz hBq));(try replace OX:=ax (OX.o.bz hBq));rw[←hxb] at kBox ⊢;clear hBq hxb;generalize wq.alloc (.cells #[.slice none 0 0,.slice none 0 0] tAs)=wq at *;refine rdc 7 rfl fun K hK=>?_;(try simp only[zz]);(go_simp;refine (c_joinAn (some ⟨y+1,0,none⟩) G 1 g (newX b x).atoms.length [⟨1,x,0⟩] b.atoms _ (AtomsV.one (f:=⟨1,x,0⟩) kf) OB.o.atomsV (by simp[newX]<;>omega) hlb).mono ?_;rintro e wq ⟨G2,g2,rfl,oX,hBq⟩;replace OB:=ax (OB.o.bz hBq);have OX:aJ (AsnO wq w.heap.size (.agg #[.slice F (newX b x).facts.length f,.slice G2 (newX b x).atoms.length g2]) (newX b x)):=ax (AsnO.mkA OB.o (oX.bq (by omega)));clear oX;replace k8:=k8.nz hBq;replace k10:=k10.nz hBq;replace kf:=kf.nz hBq;replace HB:=ax (bgo HB.o hBq);replace hzq:=Nat.le_trans hzq hBq.size;have kBox:=kBox.nz hBq);refine hK.out _ _ (k10.cell) ?_;clear aH hK K;intro aH;(try simp only[zz]);clear hBq;refine tk2 8 rfl aH (h:=?_);(try simp only[zz]);have hlB:=kBox.lt;have qb:=kBox.cell;have rb:=kBox.frozen;refine rdc 10 rfl fun K hK=>?_;(try simp only[zz]);go_simp;refine hK.out _ _ (((k10.far (p:=⟨xb,0,none⟩) (k10.ne_ kBox (by decide)) _).far (p:=⟨xb,1,none⟩) (k10.ne_ kBox (by decide)) _).cell) ?_;clear aH hK K;intro aH;(try simp only[zz]);refine dn1 ?_;(go_wp2_with fail);go_meet
    case rel=>
     refine ⟨xb,F,f,G2,g2,rfl,ax (AsnO.setT2 OX.o kBox _ _),?_,(k8.far (p:=⟨xb,0,none⟩) (by simp only;omega) _).far (p:=⟨xb,1,none⟩) (by simp only;omega) _,by omega,ax ((HB.o.setCell (p:=⟨xb,0,none⟩) (by simp only;omega) _).setCell (p:=⟨xb,1,none⟩) (by simp only;omega) _)⟩;have:=(kBox.set_ 0 (.slice F b.facts.length f)).set_ 1 (.slice G2 (newX b x).atoms.length g2);simp only[List.setIfInBounds_toArray,List.set_cons_zero,List.set_cons_succ] at this;exact this
  case rest=>
   obtain ⟨xb,F2,f2,G2,g2,rfl,OX,kb,k8,hxb,HB⟩:=hcut;have hl0:=kb.lt;have HVX:aJ (AsnV wc 0 wc.heap.size (.agg #[.slice F2 (newX b x).facts.length f2,.slice G2 (newX b x).atoms.length g2]) (newX b x)):=ax (OX.o.rj.mono0 (Nat.le_refl _));(replace qkb:=kb.z;replace qk8:=k8.cell;replace rk8:=k8.frozen;replace lk8:=k8.lt);(go_wp2_with fail);clear qk8 rk8 lk8;refine wp_region_noPanic ?_;refine wp_region_held_drew (S:=(fun w'=>∀ i,w'.cell? ⟨xb,i,none⟩=#[.slice F2 (newX b x).facts.length f2,.slice G2 (newX b x).atoms.length g2][i]?)) (by kernel_rfl) (kb.drew.cell) (fun aH=>?_);refine tk2 0 rfl aH (h:=tk2 1 rfl aH (h:=?_));refine rdc 2 rfl fun K hK=>?_;(try simp only[zz]);(go_simp;refine (jz _ (newX b x) _ (HVX.o.bz (Below.refl _ _).drew)).mono ?_;rintro e w8 ⟨rfl,hB8⟩;replace hB8:Below wc.heap.size wc w8:=(Below.refl _ _).drew.trans hB8;have kb8:=kb.nz hB8;have k88:=k8.nz hB8;have OX8:=ax (OX.o.bz hB8);have HB8:=ax (bgo HB.o hB8);clear hB8);refine hK.out _ _ (kb8.cell) ?_;clear aH hK K;intro aH;(try simp only[zz]);have q88:=k88.cell;have r88:=k88.frozen;have l88:=k88.lt;refine rdc 3 rfl fun K hK=>?_;(try simp only[zz]);go_simp;refine hK.out _ _ (((kb8.far (p:=⟨w.heap.size+1,0,none⟩) (by simp only;omega) _).far (p:=⟨w.heap.size+1,1,none⟩) (by simp only;omega) _).cell) ?_;clear aH hK K;intro aH;refine rdc 4 rfl fun K hK=>?_;(try simp only[zz]);go_simp;refine hK.out _ _ (((kb8.far (p:=⟨w.heap.size+1,0,none⟩) (by simp only;omega) _).far (p:=⟨w.heap.size+1,1,none⟩) (by simp only;omega) _).cell) ?_;clear aH hK K;intro aH;(try simp only[zz]);refine dn1 ?_;(go_wp2_with fail);have z6:=((k88.set_ 0 (.slice F2 (newX b x).facts.length f2)).set_ 1 (.slice G2 (newX b x).atoms.length g2)).cell;refine bodyPost_ret (v:=.tuple #[.agg #[.slice F2 (newX b x).facts.length f2,.slice G2 (newX b x).atoms.length g2],.bool ((newX b x)).valid]) (by simp[results,Tryz.results267,go_sem,z6]) rfl ⟨_,by rw[E.o,okX_some],?_,?_⟩
   ·rw[E.o];exact OptO.okX (AsnO.setT2 OX8.o k88 _ _)
   ·exact (HB8.o.setCell (p:=⟨w.heap.size+1,0,none⟩) (by simp only;omega) _).setCell (p:=⟨w.heap.size+1,1,none⟩) (by simp only;omega) _
end
section
open Go Go.RowKit Go.Proofs
theorem noFct_cases (t:Fct):t=⟨false,0,0⟩∨(t.eq=true∧noFct t=false)∨(t.eq=false∧t.a≠0∧noFct t=false)∨(t.eq=false∧t.a=0∧t.b≠0∧noFct t=false):=by
 obtain ⟨q,a,b⟩:=t;simp only[noFct,Fct.mk.injEq];cases q
 ·by_cases ha:a=0
  ·by_cases hb:b=0
   ·simp[ha,hb]
   ·simp[ha,hb]
  ·simp[ha]
 ·simp
/- a basic command that is not plain -/
theorem fields_no {lo hi:Nat} (k a b:Int) (t:Fct) (i:Asn) (A1 A2 A3 A4:Option Addr) (c1 c2 c3 c4:Nat) (body els:Cms) (w:World) (hA:AsnV w lo hi (.agg #[.slice A1 i.facts.length c1,.slice A2 i.atoms.length c2]) i) (h3:body.len≤1049600) (h4:els.len≤1049600) (hk:1≤k∧k≤5) (hn:plainB t i body els=false) :
  Calls Tryz.prog 212 #[.agg #[.int .i64 k,.int .i64 a,.int .i64 b,.bool t.eq,.int .i64 t.a,.int .i64 t.b,.slice A1 i.facts.length c1,.slice A2 i.atoms.length c2,.slice A3 body.len c3,.slice A4 els.len c4]] w fun e w'=>e=.returned (.bool false)∧Below w.heap.size w w':=by
 have h1:i.facts.length≤1049600:=by obtain ⟨_,_,_,_,e,g1,g2⟩:=hA;exact g1.le
 have h2:i.atoms.length≤1049600:=by obtain ⟨_,_,_,_,e,g1,g2⟩:=hA;exact g2.le
 have hkb:basicB k=true:=by simp[basicB,hk]
 replace hkb:=ax hkb;clear hA hk;obtain ⟨y,hy⟩:∃ y,y=noAsn i:=⟨_,rfl⟩;replace hy:=ax hy;obtain rfl|⟨u1,-⟩|⟨u1,u2,-⟩|⟨u1,u2,u3,-⟩:=noFct_cases t
 case' inr.inl=>rw[u1];clear u1
 case' inr.inr.inl=>rw[u1];clear u1
 case' inr.inr.inr=>rw[u1,u2];clear u1 u2
 case inl=>
  have hn':(y&&(decide (body.len=0)&&decide (els.len=0)))=false:=by rw[hy.o];simpa[plainB,noFct] using hn
  clear hn;replace hn':=ax hn';(go_enter Tryz.func212,Tryz.ntmps212);(go_wp2_with fail);refine (c_impl_isBasic k a b ⟨false,0,0⟩ _ _ _ _ _).mono ?_;rintro e w1 ⟨rfl,hB1⟩;rw[hkb.o];have hB:=bgo (w:=w) bel hB1;have K0:=(Blk.nz (g:=w.heap.size) (Blk.new w _ _) hB1);have q0:=K0.cell;have l0:=K0.lt;clear hB1;(go_wp2_with fail);refine (c_impl_noAssertion A1 A2 c1 c2 i _ h1 h2).mono ?_;rintro e w2 ⟨rfl,hB2⟩;rw[←hy.o];have hBB:=bgo hB hB2;have K1:=K0.nz hB2;clear q0 l0 hB2;have q0:=K1.cell;have l0:=K1.lt;cases y
  ·(go_wp2_with fail);go_ret;exact ⟨zjD rfl,hBB⟩
  by_cases z1:body.len=0
  case neg=>
   have z1':0<body.len:=by omega
   (go_wp2_with fail);go_ret;exact ⟨zjD rfl,hBB⟩
  by_cases z2:els.len=0
  case neg=>
   have z2':0<els.len:=by omega
   (go_wp2_with fail);go_ret;exact ⟨zjD rfl,hBB⟩
  exact absurd hn'.o (by simp[z1,z2])
 case inr.inl=>
  clear hn;(go_enter Tryz.func212,Tryz.ntmps212);(go_wp2_with fail);refine (c_impl_isBasic k a b ⟨true,t.a,t.b⟩ _ _ _ _ _).mono ?_;rintro e w1 ⟨rfl,hB1⟩;rw[hkb.o];have hB:=bgo (w:=w) bel hB1;have K0:=(Blk.nz (g:=w.heap.size) (Blk.new w _ _) hB1);have q0:=K0.cell;have l0:=K0.lt;clear hB1;(go_wp2_with fail);go_ret;exact ⟨zjD rfl,hB⟩
 case inr.inr.inl=>
  clear hn;(go_enter Tryz.func212,Tryz.ntmps212);(go_wp2_with fail);refine (c_impl_isBasic k a b ⟨false,t.a,t.b⟩ _ _ _ _ _).mono ?_;rintro e w1 ⟨rfl,hB1⟩;rw[hkb.o];have hB:=bgo (w:=w) bel hB1;have K0:=(Blk.nz (g:=w.heap.size) (Blk.new w _ _) hB1);have q0:=K0.cell;have l0:=K0.lt;clear hB1;(go_wp2_with fail);go_ret;exact ⟨zjD rfl,hB⟩
 case inr.inr.inr=>
  clear hn;(go_enter Tryz.func212,Tryz.ntmps212);(go_wp2_with fail);refine (c_impl_isBasic k a b ⟨false,0,t.b⟩ _ _ _ _ _).mono ?_;rintro e w1 ⟨rfl,hB1⟩;rw[hkb.o];have hB:=bgo (w:=w) bel hB1;have K0:=(Blk.nz (g:=w.heap.size) (Blk.new w _ _) hB1);have q0:=K0.cell;have l0:=K0.lt;clear hB1;(go_wp2_with fail);go_ret;exact ⟨zjD rfl,hB⟩
theorem fields_yes {lo hi:Nat} (k a b:Int) (t:Fct) (i:Asn) (A1 A2 A3 A4:Option Addr) (c1 c2 c3 c4:Nat) (body els:Cms) (w:World) (hA:AsnV w lo hi (.agg #[.slice A1 i.facts.length c1,.slice A2 i.atoms.length c2]) i) (h3:body.len≤1049600) (h4:els.len≤1049600) (hk:1≤k∧k≤5) (hn:plainB t i body els=true) :
  Calls Tryz.prog 212 #[.agg #[.int .i64 k,.int .i64 a,.int .i64 b,.bool t.eq,.int .i64 t.a,.int .i64 t.b,.slice A1 i.facts.length c1,.slice A2 i.atoms.length c2,.slice A3 body.len c3,.slice A4 els.len c4]] w fun e w'=>e=.returned (.bool (fieldsB k a b))∧Below w.heap.size w w':=by
 have h1:i.facts.length≤1049600:=by obtain ⟨_,_,_,_,e,g1,g2⟩:=hA;exact g1.le
 have h2:i.atoms.length≤1049600:=by obtain ⟨_,_,_,_,e,g1,g2⟩:=hA;exact g2.le
 have hkb:basicB k=true:=by simp[basicB,hk]
 replace hkb:=ax hkb;replace hk:=ax hk;clear hA;have hn':noFct t=true∧noAsn i=true∧body.len=0∧els.len=0:=by simpa[plainB] using hn
 obtain ⟨e1,e2,e3,e4⟩:=hn';rw[e3,e4];clear hn e3 e4;obtain rfl:t=⟨false,0,0⟩:=by simpa[noFct] using e1
 clear e1;replace e2:=ax e2;obtain ⟨R,hR⟩:∃ R,R=fieldsB k a b:=⟨_,rfl⟩;rw[←hR];unfold fieldsB at hR;obtain ⟨pa,hpa⟩:∃ pa,pa=isProgB a:=⟨_,rfl⟩;obtain ⟨ta,hta⟩:∃ ta,ta=jq a:=⟨_,rfl⟩;obtain ⟨tb,htb⟩:∃ tb,tb=jq b:=⟨_,rfl⟩;rw[←hpa,←hta,←htb] at hR;replace hpa:=ax hpa;replace hta:=ax hta;replace htb:=ax htb;replace hR:=ax hR;(go_enter Tryz.func212,Tryz.ntmps212);(go_wp2_with fail);refine (c_impl_isBasic k a b ⟨false,0,0⟩ _ _ _ _ _).mono ?_;rintro e w1 ⟨rfl,hB1⟩;rw[hkb.o];have hB:=bgo (w:=w) bel hB1;have K0:=(Blk.nz (g:=w.heap.size) (Blk.new w _ _) hB1);have q0:=K0.cell;have l0:=K0.lt;(go_wp2_with fail);refine (c_impl_noAssertion A1 A2 c1 c2 i _ h1 h2).mono ?_;rintro e w2 ⟨rfl,hB2⟩;rw[e2.o];have hBB:=bgo hB hB2;have K1:=K0.nz hB2;clear q0 l0;have q0:=K1.cell;have l0:=K1.lt;by_cases k1:k=1∨k=2
 ·have hR2:=ax (show R=(pa&&tb) from by rw[hR.o,if_pos k1]);clear hR;rcases k1 with rfl|rfl
  all_goals
   cases pa
   all_goals
    cases tb
    all_goals
     (go_wp2_with (first|(go_at_call 105;refine (c_impl_isProgramVar a _).mono ?_;rintro e w' ⟨rfl,rfl⟩;rw[←hpa.o])|(go_at_call 151;refine (c_impl_isTerm b _).mono ?_;rintro e w' ⟨rfl,rfl⟩;rw[←htb.o])));go_ret;exact ⟨zjD (by rw[hR2.o];rfl),hBB⟩
 by_cases k3:k=3
 ·have hR2:=ax (show R=(ta&&tb) from by rw[hR.o,if_neg k1,if_pos k3]);clear hR;subst k3;clear k1;cases ta
  all_goals
   cases tb
   all_goals
    (go_wp2_with (first|(go_at_call 151;refine (c_impl_isTerm a _).mono ?_;rintro e w' ⟨rfl,rfl⟩;rw[←hta.o])|(go_at_call 151;refine (c_impl_isTerm b _).mono ?_;rintro e w' ⟨rfl,rfl⟩;rw[←htb.o])));go_ret;exact ⟨zjD (by rw[hR2.o];rfl),hBB⟩
 by_cases k4:k=4
 ·have hR2:=ax (show R=(pa&&decide (b=0)) from by rw[hR.o,if_neg k1,if_neg k3,if_pos k4]);clear hR;subst k4;clear k1 k3;cases pa
  all_goals
   by_cases b0:b=0
   all_goals
    have hb0:=ax b0;(go_wp2_with (go_at_call 105;refine (c_impl_isProgramVar a _).mono ?_;rintro e w' ⟨rfl,rfl⟩;rw[←hpa.o]));go_ret;exact ⟨zjD (by rw[hR2.o];first|rfl|(simp_all)),hBB⟩
 obtain rfl:k=5:=by have:=hk.o;omega
 have hR2:=ax (show R=(ta&&decide (b=0)) from by rw[hR.o,if_neg k1,if_neg k3,if_neg k4,if_pos rfl]);clear hR k1 k3 k4;cases ta
 all_goals
  by_cases b0:b=0
  all_goals
   have hb0:=ax b0;(go_wp2_with (go_at_call 151;refine (c_impl_isTerm a _).mono ?_;rintro e w' ⟨rfl,rfl⟩;rw[←hta.o]));go_ret;exact ⟨zjD (by rw[hR2.o];first|rfl|(simp_all)),hBB⟩
theorem fields_far {lo hi:Nat} (k a b:Int) (t:Fct) (i:Asn) (A1 A2 A3 A4:Option Addr) (c1 c2 c3 c4:Nat) (body els:Cms) (w:World) (hA:AsnV w lo hi (.agg #[.slice A1 i.facts.length c1,.slice A2 i.atoms.length c2]) i) (h3:body.len≤1049600) (h4:els.len≤1049600) (hk:¬(1≤k∧k≤5)) :
  Calls Tryz.prog 212 #[.agg #[.int .i64 k,.int .i64 a,.int .i64 b,.bool t.eq,.int .i64 t.a,.int .i64 t.b,.slice A1 i.facts.length c1,.slice A2 i.atoms.length c2,.slice A3 body.len c3,.slice A4 els.len c4]] w fun e w'=>e=.returned (.bool (fvalB k a b t i body els))∧Below w.heap.size w w':=by
 have h1:i.facts.length≤1049600:=by obtain ⟨_,_,_,_,e,g1,g2⟩:=hA;exact g1.le
 have h2:i.atoms.length≤1049600:=by obtain ⟨_,_,_,_,e,g1,g2⟩:=hA;exact g2.le
 have hkb:basicB k=false:=by simp[basicB];omega
 replace hkb:=ax hkb;obtain ⟨F,hF⟩:∃ F,F=fvalB k a b t i body els:=⟨_,rfl⟩;rw[←hF];obtain ⟨tv,htv⟩:∃ x,x=t.valid:=⟨_,rfl⟩;obtain ⟨ni,hni⟩:∃ x,x=noAsn i:=⟨_,rfl⟩;obtain ⟨iv,hiv⟩:∃ x,x=i.valid:=⟨_,rfl⟩;replace htv:=ax htv;replace hni:=ax hni;replace hiv:=ax hiv;replace hF:=ax hF;replace hA:=ax hA;(go_enter Tryz.func212,Tryz.ntmps212);(go_wp2_with fail);refine (c_impl_isBasic k a b t _ _ _ _ _).mono ?_;rintro e w1 ⟨rfl,hB1⟩;rw[hkb.o];have hB:=bgo (w:=w) bel hB1;have K0:=(Blk.nz (g:=w.heap.size) (Blk.new w _ _) hB1);have q0:=K0.cell;have l0:=K0.lt;clear hB1;by_cases k6:k=6
 ·subst k6;clear hk;by_cases a0:a=0
  case neg=>
   (go_wp2_with fail);go_ret;exact ⟨zjD (hF.o.trans (by unfold fvalB;rw[if_pos rfl];simp[a0])).symm,hB⟩
  subst a0;by_cases b0:b=0
  case neg=>
   (go_wp2_with fail);go_ret;exact ⟨zjD (hF.o.trans (by unfold fvalB;rw[if_pos rfl];simp[b0])).symm,hB⟩
  subst b0;(go_wp2_with fail);refine (c_impl_FactValid t _).mono ?_;rintro e w2 ⟨rfl,hBx⟩;rw[←htv.o];replace hB:=bgo hB hBx;replace K0:=K0.nz hBx;replace q0:=K0.cell;replace l0:=K0.lt;clear hBx;cases tv
  case false=>
   (go_wp2_with fail);go_ret;exact ⟨zjD (hF.o.trans (by unfold fvalB;rw[if_pos rfl];simp[←htv.o])).symm,hB⟩
  (go_wp2_with fail);refine (c_impl_noAssertion A1 A2 c1 c2 i _ h1 h2).mono ?_;rintro e w3 ⟨rfl,hBx⟩;rw[←hni.o];replace hB:=bgo hB hBx;replace K0:=K0.nz hBx;replace q0:=K0.cell;replace l0:=K0.lt;clear hBx;have HFF:=ax (show F=ni from hF.o.trans (by unfold fvalB;rw[if_pos rfl];simp[←htv.o,←hni.o]));(go_wp2_with fail);go_ret;exact ⟨zjD HFF.o.symm,hB⟩
 by_cases k7:k=7
 ·subst k7;clear hk;by_cases a0:a=0
  case neg=>
   (go_wp2_with fail);go_ret;exact ⟨zjD (hF.o.trans (by unfold fvalB;rw[if_neg (by decide),if_pos rfl];simp[a0])).symm,hB⟩
  subst a0;by_cases b0:b=0
  case neg=>
   (go_wp2_with fail);go_ret;exact ⟨zjD (hF.o.trans (by unfold fvalB;rw[if_neg (by decide),if_pos rfl];simp[b0])).symm,hB⟩
  subst b0;(go_wp2_with fail);refine (c_impl_FactValid t _).mono ?_;rintro e w2 ⟨rfl,hBx⟩;rw[←htv.o];replace hB:=bgo hB hBx;replace K0:=K0.nz hBx;replace q0:=K0.cell;replace l0:=K0.lt;clear hBx;cases tv
  case false=>
   (go_wp2_with fail);go_ret;exact ⟨zjD (hF.o.trans (by unfold fvalB;rw[if_neg (by decide),if_pos rfl];simp[←htv.o])).symm,hB⟩
  (go_wp2_with fail);refine (jz _ i _ (hA.o.bz hB)).mono ?_;rintro e w3 ⟨rfl,hBx⟩;rw[←hiv.o];replace hB:=bgo hB hBx;replace K0:=K0.nz hBx;replace q0:=K0.cell;replace l0:=K0.lt;clear hBx;cases iv
  case false=>
   (go_wp2_with fail);go_ret;exact ⟨zjD (hF.o.trans (by unfold fvalB;rw[if_neg (by decide),if_pos rfl];simp[←hiv.o])).symm,hB⟩
  have HFF:=ax (show F=decide (els.len=0) from hF.o.trans (by unfold fvalB;rw[if_neg (by decide),if_pos rfl];simp[←htv.o,←hiv.o]));by_cases e0:els.len=0
  all_goals
   have He0:=ax e0;(go_wp2_with fail);go_ret;exact ⟨zjD (by rw[HFF.o];first|rfl|(simp_all)),hB⟩
 have HFF:aJ (F=false):=by
  rw[aJ,hF.o,fvalB_basic k6 k7]
  have:fieldsB k a b=false:=by
   cases h:fieldsB k a b
   ·rfl
   ·exact absurd (fieldsB_basic h) hk
  rw[this,Bool.and_false]
 have kk1:k≠1:=fun e=>hk (by omega);have kk2:k≠2:=fun e=>hk (by omega);have kk3:k≠3:=fun e=>hk (by omega);have kk4:k≠4:=fun e=>hk (by omega);have kk5:k≠5:=fun e=>hk (by omega);clear hk;(go_wp2_with fail);go_ret;exact ⟨zjD HFF.o.symm,hB⟩
theorem c_impl_fieldsValid {lo hi:Nat} (k a b:Int) (t:Fct) (i:Asn) (A1 A2 A3 A4:Option Addr) (c1 c2 c3 c4:Nat) (body els:Cms) (w:World) (hA:AsnV w lo hi (.agg #[.slice A1 i.facts.length c1,.slice A2 i.atoms.length c2]) i) (h3:body.len≤1049600) (h4:els.len≤1049600) :
  Calls Tryz.prog 212 #[.agg #[.int .i64 k,.int .i64 a,.int .i64 b,.bool t.eq,.int .i64 t.a,.int .i64 t.b,.slice A1 i.facts.length c1,.slice A2 i.atoms.length c2,.slice A3 body.len c3,.slice A4 els.len c4]] w fun e w'=>e=.returned (.bool (fvalB k a b t i body els))∧Below w.heap.size w w':=by
 by_cases hk:1≤k∧k≤5
 ·rw[fvalB_basic (by omega) (by omega)];cases hn:plainB t i body els
  ·exact fields_no k a b t i A1 A2 A3 A4 c1 c2 c3 c4 body els w hA h3 h4 hk hn
  ·exact fields_yes k a b t i A1 A2 A3 A4 c1 c2 c3 c4 body els w hA h3 h4 hk hn
 ·exact fields_far k a b t i A1 A2 A3 A4 c1 c2 c3 c4 body els w hA h3 h4 hk
theorem idx2 (A B:Option Addr) (n m c d:Nat) (w:World):(Instr.index 245 (.agg #[.slice A n c,.slice B m d]) (.int .i64 0)).run Tryz.prog w=.ok (.slice A n c) w∧(Instr.index 245 (.agg #[.slice A n c,.slice B m d]) (.int .i64 1)).run Tryz.prog w=.ok (.slice B m d) w:=by
 have h:=Tryz.underlying245
 constructor<;>simp[Instr.index,run_underlying h,asIntOf,go_sem]
def cvB (L:Cms) (d:Nat) (room:Int):Bool:=L.shape d&&decide ((L.sz:Int)≤room)
def cvN (L:Cms) (d:Nat) (room:Int):Int:=if cvB L d room then L.sz else 0
theorem cvN_true {L:Cms} {d:Nat} {room:Int} (h:cvB L d room=true):cvN L d room=L.sz:=by unfold cvN;rw[if_pos h]
theorem cvN_false {L:Cms} {d:Nat} {room:Int} (h:cvB L d room=false):cvN L d room=0:=by unfold cvN;rw[h];rfl
theorem countValid_go:∀ (N:Nat) (L:Cms),L.sz<N→∀ (A:Option Addr) (c d lo hi:Nat) (D room:Int) (w:World),CmsV w lo hi A L→L.len≤1049600→L.small 1049600→D+d=5→1≤D→0≤room→room≤16→
  Calls Tryz.prog 157 #[.slice A L.len c,.int .i64 D,.int .i64 room] w fun e w'=>e=.returned (.tuple #[.int .i64 (cvN L d room),.bool (cvB L d room)])∧Below w.heap.size w w':=by
 intro N
 induction N with
 | zero=>intro L h;omega
 | succ N IH=>
  intro L hsz A c d lo hi D room w hV hlen hsm hD hD1 hr0 hr1;replace IH:=ax IH;replace hV:=ax hV;replace hsm:=ax hsm;replace hsz:=ax hsz;obtain ⟨n,hn⟩:∃ n,n=L.len:=⟨_,rfl⟩;obtain ⟨T,hT⟩:∃ T,T=cvN L d room:=⟨_,rfl⟩;obtain ⟨R,hR⟩:∃ R,R=cvB L d room:=⟨_,rfl⟩;have hno:R=false→T=0:=fun h=>by rw[hT];exact cvN_false (by rw[←hR];exact h)
  have hyes:R=true→T=L.sz:=fun h=>by rw[hT];exact cvN_true (by rw[←hR];exact h)
  rw[←hn,←hR,←hT];rw[←hn] at hlen;replace hn:=ax hn;replace hR:=ax hR;replace hno:=ax hno;replace hyes:=ax hyes;replace hD:=ax hD;clear hT;by_cases q1:room<n
  ·have e0:R=false:=by
    rw[hR.o,cvB,Bool.and_eq_false_iff];right;have:=Cms.len_sz L;have h2:=hn.o;simp;omega
   rw[e0,hno.o e0];(go_enter Tryz.func157,Tryz.ntmps157);(go_wp2_with fail);go_ret2;exact ⟨rfl,bel⟩
  by_cases q2:0<n
  case' neg=>
   obtain rfl:n=0:=by omega
   have e1:L=.nil:=by
    have:=hn.o
    cases L with
    | nil=>rfl
    | cons=>simp[Cms.len] at this
  case' pos=>
   by_cases q3:4<D
   ·have e0:R=false:=by
     rw[hR.o,cvB,Bool.and_eq_false_iff];left;obtain ⟨k,a,b,t,i,body,els,r,eL⟩:=Cms.cons_of_len (L:=L) (by rw[←hn.o];exact q2);obtain rfl:d=0:=by have:=hD.o;omega
     rw[eL];rfl
    rw[e0,hno.o e0];(go_enter Tryz.func157,Tryz.ntmps157);(go_wp2_with fail);go_ret2;exact ⟨rfl,bel⟩
   have hd1:aJ (1≤d):=by have:=hD.o;show 1≤d;omega
  case neg=>
   have e0:R=true:=by rw[hR.o,e1];simp[cvB,Cms.shape,Cms.sz,hr0]
   have e2:T=0:=by rw[hyes.o e0,e1];rfl
   rw[e0,e2];clear e1 e0 e2;(go_enter Tryz.func157,Tryz.ntmps157);(go_wp2_with fail)
   go_loopw [8,32] (fun m x wr=>m=.int .i64 0∧x=.int .i64 0∧Below w.heap.size w wr) (fun _ _ _=>0)
   case atStart=>exact ⟨rfl,rfl,bel⟩
   case round=>
    obtain ⟨rfl,rfl,hB⟩:=hrel;(go_wp2_with fail);go_ret2;exact ⟨rfl,hB⟩
  (go_enter Tryz.func157,Tryz.ntmps157);(go_wp2_with fail)
  go_loopw [8,32] (fun y x wr=>∃ j m:Nat,j≤n∧x=.int .i64 j∧y=.int .i64 m∧(m:Int)≤room∧aJ (m+(L.drop j).sz=L.sz+(L.drop j).len)∧aJ (L.shape d=(L.drop j).shape d)∧Below w.heap.size w wr) (fun _ x _=>n - (intOf x).toNat)
  case atStart=>exact ⟨0,n,Nat.zero_le _,rfl,rfl,by omega,ax (by have:=hn.o;show n+L.sz=L.sz+L.len;omega),ax rfl,bel⟩
  case round=>
   obtain ⟨j,m,hj,rfl,rfl,hm,HZ,HR,hB⟩:=hrel;by_cases hlt:j<n
   ·have hpos:0<(L.drop j).len:=by rw[Cms.drop_len,←hn.o];omega
    obtain ⟨k,a,b,t,i,body,els,r,eL⟩:=Cms.cons_of_len hpos;obtain ⟨bl,o,rfl,-,-,hAt⟩:=(hV.o.bz hB) (by rw[←hn.o];omega);have hDr:=hAt.drop j;have hS:=Cms.small_drop j hsm.o;have hZ:=Cms.sz_drop j L;have hDs:=Cms.drop_succ j L eL;have HR':=HR.o;have HZ':=HZ.o;rw[eL] at hDr hS hZ HR' HZ';obtain ⟨⟨p0,p1,p2,p3,p4,p5⟩,⟨A6,c6,p6,g6⟩,⟨A7,c7,p7,g7⟩,⟨A8,c8,p8,g8⟩,⟨A9,c9,p9,g9⟩,-⟩:=hDr;obtain ⟨s1,s2,s3,s4,s5,s6,-⟩:=hS;simp only[Cms.sz] at hZ;simp only[Cms.sz,Cms.len] at HZ';have hbs:body.sz<N:=by have:=hsz.o;omega
    have hes:els.sz<N:=by have:=hsz.o;omega
    have hrl:=Cms.len_sz r;have gA:AsnV wr lo hi (.agg #[.slice A6 i.facts.length c6,.slice A7 i.atoms.length c7]) i:=⟨_,_,_,_,rfl,⟨g6,s1⟩,⟨g7,s2⟩⟩;have gB:aJ (CmsV wr lo hi A8 body):=g8;have gE:aJ (CmsV wr lo hi A9 els):=g9;obtain ⟨e,rfl⟩:∃ e,d=e+1:=⟨d - 1,by have:=hd1.o;omega⟩;rw[Cms.shape.eq_2,decide_eq_true (by omega),Bool.true_and,Nat.add_sub_cancel,←hDs] at HR';obtain ⟨F,hF⟩:∃ F,F=fvalB k a b t i body els:=⟨_,rfl⟩;rw[←hF] at HR';have f1:F=false→R=false:=fun h=>by rw[hR.o,cvB,HR',h];rfl
    have f2:cvB body e (room - m)=false→R=false:=fun h=>by
     rw[cvB,Bool.and_eq_false_iff] at h;rw[hR.o,cvB,Bool.and_eq_false_iff];rcases h with h|h
     ·left;rw[HR',h];simp
     ·right;simp at h ⊢;omega
    have f3:cvB els e (room - ((m+body.sz:Nat):Int))=false→R=false:=fun h=>by
     rw[cvB,Bool.and_eq_false_iff] at h;rw[hR.o,cvB,Bool.and_eq_false_iff];rcases h with h|h
     ·left;rw[HR',h];simp
     ·right;simp at h ⊢;omega
    have t2:cvB body e (room - m)=true→body.shape e=true∧(body.sz:Int)≤room - m:=fun h=>by simpa[cvB] using h
    have t3:cvB els e (room - ((m+body.sz:Nat):Int))=true→els.shape e=true∧(els.sz:Int)≤room - ((m+body.sz:Nat):Int):=fun h=>by simpa[cvB] using h
    replace f1:=ax f1;replace f2:=ax f2;replace f3:=ax f3;replace t2:=ax t2;replace t3:=ax t3;replace HR':=ax HR';replace HZ':=ax HZ';replace hbs:=ax hbs;replace hes:=ax hes;replace s5:=ax s5;replace s6:=ax s6;replace gA:=ax gA;replace hF:=ax hF;replace hDs:=ax hDs;replace hrl:=ax hrl;clear hZ hpos hAt g6 g7 g8 g9 HR HZ eL;(go_wp2_with fail);refine (c_impl_fieldsValid k a b t i A6 A7 A8 A9 c6 c7 c8 c9 body els _ (gA.o.bz bel) s3 s4).mono ?_;rintro e' w1 ⟨rfl,hBx⟩;rw[←hF.o];have hB2:Below w.heap.size w w1:=bgo (bbox hB _) hBx;have hW:Below wr.heap.size wr w1:=bgo (bbox (Below.refl _ _) _) hBx;have k0:Blk w1 wr.heap.size tC #[.int .i64 k,.int .i64 a,.int .i64 b,.bool t.eq,.int .i64 t.a,.int .i64 t.b,.slice A6 i.facts.length c6,.slice A7 i.atoms.length c7,.slice A8 body.len c8,.slice A9 els.len c9]:=Blk.nz blks hBx;have q0:=k0.cell;have l0:=k0.lt;clear hBx gA p0 p1 p2 p3 p4 p5 p6 p7 p8 p9 k0;cases F
    ·have e0:=ax (f1.o (by simp));(go_wp2_with fail);go_ret2;exact ⟨by rw[e0.o,hno.o e0.o];rfl,hB2⟩
    have gB:=ax (gB.o.bz hW);have gE:=ax (gE.o.bz hW);clear hW hB;(go_wp2_with fail);clear q0 l0
    go_loopw [8,44] (fun y x wx=>∃ (q:Int) (m2:Nat),x=.int .i64 q∧y=.int .i64 m2∧(m2:Int)≤room∧aJ ((q=0∧m2=m)∨(q=1∧m2=m+body.sz∧body.shape e=true)∨(q=2∧m2=m+body.sz+els.sz∧body.shape e=true∧els.shape e=true))∧Below w1.heap.size w1 wx) (fun _ x _=>2 - (intOf x).toNat)
    case atStart=>exact ⟨0,m,rfl,rfl,hm,ax (.inl ⟨rfl,rfl⟩),Below.refl _ _⟩
    case round=>
     obtain ⟨q,m2,rfl,rfl,hm2,HQ,hBi⟩:=hrel;obtain ⟨hi0,hi1⟩:=idx2 A8 A9 body.len els.len c8 c9 wr;rcases HQ.o with ⟨rfl,rfl⟩|⟨rfl,rfl,y1⟩|⟨rfl,rfl,y1,y2⟩
     ·clear HQ;(go_wp2_with fail);refine (IH.o body hbs.o A8 c8 e lo hi (D+1) (room - m2) _ (gB.o.bz hBi) s3 s5.o (by have:=hD.o;omega) (by omega) (by omega) (by omega)).mono ?_;rintro e' w2 ⟨rfl,hBx⟩;have hB3:=bgo hB2 (bgo hBi hBx);have hB4:=bgo hBi hBx;clear hBx;obtain ⟨T1,hT1⟩:∃ x,x=cvN body e (room - m2):=⟨_,rfl⟩;obtain ⟨x1,hx1⟩:∃ x,x=cvB body e (room - m2):=⟨_,rfl⟩;have g1:x1=true→T1=body.sz:=fun h=>by rw[hT1];exact cvN_true (by rw[←hx1];exact h)
      rw[←hT1,←hx1];replace hx1:=ax hx1;replace g1:=ax g1;clear hT1;cases x1
      ·have e0:=ax (f2.o hx1.o.symm);(go_wp2_with fail);go_ret2;exact ⟨by rw[e0.o,hno.o e0.o];rfl,hB3⟩
      ·have T2:=t2.o hx1.o.symm;obtain rfl:=g1.o (by simp);have T2a:=ax T2.1;have T2b:=T2.2;clear T2;(go_wp2_with fail)
       go_round
       case rel=>exact ⟨1,m2+body.sz,by go_num,by push_cast;rfl,by push_cast;omega,ax (.inr (.inl ⟨rfl,rfl,T2a.o⟩)),hB4⟩
       case measure=>simp[intOf]
     ·clear HQ;replace y1:=ax y1;(go_wp2_with fail);refine (IH.o els hes.o A9 c9 e lo hi (D+1) (room - ((m+body.sz:Nat):Int)) _ (gE.o.bz hBi) s4 s6.o (by have:=hD.o;omega) (by omega) (by omega) (by omega)).mono ?_;rintro e' w2 ⟨rfl,hBx⟩;have hB3:=bgo hB2 (bgo hBi hBx);have hB4:=bgo hBi hBx;clear hBx;obtain ⟨T1,hT1⟩:∃ x,x=cvN els e (room - ((m+body.sz:Nat):Int)):=⟨_,rfl⟩;obtain ⟨x1,hx1⟩:∃ x,x=cvB els e (room - ((m+body.sz:Nat):Int)):=⟨_,rfl⟩;have g1:x1=true→T1=els.sz:=fun h=>by rw[hT1];exact cvN_true (by rw[←hx1];exact h)
      rw[←hT1,←hx1];replace hx1:=ax hx1;replace g1:=ax g1;clear hT1;cases x1
      ·have e0:=ax (f3.o hx1.o.symm);(go_wp2_with fail);go_ret2;exact ⟨by rw[e0.o,hno.o e0.o];rfl,hB3⟩
      ·have T2:=t3.o hx1.o.symm;obtain rfl:=g1.o (by simp);have T2a:=ax T2.1;have T2b:=T2.2;clear T2;(go_wp2_with fail)
       go_round
       case rel=>exact ⟨2,m+body.sz+els.sz,by go_num,by push_cast;rfl,by push_cast at T2b ⊢;omega,ax (.inr (.inr ⟨rfl,rfl,y1.o,T2a.o⟩)),hB4⟩
       case measure=>simp[intOf]
     ·clear HQ;replace y1:=ax y1;replace y2:=ax y2;have hB3:=bgo hB2 hBi;(go_wp2_with fail)
      go_round
      case rel=>
       refine ⟨j+1,m+body.sz+els.sz,by omega,by go_num,rfl,hm2,ax ?_,ax ?_,hB3⟩
       ·rw[hDs.o];have:=HZ'.o;omega
       ·rw[HR'.o,y1.o,y2.o];simp
      case measure=>simp[intOf];omega
   ·(go_wp2_with fail);go_ret2;obtain rfl:j=n:=by omega
    have e1:L.drop j=.nil:=by rw[hn.o];exact Cms.drop_all L
    have h2:=HR.o;have h3:=HZ.o;rw[e1] at h2 h3;simp only[Cms.sz,Cms.len,Nat.add_zero] at h3;have e0:R=true:=by rw[hR.o,cvB,h2];simp[Cms.shape];omega
    refine ⟨?_,hB⟩;rw[hyes.o e0,e0,←h3];rfl
theorem c_impl_ProgramValid {lo hi:Nat} (L:Cms) (A:Option Addr) (c:Nat) (w:World) (hV:CmsV w lo hi A L) (hlen:L.len≤1049600) (hsm:L.small 1049600) :
  Calls Tryz.prog 93 #[.slice A L.len c] w fun e w'=>e=.returned (.bool L.prog)∧Below w.heap.size w w':=by
 have hR:cvB L 4 16=L.prog:=by
  unfold cvB Cms.prog
  congr 1
  rw[decide_eq_decide];omega
 replace hR:=ax hR;replace hV:=ax hV;replace hsm:=ax hsm;(go_enter Tryz.func93,Tryz.ntmps93);(go_wp2_with fail);refine (countValid_go _ L (Nat.lt_succ_self _) A c 4 lo hi 1 16 w hV.o hlen hsm.o (by omega) (by omega) (by omega) (by omega)).mono ?_;rintro e w1 ⟨rfl,hB1⟩;rw[hR.o];(go_wp2_with fail);go_ret;exact ⟨rfl,hB1⟩
end
section
open Go Go.RowKit Go.Proofs
attribute [local go_sem ↓] Go.wp_at_zero Go.wp_at_succ
theorem AtomsO.storeB {w:World} {base g n c:Nat} {fs:List Atm} (h:AtomsO w base (.slice (some ⟨g,0,none⟩) n c) fs) (hk:0<fs.length) (v:Int) {x:Atm} (hx:fs[0]? = some x):AtomsO (w.setCell ⟨g,2,none⟩ (.int .i64 v)) base (.slice (some ⟨g,0,none⟩) n c) (fs.set 0 ⟨x.kind,x.a,v⟩):=by
 have e:fs[0]=x:=by rw[List.getElem?_eq_getElem hk] at hx;exact Option.some.inj hx
 have:=AtomsO.setB h (k:=0) hk v (gs:=fs.set 0 ⟨x.kind,x.a,v⟩) (by rw[e]);simpa using this
theorem c_without0 {lo hi:Nat} (v:Value) (a:Asn) (w:World) (h:AsnC w lo hi v a) (hi:0<a.atoms.length) :
  Calls Tryz.prog 290 #[v,.int .i64 0] w fun e w'=>∃ G g,e=.returned (.slice G (freeX a).atoms.length g)∧AtomsO w' w.heap.size (.slice G (freeX a).atoms.length g) (freeX a).atoms∧Below w.heap.size w w':=by
 have:=c_impl_without v a 0 w h hi;refine Calls.mono this ?_;rintro e w' ⟨r,rfl,o,hB⟩;obtain ⟨G,g,rfl,-⟩:=o.rj;exact ⟨G,g,rfl,o,hB⟩
theorem c_acc2 {lo hi:Nat} (v:Value) (a:Asn) (A B:Int) (t:Fct) (X1 X2 X3 X4:Option Addr) (n1 n2 n3 n4 d1 d2 d3 d4 K0:Nat) (w:World) (h:AsnC w lo hi v a) (h0:0<a.atoms.length) (hl:a.facts.length≤1000∧a.atoms.length≤1000) (hK0:K0<512) (HA:jq A=true) :
  Calls Tryz.prog 269 #[v,.agg #[.int .i64 2,.int .i64 A,.int .i64 B,.bool t.eq,.int .i64 t.a,.int .i64 t.b,.slice X1 n1 d1,.slice X2 n2 d2,.slice X3 n3 d3,.slice X4 n4 d4],.int .u16 K0] w fun e w'=>∃ r,e=.returned (.tuple #[r,.bool (accF 2 A B a K0).isSome])∧OptO w' w.heap.size r (accF 2 A B a K0)∧Below w.heap.size w w':=by
 have hV:=ax h;obtain ⟨A1,c1,A2,c2,rfl,h1,h2,-⟩:=h;have H1:=ax h1;have H2:=ax h2;obtain ⟨b,o,rfl,g0,g1,g2⟩:=h2.at h0;have E0:aJ (a.atoms[0]? = some (head0 a)):=ax (by unfold head0;rw[List.getElem?_eq_getElem h0];rfl);have e0:a.atoms[0]=head0 a:=by unfold head0;rw[List.getElem?_eq_getElem h0];rfl
 obtain ⟨xb,hxb⟩:∃ x,x=(head0 a).b:=⟨_,rfl⟩;rw[e0] at g0 g1 g2;rw[←hxb] at g2;replace hxb:=ax hxb;have hbl:=block_lt_of_cell g2;simp only[Nat.zero_mul,Nat.add_zero] at hbl g2;have hii:(0:Int)<(a.atoms.length:Int):=by omega
 clear h1 h2 g0 g1 e0;have E:aJ (accF 2 A B a K0=assignF a A xb K0):=ax (by rw[hxb.o];rfl);(go_enter Tryz.func269,Tryz.ntmps269);have k3:Blk (((w.alloc (.cells #[.slice A1 a.facts.length c1,.slice (some ⟨b,o,none⟩) a.atoms.length c2] tAs)).alloc (.cells #[.int .i64 2,.int .i64 A,.int .i64 B,.bool t.eq,.int .i64 t.a,.int .i64 t.b,.slice X1 n1 d1,.slice X2 n2 d2,.slice X3 n3 d3,.slice X4 n4 d4] tC)).alloc (.cells #[.slice none 0 0,.slice none 0 0] tAs)) w.heap.size tAs #[.slice A1 a.facts.length c1,.slice (some ⟨b,o,none⟩) a.atoms.length c2]:=blks;have k4:Blk (((w.alloc (.cells #[.slice A1 a.facts.length c1,.slice (some ⟨b,o,none⟩) a.atoms.length c2] tAs)).alloc (.cells #[.int .i64 2,.int .i64 A,.int .i64 B,.bool t.eq,.int .i64 t.a,.int .i64 t.b,.slice X1 n1 d1,.slice X2 n2 d2,.slice X3 n3 d3,.slice X4 n4 d4] tC)).alloc (.cells #[.slice none 0 0,.slice none 0 0] tAs)) (w.heap.size+1) tC #[.int .i64 2,.int .i64 A,.int .i64 B,.bool t.eq,.int .i64 t.a,.int .i64 t.b,.slice X1 n1 d1,.slice X2 n2 d2,.slice X3 n3 d3,.slice X4 n4 d4]:=blks;have k6:Blk (((w.alloc (.cells #[.slice A1 a.facts.length c1,.slice (some ⟨b,o,none⟩) a.atoms.length c2] tAs)).alloc (.cells #[.int .i64 2,.int .i64 A,.int .i64 B,.bool t.eq,.int .i64 t.a,.int .i64 t.b,.slice X1 n1 d1,.slice X2 n2 d2,.slice X3 n3 d3,.slice X4 n4 d4] tC)).alloc (.cells #[.slice none 0 0,.slice none 0 0] tAs)) (w.heap.size+1+1) tAs #[.slice none 0 0,.slice none 0 0]:=blks;have HB:aJ (Below w.heap.size w (((w.alloc (.cells #[.slice A1 a.facts.length c1,.slice (some ⟨b,o,none⟩) a.atoms.length c2] tAs)).alloc (.cells #[.int .i64 2,.int .i64 A,.int .i64 B,.bool t.eq,.int .i64 t.a,.int .i64 t.b,.slice X1 n1 d1,.slice X2 n2 d2,.slice X3 n3 d3,.slice X4 n4 d4] tC)).alloc (.cells #[.slice none 0 0,.slice none 0 0] tAs))):=ax bel;have hz:(((w.alloc (.cells #[.slice A1 a.facts.length c1,.slice (some ⟨b,o,none⟩) a.atoms.length c2] tAs)).alloc (.cells #[.int .i64 2,.int .i64 A,.int .i64 B,.bool t.eq,.int .i64 t.a,.int .i64 t.b,.slice X1 n1 d1,.slice X2 n2 d2,.slice X3 n3 d3,.slice X4 n4 d4] tC)).alloc (.cells #[.slice none 0 0,.slice none 0 0] tAs)).heap.size=w.heap.size+3:=by simp
 have hq2:(((w.alloc (.cells #[.slice A1 a.facts.length c1,.slice (some ⟨b,o,none⟩) a.atoms.length c2] tAs)).alloc (.cells #[.int .i64 2,.int .i64 A,.int .i64 B,.bool t.eq,.int .i64 t.a,.int .i64 t.b,.slice X1 n1 d1,.slice X2 n2 d2,.slice X3 n3 d3,.slice X4 n4 d4] tC)).alloc (.cells #[.slice none 0 0,.slice none 0 0] tAs)).cell? ⟨b,o+2,none⟩=some (.int .i64 xb):=(HB.o.cell (p:=⟨b,o+2,none⟩) hbl).trans g2;(go_upto_region 3 with fail);generalize (((w.alloc (.cells #[.slice A1 a.facts.length c1,.slice (some ⟨b,o,none⟩) a.atoms.length c2] tAs)).alloc (.cells #[.int .i64 2,.int .i64 A,.int .i64 B,.bool t.eq,.int .i64 t.a,.int .i64 t.b,.slice X1 n1 d1,.slice X2 n2 d2,.slice X3 n3 d3,.slice X4 n4 d4] tC)).alloc (.cells #[.slice none 0 0,.slice none 0 0] tAs))=W at k3 k4 k6 hq2 HB hz ⊢;have hdz:W.drew.heap.size=W.heap.size:=rfl;have hq2d:W.drew.cell? ⟨b,o+2,none⟩=some (.int .i64 xb):=hq2;refine wp_region_noPanic ?_;refine wp_region_held_drew (S:=(fun w'=>(∀ i,w'.cell? ⟨w.heap.size,i,none⟩=#[.slice A1 a.facts.length c1,.slice (some ⟨b,o,none⟩) a.atoms.length c2][i]?)∧(∀ i,w'.cell? ⟨w.heap.size+1,i,none⟩=#[.int .i64 2,.int .i64 A,.int .i64 B,.bool t.eq,.int .i64 t.a,.int .i64 t.b,.slice X1 n1 d1,.slice X2 n2 d2,.slice X3 n3 d3,.slice X4 n4 d4][i]?)∧w'.cell? ⟨b,o+2,none⟩=some (.int .i64 xb))) (by kernel_rfl) (⟨k3.drew.cell,k4.drew.cell,hq2d⟩) (fun aH=>?_);refine tk2 0 rfl aH (h:=tk2 1 rfl aH (h:=tk2 2 rfl aH (h:=?_)));(try simp only[zz]);refine tk2 3 rfl aH (h:=tk2 4 rfl aH (h:=tk2 5 rfl aH (h:=?_)));(try simp only[zz]);refine tk2 6 rfl aH (h:=tk2 7 rfl aH (h:=tk2 8 rfl aH (h:=?_)));refine rdc 9 rfl fun K hK=>?_;(try simp only[zz]);(go_simp;refine (c_impl_assigned _ a A xb K0 _ (hV.o.V.bz HB.o.drew) hK0 HA hl.1).mono ?_;rintro e w1 ⟨r,rfl,oX,hB1⟩;replace hB1:Below W.heap.size W w1:=(Below.refl _ _).drew.trans hB1;obtain ⟨⟨F,n,f,G,m,g,rfl⟩,oX⟩:=oX;have k31:=k3.nz hB1;have k41:=k4.nz hB1;have k61:=k6.nz hB1;have hq21:w1.cell? ⟨b,o+2,none⟩=some (.int .i64 xb):=(hB1.cell (p:=⟨b,o+2,none⟩) (by simp only;omega)).trans hq2;have HB1:=ax (bgo HB.o hB1);have OX:=ax oX;have hz1:=hB1.size;clear hB1 oX);refine hK.out _ _ (⟨k31.cell,k41.cell,hq21⟩) ?_;clear aH hK K;intro aH;(try simp only[zz]);refine tk2 10 rfl aH (h:=tk2 11 rfl aH (h:=?_));(try simp only[zz]);have l61:=k61.lt;have q61:=k61.cell;have r61:=k61.frozen;refine rdc 12 rfl fun K hK=>?_;(try simp only[zz]);go_simp;refine hK.out _ _ (⟨((k31.far (p:=⟨w.heap.size+1+1,0,none⟩) (by simp only;omega) _).far (p:=⟨w.heap.size+1+1,1,none⟩) (by simp only;omega) _).cell,((k41.far (p:=⟨w.heap.size+1+1,0,none⟩) (by simp only;omega) _).far (p:=⟨w.heap.size+1+1,1,none⟩) (by simp only;omega) _).cell,((((HB1.o.setCell (p:=⟨w.heap.size+1+1,0,none⟩) (by simp only;omega) _).setCell (p:=⟨w.heap.size+1+1,1,none⟩) (by simp only;omega) _).cell (p:=⟨b,o+2,none⟩) hbl).trans g2)⟩) ?_;clear aH hK K;intro aH;(try simp only[zz]);refine tk2 13 rfl aH (h:=?_);(try simp only[zz]);refine dn1 ?_;(go_wp2_with fail);have z6:=((k61.set_ 0 (.slice F n f)).set_ 1 (.slice G m g)).cell;refine bodyPost_ret (v:=.tuple #[.agg #[.slice F n f,.slice G m g],.bool (assignF a A xb K0).isSome]) (by simp[results,Tryz.results269,go_sem,z6]) rfl ⟨_,by rw[E.o],?_,?_⟩
 ·rw[E.o];exact ⟨⟨_,_,_,_,_,_,rfl⟩,fun c hc=>(AsnO.setT2 (OX.o c hc) k61 _ _).bq (by omega)⟩
 ·exact (HB1.o.setCell (p:=⟨w.heap.size+1+1,0,none⟩) (by simp only;omega) _).setCell (p:=⟨w.heap.size+1+1,1,none⟩) (by simp only;omega) _
theorem c_acc3 {lo hi:Nat} (v:Value) (a:Asn) (A B:Int) (t:Fct) (X1 X2 X3 X4:Option Addr) (n1 n2 n3 n4 d1 d2 d3 d4 K0:Nat) (w:World) (h:AsnC w lo hi v a) (h0:0<a.atoms.length) (hl:a.facts.length≤1000∧a.atoms.length≤1000) (hK0:K0<512) :
  Calls Tryz.prog 269 #[v,.agg #[.int .i64 3,.int .i64 A,.int .i64 B,.bool t.eq,.int .i64 t.a,.int .i64 t.b,.slice X1 n1 d1,.slice X2 n2 d2,.slice X3 n3 d3,.slice X4 n4 d4],.int .u16 K0] w fun e w'=>∃ r,e=.returned (.tuple #[r,.bool (accF 3 A B a K0).isSome])∧OptO w' w.heap.size r (accF 3 A B a K0)∧Below w.heap.size w w':=by
 have hV:=ax h;obtain ⟨A1,c1,A2,c2,rfl,h1,h2,-⟩:=h;have H1:=ax h1;have H2:=ax h2;obtain ⟨b,o,rfl,g0,g1,g2⟩:=h2.at h0;have E0:aJ (a.atoms[0]? = some (head0 a)):=ax (by unfold head0;rw[List.getElem?_eq_getElem h0];rfl);have e0:a.atoms[0]=head0 a:=by unfold head0;rw[List.getElem?_eq_getElem h0];rfl
 obtain ⟨xb,hxb⟩:∃ x,x=(head0 a).b:=⟨_,rfl⟩;rw[e0] at g0 g1 g2;rw[←hxb] at g2;replace hxb:=ax hxb;have hbl:=block_lt_of_cell g2;simp only[Nat.zero_mul,Nat.add_zero] at hbl g2;have hii:(0:Int)<(a.atoms.length:Int):=by omega
 clear h1 h2 g0 g1 e0;have E:aJ (accF 3 A B a K0=some (storeX a B)):=ax rfl;(go_enter Tryz.func269,Tryz.ntmps269);(go_upto_region 5 with fail);refine bx3 (w:=w) (F:=Code.wp _ _ _ _) ?_;rintro W k3 k4 k6 HB hz;replace HB:=ax HB;have hdz:W.drew.heap.size=W.heap.size:=rfl;(replace qk3:=k3.z;replace qk4:=k4.z;replace qk6:=k6.z);(go_wp2_with fail);refine (c_impl_copyAssertion _ a _ (hV.o.V.bz HB.o)).mono ?_;rintro e w1 ⟨r,rfl,oC,hB1⟩;obtain ⟨fv,av,rfl,of,oa⟩:=oC;obtain ⟨F,f,rfl,-⟩:=of.rj;obtain ⟨G,g,rfl,-⟩:=oa.rj;obtain ⟨gb,cur,-,rfl,hg,kg,hsz,x0,x1,x2,-⟩:=oa.open_ (k:=0) h0;simp only[Nat.zero_mul,Nat.zero_add] at x0 x1 x2;have k41:=k4.nz hB1;have k61:=k6.nz hB1;have HB1:=ax (bgo HB.o hB1);have hz1:=hB1.size;have OF:=ax of;have OA:=ax oa;clear of oa hB1 k3 k4 k6 qk3 qk4 qk6 HB x0 x1;have hgl:=kg.lt;have rg:=kg.frozen;have q2:=(kg.cell 2).trans x2;(replace qk41:=k41.z;replace qk61:=k61.z);(go_wp2_with fail);have hne:gb≠w.heap.size+1+1:=fun e=>by omega
 have k62:=k61.far (p:=⟨gb,2,none⟩) (fun e=>hne e.symm) (.int .i64 B);have OA1:=OA.o.storeB h0 B E0.o;have OF1:=OF.o.setT kg (by decide) 2 (.int .i64 B);have z6:=(((k62.set_ 0 (.slice F a.facts.length f)).set_ 1 (.slice (some ⟨gb,0,none⟩) a.atoms.length g)).alloc (.cells #[.slice F a.facts.length f,.slice (some ⟨gb,0,none⟩) a.atoms.length g] tAs)).cell
 have OX:AsnO (w1.setCell ⟨gb,2,none⟩ (.int .i64 B)) W.heap.size (.agg #[.slice F a.facts.length f,.slice (some ⟨gb,0,none⟩) a.atoms.length g]) (storeX a B):=by
  refine ⟨_,_,rfl,OF1,?_⟩;exact OA1
 have HB2:=(HB1.o.setCell (p:=⟨gb,2,none⟩) (by simp only;omega) (.int .i64 B));refine bodyPost_ret (v:=.tuple #[.agg #[.slice F a.facts.length f,.slice (some ⟨gb,0,none⟩) a.atoms.length g],.bool true]) (by simp[results,Tryz.results269,go_sem,z6]) rfl ⟨_,by rw[E.o];rfl,?_,?_⟩
 ·rw[E.o];refine OptO.some ((AsnO.setT2 OX k62 _ _).bq (by omega) |>.bz bel)
 ·exact bbox (((HB2.setCell (p:=⟨w.heap.size+1+1,0,none⟩) (by simp only;omega) _).setCell (p:=⟨w.heap.size+1+1,1,none⟩) (by simp only;omega) _)) _
theorem c_acc5 {lo hi:Nat} (v:Value) (a:Asn) (k A B:Int) (t:Fct) (X1 X2 X3 X4:Option Addr) (n1 n2 n3 n4 d1 d2 d3 d4 K0:Nat) (w:World) (h:AsnC w lo hi v a) (h0:0<a.atoms.length) (hl:a.facts.length≤1000∧a.atoms.length≤1000) (hK0:K0<512) (hk2:¬k=2) (hk3:¬k=3) :
  Calls Tryz.prog 269 #[v,.agg #[.int .i64 k,.int .i64 A,.int .i64 B,.bool t.eq,.int .i64 t.a,.int .i64 t.b,.slice X1 n1 d1,.slice X2 n2 d2,.slice X3 n3 d3,.slice X4 n4 d4],.int .u16 K0] w fun e w'=>∃ r,e=.returned (.tuple #[r,.bool (accF k A B a K0).isSome])∧OptO w' w.heap.size r (accF k A B a K0)∧Below w.heap.size w w':=by
 have hV:=ax h;obtain ⟨A1,c1,A2,c2,rfl,h1,h2,-⟩:=h;have H1:=ax h1;have H2:=ax h2;obtain ⟨b,o,rfl,g0,g1,g2⟩:=h2.at h0;have E0:aJ (a.atoms[0]? = some (head0 a)):=ax (by unfold head0;rw[List.getElem?_eq_getElem h0];rfl);have e0:a.atoms[0]=head0 a:=by unfold head0;rw[List.getElem?_eq_getElem h0];rfl
 obtain ⟨xb,hxb⟩:∃ x,x=(head0 a).b:=⟨_,rfl⟩;rw[e0] at g0 g1 g2;rw[←hxb] at g2;replace hxb:=ax hxb;have hbl:=block_lt_of_cell g2;simp only[Nat.zero_mul,Nat.add_zero] at hbl g2;have hii:(0:Int)<(a.atoms.length:Int):=by omega
 clear h1 h2 g0 g1 e0;have E:aJ (accF k A B a K0=some (freeX a)):=ax (by unfold accF;rw[if_neg hk2,if_neg hk3]);have b2:(k == 2)=false:=beq_false_of_ne hk2;have b3:(k == 3)=false:=beq_false_of_ne hk3;clear hk2 hk3;(go_enter Tryz.func269,Tryz.ntmps269);(go_upto_region 8 with fail);refine bx3 (w:=w) (F:=Code.wp _ _ _ _) ?_;rintro W k3 k4 k6 HB hz;replace HB:=ax HB;have hdz:W.drew.heap.size=W.heap.size:=rfl;(replace qk3:=k3.z;replace qk4:=k4.z;replace qk6:=k6.z);(go_wp2_with fail);clear qk3 qk4 qk6;refine wp_region_noPanic ?_;refine wp_region_held_drew (S:=(fun w'=>(∀ i,w'.cell? ⟨w.heap.size,i,none⟩=#[.slice A1 a.facts.length c1,.slice (some ⟨b,o,none⟩) a.atoms.length c2][i]?))) (by kernel_rfl) (k3.drew.cell) (fun aH=>?_);refine tk2 0 rfl aH (h:=tk2 1 rfl aH (h:=tk2 3 rfl aH (h:=?_)));refine rdc 2 rfl fun K hK=>?_;(try simp only[zz]);(go_simp;refine (c_joinF A1 none c1 0 a.facts [] _ (H1.o.bz HB.o.drew) (Rd.nil _ 0 0 _ _) (by simp;omega)).mono ?_;rintro e w1 ⟨r,rfl,oF,hB1⟩;rw[List.append_nil] at oF;obtain ⟨F,f,rfl,-⟩:=oF.rj;replace hB1:Below W.heap.size W w1:=(Below.refl _ _).drew.trans hB1;have k31:=k3.nz hB1;have k61:=k6.nz hB1;have HB1:=ax (bgo HB.o hB1);have OF:=ax (oF.bq (base':=w.heap.size) (by omega));have hz1:=hB1.size;clear hB1 oF);refine hK.out _ _ (k31.cell) ?_;clear aH hK K;intro aH;refine rdc 4 rfl fun K hK=>?_;(try simp only[zz]);(go_simp;refine (c_without0 _ a _ (hV.o.bz HB1.o) h0).mono ?_;rintro e w2 ⟨G,g,rfl,oA,hB2⟩;have k32:=k31.nz hB2;have k62:=k61.nz hB2;have HB2:=ax (bgo HB1.o hB2);have OF2:=ax (OF.o.bz hB2);have OA:=ax (oA.bq (base':=w.heap.size) (by omega));have hz2:=hB2.size;clear hB2 oA);refine hK.out _ _ (k32.cell) ?_;clear aH hK K;intro aH;(try simp only[zz]);refine tk2 5 rfl aH (h:=?_);(try simp only[zz]);have l62:=k62.lt;have q62:=k62.cell;have r62:=k62.frozen;refine rdc 6 rfl fun K hK=>?_;(try simp only[zz]);go_simp;refine hK.out _ _ (((k32.far (p:=⟨w.heap.size+1+1,0,none⟩) (by simp only;omega) _).far (p:=⟨w.heap.size+1+1,1,none⟩) (by simp only;omega) _).cell) ?_;clear aH hK K;intro aH;(try simp only[zz]);refine tk2 7 rfl aH (h:=?_);(try simp only[zz]);refine dn1 ?_;(go_wp2_with fail);have z6:=((k62.set_ 0 (.slice F a.facts.length f)).set_ 1 (.slice G (freeX a).atoms.length g)).cell;refine bodyPost_ret (v:=.tuple #[.agg #[.slice F a.facts.length f,.slice G (freeX a).atoms.length g],.bool true]) (by simp[results,Tryz.results269,go_sem,z6]) rfl ⟨_,by rw[E.o];rfl,?_,?_⟩
 ·rw[E.o];exact OptO.some (AsnO.setT2 (⟨_,_,rfl,OF2.o,OA.o⟩:AsnO w2 w.heap.size (.agg #[.slice F a.facts.length f,.slice G (freeX a).atoms.length g]) (freeX a)) k62 _ _)
 ·exact (HB2.o.setCell (p:=⟨w.heap.size+1+1,0,none⟩) (by simp only;omega) _).setCell (p:=⟨w.heap.size+1+1,1,none⟩) (by simp only;omega) _
theorem c_impl_accessed {lo hi:Nat} (v:Value) (a:Asn) (k A B:Int) (t:Fct) (X1 X2 X3 X4:Option Addr) (n1 n2 n3 n4 d1 d2 d3 d4 K0:Nat) (w:World) (h:AsnC w lo hi v a) (h0:0<a.atoms.length) (hl:a.facts.length≤1000∧a.atoms.length≤1000) (hK0:K0<512) (hA:k=2→jq A=true) :
  Calls Tryz.prog 269 #[v,.agg #[.int .i64 k,.int .i64 A,.int .i64 B,.bool t.eq,.int .i64 t.a,.int .i64 t.b,.slice X1 n1 d1,.slice X2 n2 d2,.slice X3 n3 d3,.slice X4 n4 d4],.int .u16 K0] w fun e w'=>∃ r,e=.returned (.tuple #[r,.bool (accF k A B a K0).isSome])∧OptO w' w.heap.size r (accF k A B a K0)∧Below w.heap.size w w':=by
 by_cases h2:k=2
 ·subst h2;exact c_acc2 v a A B t X1 X2 X3 X4 n1 n2 n3 n4 d1 d2 d3 d4 K0 w h h0 hl hK0 (hA rfl)
 ·by_cases h3:k=3
  ·subst h3;exact c_acc3 v a A B t X1 X2 X3 X4 n1 n2 n3 n4 d1 d2 d3 d4 K0 w h h0 hl hK0
  ·exact c_acc5 v a k A B t X1 X2 X3 X4 n1 n2 n3 n4 d1 d2 d3 d4 K0 w h h0 hl hK0 h2 h3
end
end Go.Proofs.YtjaohekkmlkinaaGreat
