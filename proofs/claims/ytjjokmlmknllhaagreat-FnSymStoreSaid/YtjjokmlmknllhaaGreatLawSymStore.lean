/- 'laws.FnSymStore' returns true for all bytes that can be read. -/
import Derived.Test.YtjjokmlmknllhaaGreatMDrawSy
import Derived.Test.YtjjokmlmknllhaaGreatMAlc
import Derived.Test.YtjjokmlmknllhaaGreatMSymS
import Derived.Test.YtjjokmlmknllhaaGreatMExpA
import Derived.Test.YtjjokmlmknllhaaGreatMFirstG
import Derived.Deep.DeepCutAuto
set_option linter.unusedSimpArgs false
set_option linter.unusedVariables false
namespace Go.Proofs.YtjjokmlmknllhaaGreat
open Go Go.RowKit Go.Proofs
attribute [local go_sem ↓] Go.wp_at_zero Go.wp_at_succ
theorem alloc_front {A:Int} {b:Asn} (h:frontB A b) (hA:isTermB A=true):allocF b A=true:=by
 obtain ⟨hv,y,rest,e⟩:=h
 unfold allocF
 rw[hv,hA,Bool.true_and,Bool.true_and,List.all_eq_true]
 intro c _
 unfold begB
 rw[List.any_eq_true]
 refine ⟨clsM (cl c) ⟨1,A,y⟩,?_,decide_eq_true rfl⟩
 unfold filledL
 rw[e]
 exact List.mem_map.2 ⟨⟨1,A,y⟩,List.mem_filter.2 ⟨List.mem_cons_self,rfl⟩,rfl⟩
theorem c_AllocZ {lo hi:Nat} (v:Value) (a:Asn) (t:Int) (w:World) (h:AsnV w lo hi v a) (hhi:hi≤w.heap.size) (ht:0≤t∧t<9) :
  Calls Tryz.prog 30 #[v,.int .i64 t] w fun e w'=>e=.returned (.bool (allocF a t))∧Below w.heap.size w w':=by
 obtain ⟨n,rfl⟩:=Int.eq_ofNat_of_zero_le ht.1
 exact c_impl_Allocated v a n w h hhi (by have:=ht.2;omega)
theorem store_facts {a:Asn} {x:Cm1} {ks:List Int} {D:List Asn} (h:symC a x ks=some D):(0≤x.a∧x.a≤8)∧(x.k=3∨x.k=4→∀ b∈D,allocF b x.a=true)∧(x.k=5→((exposeR a x.a (ks++[x.a,x.b])).getD []).length=D.length∧∀ (k:Nat) (h:k<((exposeR a x.a (ks++[x.a,x.b])).getD []).length) (h':k<D.length),((exposeR a x.a (ks++[x.a,x.b])).getD [])[k].atoms.length=D[k].atoms.length+1):=by
 unfold symC at h
 obtain ⟨-,hok,-⟩:=symR_some h
 obtain ⟨hA,hB,-⟩:=okC_term hok
 refine ⟨isTermB_iff.1 hA,fun hk b hb=>alloc_front (store_law h hk (fun _=>hB) b hb) hA,fun hk=>?_⟩
 rw[hk] at h
 obtain ⟨l0,h0,h1,h2⟩:=free_law h hA
 rw[h0,Option.getD_some]
 exact ⟨h1,h2⟩
set_option maxRecDepth 100000 in
set_option maxHeartbeats 12800000 in
theorem c_FnSymStore (v:Value) (A:Option Addr×Nat×Nat) (w:World) (h:v=.slice A.1 A.2.1 A.2.2∧BytesR w A.1 A.2.1 A.2.2):Calls Tryz.prog 5 #[v] w fun e w'=>e=.returned (.bool true)∧Below w.heap.size w w':=by
 obtain ⟨A,n,c⟩:=A
 obtain ⟨rfl,hR⟩:=h
 simp only at hR ⊢
 have HR:=Lib.hid hR
 clear hR
 by_cases hn:1048576<n
 ·have hni:(1048576:Int)<(n:Int):=by omega
  clear hn
  go_enter Tryz.func5,Tryz.ntmps5
  go_wp2_with fail
  go_ret
  exact ⟨rfl,bel⟩
 have hni:¬(1048576:Int)<(n:Int):=by omega
 clear hn
 go_enter Tryz.func5,Tryz.ntmps5
 go_wp2_with fail
 refine (c_DrawSymBasic A n c _ HR.out).mono ?_
 rintro e v1 ⟨r1,r2,a,x,KA,ks,kc,rfl,oa,oc,ok,hkl,hal,hB1⟩
 obtain ⟨F,e1,G,e2,rfl,-⟩:=oa.C
 have hcx:=oc
 obtain ⟨X1,y1,X2,y2,X3,y3,X4,y4,rfl,-,-,-⟩:=oc
 have hbq:=bbox (bbox (Below.refl _ v1) (.cells #[.slice F a.facts.length e1,.slice G a.atoms.length e2] tAs)) (.cells #[.int .i64 x.k,.int .i64 x.a,.int .i64 x.b,.bool x.t.eq,.int .i64 x.t.a,.int .i64 x.t.b,.slice X1 x.i.facts.length y1,.slice X2 x.i.atoms.length y2,.slice X3 x.body.len y3,.slice X4 x.els.len y4] tC)
 have HV:=Lib.hid ((oa.below hbq).C)
 have HC:=Lib.hid (hcx.below hbq)
 have HK:=Lib.hid (ok.reads)
 obtain ⟨KA',kc',eK,fk⟩:=HK.out
 injection eK with eK1 eK2 eK3
 subst eK1 eK3
 clear HK
 have HK:=Lib.hid (fk.below hbq)
 obtain ⟨k0,k1⟩:=blk2 v1 tAs tC #[.slice F a.facts.length e1,.slice G a.atoms.length e2] #[.int .i64 x.k,.int .i64 x.a,.int .i64 x.b,.bool x.t.eq,.int .i64 x.t.a,.int .i64 x.t.b,.slice X1 x.i.facts.length y1,.slice X2 x.i.atoms.length y2,.slice X3 x.body.len y3,.slice X4 x.els.len y4]
 have hz:v1.heap.size+1<((v1.alloc (.cells #[.slice F a.facts.length e1,.slice G a.atoms.length e2] tAs)).alloc (.cells #[.int .i64 x.k,.int .i64 x.a,.int .i64 x.b,.bool x.t.eq,.int .i64 x.t.a,.int .i64 x.t.b,.slice X1 x.i.facts.length y1,.slice X2 x.i.atoms.length y2,.slice X3 x.body.len y3,.slice X4 x.els.len y4] tC)).heap.size:=by simp
 have HB:=Lib.hid (bgo hB1 hbq)
 clear hbq oa hcx ok fk hB1 HR hni eK2
 go_upto_region 4 with fail
 generalize ((v1.alloc (.cells #[.slice F a.facts.length e1,.slice G a.atoms.length e2] tAs)).alloc (.cells #[.int .i64 x.k,.int .i64 x.a,.int .i64 x.b,.bool x.t.eq,.int .i64 x.t.a,.int .i64 x.t.b,.slice X1 x.i.facts.length y1,.slice X2 x.i.atoms.length y2,.slice X3 x.body.len y3,.slice X4 x.els.len y4] tC))=W1 at *
 (replace qk0:=k0.cell;replace rk0:=k0.frozen;replace lk0:=k0.lt;replace qk1:=k1.cell;replace rk1:=k1.frozen;replace lk1:=k1.lt)
 go_wp2_with fail
 refine (k_impl_SymBasic _ _ a x KA kc ks _ HV.out (by omega) HC.out HK.out).mono ?_
 rintro e w2 ⟨r2,rfl,⟨⟨vs,o2⟩,-⟩,hB2⟩
 obtain ⟨A2,c2,rfl⟩:=o2.form
 replace HV:=Lib.hid (HV.out.below hB2)
 replace HC:=Lib.hid (HC.out.below hB2)
 replace HK:=Lib.hid (HK.out.below hB2)
 replace HB:=Lib.hid (bgo HB.out hB2)
 replace k0:=k0.next hB2
 replace k1:=k1.next hB2
 have O2:=Lib.hid o2
 have hz2:=hB2.size
 clear hB2 o2 qk0 rk0 lk0 qk1 rk1 lk1
 (replace qk0:=k0.cell;replace rk0:=k0.frozen;replace lk0:=k0.lt;replace qk1:=k1.cell;replace rk1:=k1.frozen;replace lk1:=k1.lt)
 go_wp2_with fail
 refine (k_spec_SymBasic _ _ a x KA kc ks _ HV.out (by omega) HC.out HK.out (by omega)).mono ?_
 rintro e w3 ⟨r3,rfl,⟨⟨vs',o3⟩,-⟩,hB3⟩
 obtain ⟨A3,c3,rfl⟩:=o3.form
 replace HV:=Lib.hid (HV.out.below hB3)
 replace HC:=Lib.hid (HC.out.below hB3)
 replace HK:=Lib.hid (HK.out.below hB3)
 replace HB:=Lib.hid (bgo HB.out hB3)
 replace O2:=Lib.hid (O2.out.below hB3)
 have O3:=Lib.hid o3
 have hz3:=hB3.size
 replace k0:=k0.next hB3
 replace k1:=k1.next hB3
 clear hB3 o3 qk0 rk0 lk0 qk1 rk1 lk1
 cases hE:symC a x ks
 case none=>
  rw[hE] at O2 O3
  clear hE
  simp only[Option.getD_none] at O2 O3 ⊢
  (replace qk0:=k0.cell;replace rk0:=k0.frozen;replace lk0:=k0.lt;replace qk1:=k1.cell;replace rk1:=k1.frozen;replace lk1:=k1.lt)
  go_wp2_with fail
  refine (t_slAsns A2 A3 c2 c3 [] _ O2.out.reads.2 O3.out.reads.2).mono ?_
  rintro e w4 ⟨rfl,hB4⟩
  have HB4:=Lib.hid (bgo HB.out hB4)
  have O24:=Lib.hid (O2.out.below hB4)
  have O34:=Lib.hid (O3.out.below hB4)
  clear hB4
  go_wp2_with fail
  refine (t_slAsns A2 A3 c2 c3 [] _ O24.out.reads.2 O34.out.reads.2).mono ?_
  rintro e w5 ⟨rfl,hB5⟩
  have HB5:=Lib.hid (bgo HB4.out hB5)
  go_wp2_with fail
  go_ret
  exact ⟨rfl,HB5.out⟩
 case some D=>
  rw[hE] at O2 O3
  simp only[Option.getD_some] at O2 O3 ⊢
  have HE:=Lib.hid hE
  clear hE
  have hDl:D.length≤1049600:=O2.out.lim
  obtain ⟨hxa,hs1,hs2⟩:=store_facts HE.out
  have hxb:0≤x.a∧x.a<9:=by omega
  have HT:=Lib.hid hxb
  have HS1:=Lib.hid hs1
  obtain ⟨L0,hL0⟩:∃ L,L=(exposeR a x.a (ks++[x.a,x.b])).getD []:=⟨_,rfl⟩
  have hs2':x.k=5→L0.length=D.length∧∀ (k:Nat) (h:k<L0.length) (h':k<D.length),L0[k].atoms.length=D[k].atoms.length+1:=by rw[hL0];exact hs2
  have HS2:=Lib.hid hs2'
  have HL:=Lib.hid hL0
  clear hs1 hs2 hs2' hL0 hxa hxb HE
  (replace qk0:=k0.cell;replace rk0:=k0.frozen;replace lk0:=k0.lt;replace qk1:=k1.cell;replace rk1:=k1.frozen;replace lk1:=k1.lt)
  go_wp2_with fail
  refine (t_slAsns A2 A3 c2 c3 D _ O2.out.reads.2 O3.out.reads.2).mono ?_
  rintro e w4 ⟨rfl,hB4⟩
  replace HV:=Lib.hid (HV.out.below hB4)
  replace HC:=Lib.hid (HC.out.below hB4)
  replace HK:=Lib.hid (HK.out.below hB4)
  replace HB:=Lib.hid (bgo HB.out hB4)
  replace O2:=Lib.hid (O2.out.below hB4)
  replace O3:=Lib.hid (O3.out.below hB4)
  have hz4:=hB4.size
  replace k0:=k0.next hB4
  replace k1:=k1.next hB4
  clear hB4 qk0 rk0 lk0 qk1 rk1 lk1
  (replace qk0:=k0.cell;replace rk0:=k0.frozen;replace lk0:=k0.lt;replace qk1:=k1.cell;replace rk1:=k1.frozen;replace lk1:=k1.lt)
  go_upto_region 8 with fail
  clear qk0 rk0 lk0 qk1 rk1 lk1
  go_cut [10] (fun s10 wc=>∃ (A5:Option Addr) (c5:Nat) (vs5:List Value),s10=.slice A5 L0.length c5∧Hid (A2O wc w4.heap.size (.slice A5 L0.length c5) vs5 L0)∧Hid (Below w4.heap.size w4 wc))
  case first=>
   (replace qk0:=k0.cell;replace rk0:=k0.frozen;replace lk0:=k0.lt;replace qk1:=k1.cell;replace rk1:=k1.frozen;replace lk1:=k1.lt)
   go_wp2_with fail
   refine wp_region_noPanic ?_
   refine wp_region_held_drew (S:=(fun w'=>(∀ i,w'.cell? ⟨v1.heap.size,i,none⟩=#[.slice F a.facts.length e1,.slice G a.atoms.length e2][i]?)∧(∀ i,w'.cell? ⟨v1.heap.size+1,i,none⟩=#[.int .i64 x.k,.int .i64 x.a,.int .i64 x.b,.bool x.t.eq,.int .i64 x.t.a,.int .i64 x.t.b,.slice X1 x.i.facts.length y1,.slice X2 x.i.atoms.length y2,.slice X3 x.body.len y3,.slice X4 x.els.len y4][i]?))) (by kernel_rfl) (⟨k0.drew.cell,k1.drew.cell⟩) (fun hHeld=>?_)
   have HW:=Lib.hid ((Below.refl w4.heap.size w4).drew)
   clear qk0 rk0 lk0 qk1 rk1 lk1
   generalize w4.drew=wq at *
   refine tk 0 ?_ rfl (fun w hSw=>?_) hHeld ?_
   rotate_left
   ·((try dsimp only at hSw);go_split_ands;go_simp;(try with_reducible rfl))
   try simp only[Act.put,zA,zB,zC,zD,zE,zF]
   refine tk 1 ?_ rfl (fun w hSw=>?_) hHeld ?_
   rotate_left
   ·((try dsimp only at hSw);go_split_ands;go_simp;(try with_reducible rfl))
   try simp only[Act.put,zA,zB,zC,zD,zE,zF]
   refine tk 2 ?_ rfl (fun w hSw=>?_) hHeld ?_
   rotate_left
   ·((try dsimp only at hSw);go_split_ands;go_simp;(try with_reducible rfl))
   try simp only[Act.put,zA,zB,zC,zD,zE,zF]
   refine tk 4 ?_ rfl (fun w hSw=>?_) hHeld ?_
   rotate_left
   ·((try dsimp only at hSw);go_split_ands;go_simp;(try with_reducible rfl))
   try simp only[Act.put,zA,zB,zC,zD,zE,zF]
   refine tk 6 ?_ rfl (fun w hSw=>?_) hHeld ?_
   rotate_left
   ·((try dsimp only at hSw);go_split_ands;go_simp;(try with_reducible rfl))
   try simp only[Act.put,zA,zB,zC,zD,zE,zF]
   refine tk 7 ?_ rfl (fun w hSw=>?_) hHeld ?_
   rotate_left
   ·((try dsimp only at hSw);go_split_ands;go_simp;(try with_reducible rfl))
   try simp only[Act.put,zA,zB,zC,zD,zE,zF]
   refine tk 8 ?_ rfl (fun w hSw=>?_) hHeld ?_
   rotate_left
   ·((try dsimp only at hSw);go_split_ands;go_simp;(try with_reducible rfl))
   try simp only[Act.put,zA,zB,zC,zD,zE,zF]
   refine tk 9 ?_ rfl (fun w hSw=>?_) hHeld ?_
   rotate_left
   ·((try dsimp only at hSw);go_split_ands;go_simp;(try with_reducible rfl))
   try simp only[Act.put,zA,zB,zC,zD,zE,zF]
   refine wpAnyH_ready (rs:=[3,10]) (by kernel_rfl) (by simp) (AllReadyH.cons rfl (fun K hK=>?_) (AllReadyH.cons rfl (fun K hK=>?_) AllReadyH.nil))
   ·skip
    try simp only[zA,zB,zC]
    (go_simp;have hq:=bbox (Below.refl _ wq) (.cells #[] tI);have HX:=Lib.hid (bgo HW.out hq))
    refine hK.out _ _ (⟨(k0.next HX.out).cell,(k1.next HX.out).cell⟩) ?_
    clear hHeld hK K
    intro hHeld
    try simp only[Act.put,zA,zB,zC,zD,zE,zF]
    have kE:=Blk.new wq tI #[]
    have hlz:wq.heap.size<(wq.alloc (.cells #[] tI)).heap.size:=by simp
    obtain ⟨yE,hyE⟩:∃ y,y=wq.heap.size:=⟨_,rfl⟩
    have hyBE:w4.heap.size≤yE:=by have:=HW.out.size;omega
    try have hne:yE≠yL:=by omega
    try replace kL0:=kL0.next hq
    try replace OI:=Lib.hid (OI.out.below hq)
    rw[←hyE] at kE hlz ⊢
    have OI:Hid (IntsO (wq.alloc (.cells #[] tI)) w4.heap.size (.slice (some ⟨yE,0,none⟩) 0 0) []):=Lib.hid ⟨own_ofBlk kE hyBE,by simp[Lim]⟩
    clear kE
    replace HW:=HX
    clear HX hq hyE
    generalize wq.alloc (.cells #[] tI)=wq at *
    refine wpAnyH_ready (rs:=[5,10]) (by kernel_rfl) (by simp) (AllReadyH.cons rfl (fun K hK=>?_) (AllReadyH.cons rfl (fun K hK=>?_) AllReadyH.nil))
    ·skip
     refine stepIL2 (base:=w4.heap.size) (xs:=[]) (ys:=ks) rfl _ _ rfl rfl OI.out rfl (HK.out.below HW.out) (by simp<;>omega) HW.out.size ?_
     intro KC kc2 wq2 oN hg hq
     have HX:=Lib.hid (HW.out.trans hq)
     rw[List.nil_append] at oN ⊢
     replace OI:=Lib.hid oN
     replace HW:=HX
     clear HX oN hg hq
     refine hK.out _ _ ⟨(k0.next HW.out).cell,(k1.next HW.out).cell⟩ ?_
     clear hHeld hK K
     intro hHeld
     try simp only[Act.put,zA,zB,zC,zD,zE,zF]
     generalize wq2=wq at *
     refine rdc 10 rfl fun K hK=>?_
     try simp only[zA,zB,zC]
     (go_simp;have hq:=bbox (Below.refl _ wq) (.cells #[.int .i64 x.a,.int .i64 x.b] tI);have HX:=Lib.hid (bgo HW.out hq))
     refine hK.out _ _ (⟨(k0.next HX.out).cell,(k1.next HX.out).cell⟩) ?_
     clear hHeld hK K
     intro hHeld
     try simp only[Act.put,zA,zB,zC,zD,zE,zF]
     have kL:=Blk.new wq tI #[.int .i64 x.a,.int .i64 x.b]
     have hlz:wq.heap.size<(wq.alloc (.cells #[.int .i64 x.a,.int .i64 x.b] tI)).heap.size:=by simp
     obtain ⟨yL,hyL⟩:∃ y,y=wq.heap.size:=⟨_,rfl⟩
     have hyBL:w4.heap.size≤yL:=by have:=HW.out.size;omega
     try have hne:yE≠yL:=by omega
     try replace kL0:=kL0.next hq
     try replace OI:=Lib.hid (OI.out.below hq)
     rw[←hyL] at kL hlz ⊢
     have kL0:=kL
     clear kL
     replace HW:=HX
     clear HX hq hyL
     generalize wq.alloc (.cells #[.int .i64 x.a,.int .i64 x.b] tI)=wq at *
     refine rdc 11 rfl fun K hK=>?_
     refine stepIL2 (base:=w4.heap.size) (xs:=ks) (ys:=[x.a,x.b]) rfl _ _ rfl rfl OI.out rfl (IntsV.two kL0) (by simp<;>omega) HW.out.size ?_
     intro KC kc2 wq2 oN hg hq
     have HX:=Lib.hid (HW.out.trans hq)
     replace OI:=Lib.hid oN
     replace HW:=HX
     clear HX oN hg hq
     refine hK.out _ _ ⟨(k0.next HW.out).cell,(k1.next HW.out).cell⟩ ?_
     clear hHeld hK K
     intro hHeld
     try simp only[Act.put,zA,zB,zC,zD,zE,zF]
     generalize wq2=wq at *
     generalize ks++[x.a,x.b]=kk at *
     refine rdc 12 rfl fun K hK=>?_
     try simp only[zA,zB,zC]
     (go_simp;refine (c_impl_ExposeCell _ a x.a KC kc2 kk _ (HV.out.below HW.out) (by have:=HW.out.size;omega) OI.out.readsI.2).mono ?_;rintro e w5 ⟨r5,rfl,⟨⟨vs5,o5⟩,-⟩,hq⟩;obtain ⟨A5,c5,rfl⟩:=o5.form;have hs5:=HW.out.size;have HX:=Lib.hid (bgo HW.out hq);have O5:=Lib.hid (o5.lower (base':=w4.heap.size) hs5);rw[←HL.out] at O5 ⊢;clear hq o5)
     refine hK.out _ _ (⟨(k0.next HX.out).cell,(k1.next HX.out).cell⟩) ?_
     clear hHeld hK K
     intro hHeld
     try simp only[Act.put,zA,zB,zC,zD,zE,zF]
     refine tk 13 ?_ rfl (fun w hSw=>?_) hHeld ?_
     rotate_left
     ·((try dsimp only at hSw);go_split_ands;go_simp;(try with_reducible rfl))
     try simp only[Act.put,zA,zB,zC,zD,zE,zF]
     refine tk 14 ?_ rfl (fun w hSw=>?_) hHeld ?_
     rotate_left
     ·((try dsimp only at hSw);go_split_ands;go_simp;(try with_reducible rfl))
     try simp only[Act.put,zA,zB,zC,zD,zE,zF]
     refine tk 15 ?_ rfl (fun w hSw=>?_) hHeld ?_
     rotate_left
     ·((try dsimp only at hSw);go_split_ands;go_simp;(try with_reducible rfl))
     try simp only[Act.put,zA,zB,zC,zD,zE,zF]
     refine tk 16 ?_ rfl (fun w hSw=>?_) hHeld ?_
     rotate_left
     ·((try dsimp only at hSw);go_split_ands;go_simp;(try with_reducible rfl))
     try simp only[Act.put,zA,zB,zC,zD,zE,zF]
     refine tk 17 ?_ rfl (fun w hSw=>?_) hHeld ?_
     rotate_left
     ·((try dsimp only at hSw);go_split_ands;go_simp;(try with_reducible rfl))
     try simp only[Act.put,zA,zB,zC,zD,zE,zF]
     refine wpAnyH_done (by kernel_rfl) ?_ _
     refine NoPanic.normal ?_
     go_wp2_with fail
     go_meet
     case rel=>exact ⟨A5,c5,vs5,rfl,O5,HX⟩
    ·skip
     try simp only[zA,zB,zC]
     (go_simp;have hq:=bbox (Below.refl _ wq) (.cells #[.int .i64 x.a,.int .i64 x.b] tI);have HX:=Lib.hid (bgo HW.out hq))
     refine hK.out _ _ (⟨(k0.next HX.out).cell,(k1.next HX.out).cell⟩) ?_
     clear hHeld hK K
     intro hHeld
     try simp only[Act.put,zA,zB,zC,zD,zE,zF]
     have kL:=Blk.new wq tI #[.int .i64 x.a,.int .i64 x.b]
     have hlz:wq.heap.size<(wq.alloc (.cells #[.int .i64 x.a,.int .i64 x.b] tI)).heap.size:=by simp
     obtain ⟨yL,hyL⟩:∃ y,y=wq.heap.size:=⟨_,rfl⟩
     have hyBL:w4.heap.size≤yL:=by have:=HW.out.size;omega
     try have hne:yE≠yL:=by omega
     try replace kL0:=kL0.next hq
     try replace OI:=Lib.hid (OI.out.below hq)
     rw[←hyL] at kL hlz ⊢
     have kL0:=kL
     clear kL
     replace HW:=HX
     clear HX hq hyL
     generalize wq.alloc (.cells #[.int .i64 x.a,.int .i64 x.b] tI)=wq at *
     refine rdc 5 rfl fun K hK=>?_
     refine stepIL2 (base:=w4.heap.size) (xs:=[]) (ys:=ks) rfl _ _ rfl rfl OI.out rfl (HK.out.below HW.out) (by simp<;>omega) HW.out.size ?_
     intro KC kc2 wq2 oN hg hq
     have HX:=Lib.hid (HW.out.trans hq)
     replace kL0:=kL0.apart hg (fun e=>by injection e with e;exact hne e.symm)
     rw[List.nil_append] at oN ⊢
     replace OI:=Lib.hid oN
     replace HW:=HX
     clear HX oN hg hq
     refine hK.out _ _ ⟨(k0.next HW.out).cell,(k1.next HW.out).cell⟩ ?_
     clear hHeld hK K
     intro hHeld
     try simp only[Act.put,zA,zB,zC,zD,zE,zF]
     generalize wq2=wq at *
     refine rdc 11 rfl fun K hK=>?_
     refine stepIL2 (base:=w4.heap.size) (xs:=ks) (ys:=[x.a,x.b]) rfl _ _ rfl rfl OI.out rfl (IntsV.two kL0) (by simp<;>omega) HW.out.size ?_
     intro KC kc2 wq2 oN hg hq
     have HX:=Lib.hid (HW.out.trans hq)
     replace OI:=Lib.hid oN
     replace HW:=HX
     clear HX oN hg hq
     refine hK.out _ _ ⟨(k0.next HW.out).cell,(k1.next HW.out).cell⟩ ?_
     clear hHeld hK K
     intro hHeld
     try simp only[Act.put,zA,zB,zC,zD,zE,zF]
     generalize wq2=wq at *
     generalize ks++[x.a,x.b]=kk at *
     refine rdc 12 rfl fun K hK=>?_
     try simp only[zA,zB,zC]
     (go_simp;refine (c_impl_ExposeCell _ a x.a KC kc2 kk _ (HV.out.below HW.out) (by have:=HW.out.size;omega) OI.out.readsI.2).mono ?_;rintro e w5 ⟨r5,rfl,⟨⟨vs5,o5⟩,-⟩,hq⟩;obtain ⟨A5,c5,rfl⟩:=o5.form;have hs5:=HW.out.size;have HX:=Lib.hid (bgo HW.out hq);have O5:=Lib.hid (o5.lower (base':=w4.heap.size) hs5);rw[←HL.out] at O5 ⊢;clear hq o5)
     refine hK.out _ _ (⟨(k0.next HX.out).cell,(k1.next HX.out).cell⟩) ?_
     clear hHeld hK K
     intro hHeld
     try simp only[Act.put,zA,zB,zC,zD,zE,zF]
     refine tk 13 ?_ rfl (fun w hSw=>?_) hHeld ?_
     rotate_left
     ·((try dsimp only at hSw);go_split_ands;go_simp;(try with_reducible rfl))
     try simp only[Act.put,zA,zB,zC,zD,zE,zF]
     refine tk 14 ?_ rfl (fun w hSw=>?_) hHeld ?_
     rotate_left
     ·((try dsimp only at hSw);go_split_ands;go_simp;(try with_reducible rfl))
     try simp only[Act.put,zA,zB,zC,zD,zE,zF]
     refine tk 15 ?_ rfl (fun w hSw=>?_) hHeld ?_
     rotate_left
     ·((try dsimp only at hSw);go_split_ands;go_simp;(try with_reducible rfl))
     try simp only[Act.put,zA,zB,zC,zD,zE,zF]
     refine tk 16 ?_ rfl (fun w hSw=>?_) hHeld ?_
     rotate_left
     ·((try dsimp only at hSw);go_split_ands;go_simp;(try with_reducible rfl))
     try simp only[Act.put,zA,zB,zC,zD,zE,zF]
     refine tk 17 ?_ rfl (fun w hSw=>?_) hHeld ?_
     rotate_left
     ·((try dsimp only at hSw);go_split_ands;go_simp;(try with_reducible rfl))
     try simp only[Act.put,zA,zB,zC,zD,zE,zF]
     refine wpAnyH_done (by kernel_rfl) ?_ _
     refine NoPanic.normal ?_
     go_wp2_with fail
     go_meet
     case rel=>exact ⟨A5,c5,vs5,rfl,O5,HX⟩
   ·skip
    try simp only[zA,zB,zC]
    (go_simp;have hq:=bbox (Below.refl _ wq) (.cells #[.int .i64 x.a,.int .i64 x.b] tI);have HX:=Lib.hid (bgo HW.out hq))
    refine hK.out _ _ (⟨(k0.next HX.out).cell,(k1.next HX.out).cell⟩) ?_
    clear hHeld hK K
    intro hHeld
    try simp only[Act.put,zA,zB,zC,zD,zE,zF]
    have kL:=Blk.new wq tI #[.int .i64 x.a,.int .i64 x.b]
    have hlz:wq.heap.size<(wq.alloc (.cells #[.int .i64 x.a,.int .i64 x.b] tI)).heap.size:=by simp
    obtain ⟨yL,hyL⟩:∃ y,y=wq.heap.size:=⟨_,rfl⟩
    have hyBL:w4.heap.size≤yL:=by have:=HW.out.size;omega
    try have hne:yE≠yL:=by omega
    try replace kL0:=kL0.next hq
    try replace OI:=Lib.hid (OI.out.below hq)
    rw[←hyL] at kL hlz ⊢
    have kL0:=kL
    clear kL
    replace HW:=HX
    clear HX hq hyL
    generalize wq.alloc (.cells #[.int .i64 x.a,.int .i64 x.b] tI)=wq at *
    refine rdc 3 rfl fun K hK=>?_
    try simp only[zA,zB,zC]
    (go_simp;have hq:=bbox (Below.refl _ wq) (.cells #[] tI);have HX:=Lib.hid (bgo HW.out hq))
    refine hK.out _ _ (⟨(k0.next HX.out).cell,(k1.next HX.out).cell⟩) ?_
    clear hHeld hK K
    intro hHeld
    try simp only[Act.put,zA,zB,zC,zD,zE,zF]
    have kE:=Blk.new wq tI #[]
    have hlz:wq.heap.size<(wq.alloc (.cells #[] tI)).heap.size:=by simp
    obtain ⟨yE,hyE⟩:∃ y,y=wq.heap.size:=⟨_,rfl⟩
    have hyBE:w4.heap.size≤yE:=by have:=HW.out.size;omega
    try have hne:yE≠yL:=by omega
    try replace kL0:=kL0.next hq
    try replace OI:=Lib.hid (OI.out.below hq)
    rw[←hyE] at kE hlz ⊢
    have OI:Hid (IntsO (wq.alloc (.cells #[] tI)) w4.heap.size (.slice (some ⟨yE,0,none⟩) 0 0) []):=Lib.hid ⟨own_ofBlk kE hyBE,by simp[Lim]⟩
    clear kE
    replace HW:=HX
    clear HX hq hyE
    generalize wq.alloc (.cells #[] tI)=wq at *
    refine rdc 5 rfl fun K hK=>?_
    refine stepIL2 (base:=w4.heap.size) (xs:=[]) (ys:=ks) rfl _ _ rfl rfl OI.out rfl (HK.out.below HW.out) (by simp<;>omega) HW.out.size ?_
    intro KC kc2 wq2 oN hg hq
    have HX:=Lib.hid (HW.out.trans hq)
    replace kL0:=kL0.apart hg (fun e=>by injection e with e;exact hne e.symm)
    rw[List.nil_append] at oN ⊢
    replace OI:=Lib.hid oN
    replace HW:=HX
    clear HX oN hg hq
    refine hK.out _ _ ⟨(k0.next HW.out).cell,(k1.next HW.out).cell⟩ ?_
    clear hHeld hK K
    intro hHeld
    try simp only[Act.put,zA,zB,zC,zD,zE,zF]
    generalize wq2=wq at *
    refine rdc 11 rfl fun K hK=>?_
    refine stepIL2 (base:=w4.heap.size) (xs:=ks) (ys:=[x.a,x.b]) rfl _ _ rfl rfl OI.out rfl (IntsV.two kL0) (by simp<;>omega) HW.out.size ?_
    intro KC kc2 wq2 oN hg hq
    have HX:=Lib.hid (HW.out.trans hq)
    replace OI:=Lib.hid oN
    replace HW:=HX
    clear HX oN hg hq
    refine hK.out _ _ ⟨(k0.next HW.out).cell,(k1.next HW.out).cell⟩ ?_
    clear hHeld hK K
    intro hHeld
    try simp only[Act.put,zA,zB,zC,zD,zE,zF]
    generalize wq2=wq at *
    generalize ks++[x.a,x.b]=kk at *
    refine rdc 12 rfl fun K hK=>?_
    try simp only[zA,zB,zC]
    (go_simp;refine (c_impl_ExposeCell _ a x.a KC kc2 kk _ (HV.out.below HW.out) (by have:=HW.out.size;omega) OI.out.readsI.2).mono ?_;rintro e w5 ⟨r5,rfl,⟨⟨vs5,o5⟩,-⟩,hq⟩;obtain ⟨A5,c5,rfl⟩:=o5.form;have hs5:=HW.out.size;have HX:=Lib.hid (bgo HW.out hq);have O5:=Lib.hid (o5.lower (base':=w4.heap.size) hs5);rw[←HL.out] at O5 ⊢;clear hq o5)
    refine hK.out _ _ (⟨(k0.next HX.out).cell,(k1.next HX.out).cell⟩) ?_
    clear hHeld hK K
    intro hHeld
    try simp only[Act.put,zA,zB,zC,zD,zE,zF]
    refine tk 13 ?_ rfl (fun w hSw=>?_) hHeld ?_
    rotate_left
    ·((try dsimp only at hSw);go_split_ands;go_simp;(try with_reducible rfl))
    try simp only[Act.put,zA,zB,zC,zD,zE,zF]
    refine tk 14 ?_ rfl (fun w hSw=>?_) hHeld ?_
    rotate_left
    ·((try dsimp only at hSw);go_split_ands;go_simp;(try with_reducible rfl))
    try simp only[Act.put,zA,zB,zC,zD,zE,zF]
    refine tk 15 ?_ rfl (fun w hSw=>?_) hHeld ?_
    rotate_left
    ·((try dsimp only at hSw);go_split_ands;go_simp;(try with_reducible rfl))
    try simp only[Act.put,zA,zB,zC,zD,zE,zF]
    refine tk 16 ?_ rfl (fun w hSw=>?_) hHeld ?_
    rotate_left
    ·((try dsimp only at hSw);go_split_ands;go_simp;(try with_reducible rfl))
    try simp only[Act.put,zA,zB,zC,zD,zE,zF]
    refine tk 17 ?_ rfl (fun w hSw=>?_) hHeld ?_
    rotate_left
    ·((try dsimp only at hSw);go_split_ands;go_simp;(try with_reducible rfl))
    try simp only[Act.put,zA,zB,zC,zD,zE,zF]
    refine wpAnyH_done (by kernel_rfl) ?_ _
    refine NoPanic.normal ?_
    go_wp2_with fail
    go_meet
    case rel=>exact ⟨A5,c5,vs5,rfl,O5,HX⟩
  case rest=>
   obtain ⟨A5,c5,vs5,rfl,O5,HW⟩:=hcut
   clear HV HK O3 HL k0
   replace k1:=k1.next HW.out
   replace HB:=Lib.hid (bgo HB.out HW.out)
   replace O2:=Lib.hid (O2.out.below HW.out)
   have hzc:=HW.out.size
   by_cases hk3:x.k=3
   ·have b3:(x.k == 3)=true:=by simp[hk3]
    have b5:(x.k == 5)=false:=by simp[hk3]
    replace HS1:=Lib.hid (HS1.out (Or.inl hk3))
    clear hk3 HS2
    (replace qk1:=k1.cell;replace rk1:=k1.frozen;replace lk1:=k1.lt)
    go_wp2_with fail
    clear qk1 rk1 lk1
    go_loopw [12] (fun i wr=>∃ k:Nat,k≤D.length∧i=.int .i64 k∧Hid (Below wc.heap.size wc wr)) (fun i _=>D.length - (intOf i).toNat)
    case atStart=>exact ⟨0,Nat.zero_le _,rfl,Lib.hid (Below.refl _ _)⟩
    case round=>
     obtain ⟨k,hk,rfl,HWr⟩:=hrel
     have hzw:=HWr.out.size
     have k1r:=k1.next HWr.out
     by_cases hlt:k<D.length
     ·have hki:(k:Int)<(D.length:Int):=by omega
      obtain ⟨b,o,R,d,R2,d2,hA2,lb,g0,g1,HC0⟩:=(O2.out.below HWr.out).atC hlt
      subst hA2
      have HC:=Lib.hid HC0
      have HAL:=Lib.hid (HS1.out D[k] (List.getElem_mem hlt))
      obtain ⟨s,hse⟩:∃ s,s=D[k]:=⟨_,rfl⟩
      rw[←hse] at g0 g1 HC HAL
      clear hse HC0
      go_wp2_with fail
      refine wp_region_noPanic ?_
      refine wp_region_held_drew (S:=(fun w'=>(w'.cell? ⟨b,o+k*2,none⟩=some (.slice R s.facts.length d)∧w'.cell? ⟨b,o+k*2+1,none⟩=some (.slice R2 s.atoms.length d2))∧∀ i,w'.cell? ⟨v1.heap.size+1,i,none⟩=#[.int .i64 x.k,.int .i64 x.a,.int .i64 x.b,.bool x.t.eq,.int .i64 x.t.a,.int .i64 x.t.b,.slice X1 x.i.facts.length y1,.slice X2 x.i.atoms.length y2,.slice X3 x.body.len y3,.slice X4 x.els.len y4][i]?)) (by kernel_rfl) (⟨⟨g0,g1⟩,k1r.drew.cell⟩) (fun hHeld=>?_)
      refine tk 0 ?_ rfl (fun w hSw=>?_) hHeld ?_
      rotate_left
      ·((try dsimp only at hSw);go_split_ands;go_simp;(try with_reducible rfl))
      try simp only[Act.put,zA,zB,zC,zD,zE,zF]
      refine tk 1 ?_ rfl (fun w hSw=>?_) hHeld ?_
      rotate_left
      ·((try dsimp only at hSw);go_split_ands;go_simp;(try with_reducible rfl))
      try simp only[Act.put,zA,zB,zC,zD,zE,zF]
      refine tk 2 ?_ rfl (fun w hSw=>?_) hHeld ?_
      rotate_left
      ·((try dsimp only at hSw);go_split_ands;go_simp;(try with_reducible rfl))
      try simp only[Act.put,zA,zB,zC,zD,zE,zF]
      refine tk 3 ?_ rfl (fun w hSw=>?_) hHeld ?_
      rotate_left
      ·((try dsimp only at hSw);go_split_ands;go_simp;(try with_reducible rfl))
      try simp only[Act.put,zA,zB,zC,zD,zE,zF]
      refine tku 4 rfl hHeld ?_
      try simp only[Act.put,zA,zB,zC,zD,zE,zF]
      refine tku 5 rfl hHeld ?_
      try simp only[Act.put,zA,zB,zC,zD,zE,zF]
      refine tku 6 rfl hHeld ?_
      try simp only[Act.put,zA,zB,zC,zD,zE,zF]
      refine tk 7 ?_ rfl (fun w hSw=>?_) hHeld ?_
      rotate_left
      ·((try dsimp only at hSw);go_split_ands;go_simp;(try with_reducible rfl))
      try simp only[Act.put,zA,zB,zC,zD,zE,zF]
      refine tk 8 ?_ rfl (fun w hSw=>?_) hHeld ?_
      rotate_left
      ·((try dsimp only at hSw);go_split_ands;go_simp;(try with_reducible rfl))
      try simp only[Act.put,zA,zB,zC,zD,zE,zF]
      refine tk 9 ?_ rfl (fun w hSw=>?_) hHeld ?_
      rotate_left
      ·((try dsimp only at hSw);go_split_ands;go_simp;(try with_reducible rfl))
      try simp only[Act.put,zA,zB,zC,zD,zE,zF]
      refine tk 10 ?_ rfl (fun w hSw=>?_) hHeld ?_
      rotate_left
      ·((try dsimp only at hSw);go_split_ands;go_simp;(try with_reducible rfl))
      try simp only[Act.put,zA,zB,zC,zD,zE,zF]
      refine tk 11 ?_ rfl (fun w hSw=>?_) hHeld ?_
      rotate_left
      ·((try dsimp only at hSw);go_split_ands;go_simp;(try with_reducible rfl))
      try simp only[Act.put,zA,zB,zC,zD,zE,zF]
      refine tk 12 ?_ rfl (fun w hSw=>?_) hHeld ?_
      rotate_left
      ·((try dsimp only at hSw);go_split_ands;go_simp;(try with_reducible rfl))
      try simp only[Act.put,zA,zB,zC,zD,zE,zF]
      refine tk 13 ?_ rfl (fun w hSw=>?_) hHeld ?_
      rotate_left
      ·((try dsimp only at hSw);go_split_ands;go_simp;(try with_reducible rfl))
      try simp only[Act.put,zA,zB,zC,zD,zE,zF]
      refine tk 14 ?_ rfl (fun w hSw=>?_) hHeld ?_
      rotate_left
      ·((try dsimp only at hSw);go_split_ands;go_simp;(try with_reducible rfl))
      try simp only[Act.put,zA,zB,zC,zD,zE,zF]
      refine rdc 15 rfl fun K hK=>?_
      try simp only[zA,zB,zC]
      (go_simp;refine (c_AllocZ _ s x.a _ (HC.out.V.below (Below.refl _ _).drew) (Nat.le_refl _) HT.out).mono ?_;rintro e w6 ⟨rfl,hB6⟩;rw[HAL.out];have hS:Below wr.heap.size wr w6:=(Below.refl _ _).drew.trans hB6;have k16:=k1r.next hS;have g06:=(hS.cell (p:=⟨b,o+k*2,none⟩) lb).trans g0;have g16:=(hS.cell (p:=⟨b,o+k*2+1,none⟩) lb).trans g1)
      refine hK.out _ _ (⟨⟨g06,g16⟩,k16.cell⟩) ?_
      clear hHeld hK K
      intro hHeld
      try simp only[Act.put,zA,zB,zC,zD,zE,zF]
      refine tk 16 ?_ rfl (fun w hSw=>?_) hHeld ?_
      rotate_left
      ·((try dsimp only at hSw);go_split_ands;go_simp;(try with_reducible rfl))
      try simp only[Act.put,zA,zB,zC,zD,zE,zF]
      refine tk 17 ?_ rfl (fun w hSw=>?_) hHeld ?_
      rotate_left
      ·((try dsimp only at hSw);go_split_ands;go_simp;(try with_reducible rfl))
      try simp only[Act.put,zA,zB,zC,zD,zE,zF]
      refine wpAnyH_done (by kernel_rfl) ?_ _
      refine NoPanic.normal ?_
      have HW6:=Lib.hid (bgo HWr.out hS)
      clear hHeld g0 g1 k1r hS HC HWr hB6
      have g0:=g06
      have g1:=g16
      have k1r:=k16
      clear g06 g16 k16
      have HWr:=HW6
      clear HW6
      go_wp2_with fail
      refine wp_region_noPanic ?_
      refine wp_region_held_drew (S:=(fun w'=>(w'.cell? ⟨b,o+k*2,none⟩=some (.slice R s.facts.length d)∧w'.cell? ⟨b,o+k*2+1,none⟩=some (.slice R2 s.atoms.length d2))∧∀ i,w'.cell? ⟨v1.heap.size+1,i,none⟩=#[.int .i64 x.k,.int .i64 x.a,.int .i64 x.b,.bool x.t.eq,.int .i64 x.t.a,.int .i64 x.t.b,.slice X1 x.i.facts.length y1,.slice X2 x.i.atoms.length y2,.slice X3 x.body.len y3,.slice X4 x.els.len y4][i]?)) (by kernel_rfl) (⟨⟨g0,g1⟩,k1r.drew.cell⟩) (fun hHeld=>?_)
      refine tk 0 ?_ rfl (fun w hSw=>?_) hHeld ?_
      rotate_left
      ·((try dsimp only at hSw);go_split_ands;go_simp;(try with_reducible rfl))
      try simp only[Act.put,zA,zB,zC,zD,zE,zF]
      refine tk 1 ?_ rfl (fun w hSw=>?_) hHeld ?_
      rotate_left
      ·((try dsimp only at hSw);go_split_ands;go_simp;(try with_reducible rfl))
      try simp only[Act.put,zA,zB,zC,zD,zE,zF]
      refine tk 2 ?_ rfl (fun w hSw=>?_) hHeld ?_
      rotate_left
      ·((try dsimp only at hSw);go_split_ands;go_simp;(try with_reducible rfl))
      try simp only[Act.put,zA,zB,zC,zD,zE,zF]
      refine tk 3 ?_ rfl (fun w hSw=>?_) hHeld ?_
      rotate_left
      ·((try dsimp only at hSw);go_split_ands;go_simp;(try with_reducible rfl))
      try simp only[Act.put,zA,zB,zC,zD,zE,zF]
      refine tku 4 rfl hHeld ?_
      try simp only[Act.put,zA,zB,zC,zD,zE,zF]
      refine tku 5 rfl hHeld ?_
      try simp only[Act.put,zA,zB,zC,zD,zE,zF]
      refine tku 6 rfl hHeld ?_
      try simp only[Act.put,zA,zB,zC,zD,zE,zF]
      refine tku 7 rfl hHeld ?_
      try simp only[Act.put,zA,zB,zC,zD,zE,zF]
      refine tku 8 rfl hHeld ?_
      try simp only[Act.put,zA,zB,zC,zD,zE,zF]
      refine tku 9 rfl hHeld ?_
      try simp only[Act.put,zA,zB,zC,zD,zE,zF]
      refine tku 10 rfl hHeld ?_
      try simp only[Act.put,zA,zB,zC,zD,zE,zF]
      refine tku 11 rfl hHeld ?_
      try simp only[Act.put,zA,zB,zC,zD,zE,zF]
      refine tku 12 rfl hHeld ?_
      try simp only[Act.put,zA,zB,zC,zD,zE,zF]
      refine tku 13 rfl hHeld ?_
      try simp only[Act.put,zA,zB,zC,zD,zE,zF]
      refine tku 14 rfl hHeld ?_
      try simp only[Act.put,zA,zB,zC,zD,zE,zF]
      refine tku 15 rfl hHeld ?_
      try simp only[Act.put,zA,zB,zC,zD,zE,zF]
      refine tku 16 rfl hHeld ?_
      try simp only[Act.put,zA,zB,zC,zD,zE,zF]
      refine tku 17 rfl hHeld ?_
      try simp only[Act.put,zA,zB,zC,zD,zE,zF]
      refine tku 18 rfl hHeld ?_
      try simp only[Act.put,zA,zB,zC,zD,zE,zF]
      refine tku 19 rfl hHeld ?_
      try simp only[Act.put,zA,zB,zC,zD,zE,zF]
      refine tku 20 rfl hHeld ?_
      try simp only[Act.put,zA,zB,zC,zD,zE,zF]
      refine tku 21 rfl hHeld ?_
      try simp only[Act.put,zA,zB,zC,zD,zE,zF]
      refine tku 22 rfl hHeld ?_
      try simp only[Act.put,zA,zB,zC,zD,zE,zF]
      refine tku 23 rfl hHeld ?_
      try simp only[Act.put,zA,zB,zC,zD,zE,zF]
      refine tku 24 rfl hHeld ?_
      try simp only[Act.put,zA,zB,zC,zD,zE,zF]
      refine tk 25 ?_ rfl (fun w hSw=>?_) hHeld ?_
      rotate_left
      ·((try dsimp only at hSw);go_split_ands;go_simp;(try with_reducible rfl))
      try simp only[Act.put,zA,zB,zC,zD,zE,zF]
      refine wpAnyH_done (by kernel_rfl) ?_ _
      refine NoPanic.normal ?_
      replace HWr:=Lib.hid HWr.out.drew
      clear hHeld k1r g0 g1
      go_wp2_with fail
      go_round
      case rel=>exact ⟨k+1,by omega,by go_num,HWr⟩
      case measure=>simp[intOf];omega
     ·obtain rfl:k=D.length:=by omega
      go_wp2_with fail
      go_ret
      exact ⟨rfl,bgo HB.out HWr.out⟩
   by_cases hk4:x.k=4
   ·have b3:(x.k == 3)=false:=by simp[hk4]
    have b4:(x.k == 4)=true:=by simp[hk4]
    have b5:(x.k == 5)=false:=by simp[hk4]
    replace HS1:=Lib.hid (HS1.out (Or.inr hk4))
    clear hk3 hk4 HS2
    (replace qk1:=k1.cell;replace rk1:=k1.frozen;replace lk1:=k1.lt)
    go_wp2_with fail
    clear qk1 rk1 lk1
    go_loopw [12] (fun i wr=>∃ k:Nat,k≤D.length∧i=.int .i64 k∧Hid (Below wc.heap.size wc wr)) (fun i _=>D.length - (intOf i).toNat)
    case atStart=>exact ⟨0,Nat.zero_le _,rfl,Lib.hid (Below.refl _ _)⟩
    case round=>
     obtain ⟨k,hk,rfl,HWr⟩:=hrel
     have hzw:=HWr.out.size
     have k1r:=k1.next HWr.out
     by_cases hlt:k<D.length
     ·have hki:(k:Int)<(D.length:Int):=by omega
      obtain ⟨b,o,R,d,R2,d2,hA2,lb,g0,g1,HC0⟩:=(O2.out.below HWr.out).atC hlt
      subst hA2
      have HC:=Lib.hid HC0
      have HAL:=Lib.hid (HS1.out D[k] (List.getElem_mem hlt))
      obtain ⟨s,hse⟩:∃ s,s=D[k]:=⟨_,rfl⟩
      rw[←hse] at g0 g1 HC HAL
      clear hse HC0
      go_wp2_with fail
      refine wp_region_noPanic ?_
      refine wp_region_held_drew (S:=(fun w'=>(w'.cell? ⟨b,o+k*2,none⟩=some (.slice R s.facts.length d)∧w'.cell? ⟨b,o+k*2+1,none⟩=some (.slice R2 s.atoms.length d2))∧∀ i,w'.cell? ⟨v1.heap.size+1,i,none⟩=#[.int .i64 x.k,.int .i64 x.a,.int .i64 x.b,.bool x.t.eq,.int .i64 x.t.a,.int .i64 x.t.b,.slice X1 x.i.facts.length y1,.slice X2 x.i.atoms.length y2,.slice X3 x.body.len y3,.slice X4 x.els.len y4][i]?)) (by kernel_rfl) (⟨⟨g0,g1⟩,k1r.drew.cell⟩) (fun hHeld=>?_)
      refine tk 0 ?_ rfl (fun w hSw=>?_) hHeld ?_
      rotate_left
      ·((try dsimp only at hSw);go_split_ands;go_simp;(try with_reducible rfl))
      try simp only[Act.put,zA,zB,zC,zD,zE,zF]
      refine tk 1 ?_ rfl (fun w hSw=>?_) hHeld ?_
      rotate_left
      ·((try dsimp only at hSw);go_split_ands;go_simp;(try with_reducible rfl))
      try simp only[Act.put,zA,zB,zC,zD,zE,zF]
      refine tk 2 ?_ rfl (fun w hSw=>?_) hHeld ?_
      rotate_left
      ·((try dsimp only at hSw);go_split_ands;go_simp;(try with_reducible rfl))
      try simp only[Act.put,zA,zB,zC,zD,zE,zF]
      refine tk 3 ?_ rfl (fun w hSw=>?_) hHeld ?_
      rotate_left
      ·((try dsimp only at hSw);go_split_ands;go_simp;(try with_reducible rfl))
      try simp only[Act.put,zA,zB,zC,zD,zE,zF]
      refine tk 4 ?_ rfl (fun w hSw=>?_) hHeld ?_
      rotate_left
      ·((try dsimp only at hSw);go_split_ands;go_simp;(try with_reducible rfl))
      try simp only[Act.put,zA,zB,zC,zD,zE,zF]
      refine tk 5 ?_ rfl (fun w hSw=>?_) hHeld ?_
      rotate_left
      ·((try dsimp only at hSw);go_split_ands;go_simp;(try with_reducible rfl))
      try simp only[Act.put,zA,zB,zC,zD,zE,zF]
      refine tk 6 ?_ rfl (fun w hSw=>?_) hHeld ?_
      rotate_left
      ·((try dsimp only at hSw);go_split_ands;go_simp;(try with_reducible rfl))
      try simp only[Act.put,zA,zB,zC,zD,zE,zF]
      refine tk 7 ?_ rfl (fun w hSw=>?_) hHeld ?_
      rotate_left
      ·((try dsimp only at hSw);go_split_ands;go_simp;(try with_reducible rfl))
      try simp only[Act.put,zA,zB,zC,zD,zE,zF]
      refine tk 8 ?_ rfl (fun w hSw=>?_) hHeld ?_
      rotate_left
      ·((try dsimp only at hSw);go_split_ands;go_simp;(try with_reducible rfl))
      try simp only[Act.put,zA,zB,zC,zD,zE,zF]
      refine tk 9 ?_ rfl (fun w hSw=>?_) hHeld ?_
      rotate_left
      ·((try dsimp only at hSw);go_split_ands;go_simp;(try with_reducible rfl))
      try simp only[Act.put,zA,zB,zC,zD,zE,zF]
      refine tk 10 ?_ rfl (fun w hSw=>?_) hHeld ?_
      rotate_left
      ·((try dsimp only at hSw);go_split_ands;go_simp;(try with_reducible rfl))
      try simp only[Act.put,zA,zB,zC,zD,zE,zF]
      refine tk 11 ?_ rfl (fun w hSw=>?_) hHeld ?_
      rotate_left
      ·((try dsimp only at hSw);go_split_ands;go_simp;(try with_reducible rfl))
      try simp only[Act.put,zA,zB,zC,zD,zE,zF]
      refine tk 12 ?_ rfl (fun w hSw=>?_) hHeld ?_
      rotate_left
      ·((try dsimp only at hSw);go_split_ands;go_simp;(try with_reducible rfl))
      try simp only[Act.put,zA,zB,zC,zD,zE,zF]
      refine tk 13 ?_ rfl (fun w hSw=>?_) hHeld ?_
      rotate_left
      ·((try dsimp only at hSw);go_split_ands;go_simp;(try with_reducible rfl))
      try simp only[Act.put,zA,zB,zC,zD,zE,zF]
      refine tk 14 ?_ rfl (fun w hSw=>?_) hHeld ?_
      rotate_left
      ·((try dsimp only at hSw);go_split_ands;go_simp;(try with_reducible rfl))
      try simp only[Act.put,zA,zB,zC,zD,zE,zF]
      refine rdc 15 rfl fun K hK=>?_
      try simp only[zA,zB,zC]
      (go_simp;refine (c_AllocZ _ s x.a _ (HC.out.V.below (Below.refl _ _).drew) (Nat.le_refl _) HT.out).mono ?_;rintro e w6 ⟨rfl,hB6⟩;rw[HAL.out];have hS:Below wr.heap.size wr w6:=(Below.refl _ _).drew.trans hB6;have k16:=k1r.next hS;have g06:=(hS.cell (p:=⟨b,o+k*2,none⟩) lb).trans g0;have g16:=(hS.cell (p:=⟨b,o+k*2+1,none⟩) lb).trans g1)
      refine hK.out _ _ (⟨⟨g06,g16⟩,k16.cell⟩) ?_
      clear hHeld hK K
      intro hHeld
      try simp only[Act.put,zA,zB,zC,zD,zE,zF]
      refine tk 16 ?_ rfl (fun w hSw=>?_) hHeld ?_
      rotate_left
      ·((try dsimp only at hSw);go_split_ands;go_simp;(try with_reducible rfl))
      try simp only[Act.put,zA,zB,zC,zD,zE,zF]
      refine tk 17 ?_ rfl (fun w hSw=>?_) hHeld ?_
      rotate_left
      ·((try dsimp only at hSw);go_split_ands;go_simp;(try with_reducible rfl))
      try simp only[Act.put,zA,zB,zC,zD,zE,zF]
      refine wpAnyH_done (by kernel_rfl) ?_ _
      refine NoPanic.normal ?_
      have HW6:=Lib.hid (bgo HWr.out hS)
      clear hHeld g0 g1 k1r hS HC HWr hB6
      have g0:=g06
      have g1:=g16
      have k1r:=k16
      clear g06 g16 k16
      have HWr:=HW6
      clear HW6
      go_wp2_with fail
      refine wp_region_noPanic ?_
      refine wp_region_held_drew (S:=(fun w'=>(w'.cell? ⟨b,o+k*2,none⟩=some (.slice R s.facts.length d)∧w'.cell? ⟨b,o+k*2+1,none⟩=some (.slice R2 s.atoms.length d2))∧∀ i,w'.cell? ⟨v1.heap.size+1,i,none⟩=#[.int .i64 x.k,.int .i64 x.a,.int .i64 x.b,.bool x.t.eq,.int .i64 x.t.a,.int .i64 x.t.b,.slice X1 x.i.facts.length y1,.slice X2 x.i.atoms.length y2,.slice X3 x.body.len y3,.slice X4 x.els.len y4][i]?)) (by kernel_rfl) (⟨⟨g0,g1⟩,k1r.drew.cell⟩) (fun hHeld=>?_)
      refine tk 0 ?_ rfl (fun w hSw=>?_) hHeld ?_
      rotate_left
      ·((try dsimp only at hSw);go_split_ands;go_simp;(try with_reducible rfl))
      try simp only[Act.put,zA,zB,zC,zD,zE,zF]
      refine tk 1 ?_ rfl (fun w hSw=>?_) hHeld ?_
      rotate_left
      ·((try dsimp only at hSw);go_split_ands;go_simp;(try with_reducible rfl))
      try simp only[Act.put,zA,zB,zC,zD,zE,zF]
      refine tk 2 ?_ rfl (fun w hSw=>?_) hHeld ?_
      rotate_left
      ·((try dsimp only at hSw);go_split_ands;go_simp;(try with_reducible rfl))
      try simp only[Act.put,zA,zB,zC,zD,zE,zF]
      refine tk 3 ?_ rfl (fun w hSw=>?_) hHeld ?_
      rotate_left
      ·((try dsimp only at hSw);go_split_ands;go_simp;(try with_reducible rfl))
      try simp only[Act.put,zA,zB,zC,zD,zE,zF]
      refine tku 4 rfl hHeld ?_
      try simp only[Act.put,zA,zB,zC,zD,zE,zF]
      refine tku 5 rfl hHeld ?_
      try simp only[Act.put,zA,zB,zC,zD,zE,zF]
      refine tku 6 rfl hHeld ?_
      try simp only[Act.put,zA,zB,zC,zD,zE,zF]
      refine tku 7 rfl hHeld ?_
      try simp only[Act.put,zA,zB,zC,zD,zE,zF]
      refine tku 8 rfl hHeld ?_
      try simp only[Act.put,zA,zB,zC,zD,zE,zF]
      refine tku 9 rfl hHeld ?_
      try simp only[Act.put,zA,zB,zC,zD,zE,zF]
      refine tku 10 rfl hHeld ?_
      try simp only[Act.put,zA,zB,zC,zD,zE,zF]
      refine tku 11 rfl hHeld ?_
      try simp only[Act.put,zA,zB,zC,zD,zE,zF]
      refine tku 12 rfl hHeld ?_
      try simp only[Act.put,zA,zB,zC,zD,zE,zF]
      refine tku 13 rfl hHeld ?_
      try simp only[Act.put,zA,zB,zC,zD,zE,zF]
      refine tku 14 rfl hHeld ?_
      try simp only[Act.put,zA,zB,zC,zD,zE,zF]
      refine tku 15 rfl hHeld ?_
      try simp only[Act.put,zA,zB,zC,zD,zE,zF]
      refine tku 16 rfl hHeld ?_
      try simp only[Act.put,zA,zB,zC,zD,zE,zF]
      refine tku 17 rfl hHeld ?_
      try simp only[Act.put,zA,zB,zC,zD,zE,zF]
      refine tku 18 rfl hHeld ?_
      try simp only[Act.put,zA,zB,zC,zD,zE,zF]
      refine tku 19 rfl hHeld ?_
      try simp only[Act.put,zA,zB,zC,zD,zE,zF]
      refine tku 20 rfl hHeld ?_
      try simp only[Act.put,zA,zB,zC,zD,zE,zF]
      refine tku 21 rfl hHeld ?_
      try simp only[Act.put,zA,zB,zC,zD,zE,zF]
      refine tku 22 rfl hHeld ?_
      try simp only[Act.put,zA,zB,zC,zD,zE,zF]
      refine tku 23 rfl hHeld ?_
      try simp only[Act.put,zA,zB,zC,zD,zE,zF]
      refine tku 24 rfl hHeld ?_
      try simp only[Act.put,zA,zB,zC,zD,zE,zF]
      refine tk 25 ?_ rfl (fun w hSw=>?_) hHeld ?_
      rotate_left
      ·((try dsimp only at hSw);go_split_ands;go_simp;(try with_reducible rfl))
      try simp only[Act.put,zA,zB,zC,zD,zE,zF]
      refine wpAnyH_done (by kernel_rfl) ?_ _
      refine NoPanic.normal ?_
      replace HWr:=Lib.hid HWr.out.drew
      clear hHeld k1r g0 g1
      go_wp2_with fail
      go_round
      case rel=>exact ⟨k+1,by omega,by go_num,HWr⟩
      case measure=>simp[intOf];omega
     ·obtain rfl:k=D.length:=by omega
      go_wp2_with fail
      go_ret
      exact ⟨rfl,bgo HB.out HWr.out⟩
   have b3:(x.k == 3)=false:=by simp[hk3]
   have b4:(x.k == 4)=false:=by simp[hk4]
   clear hk3 hk4 HS1
   by_cases hk5:x.k=5
   ·have b5:(x.k == 5)=true:=by simp[hk5]
    have HSE:=Lib.hid (HS2.out hk5)
    have hll:((L0.length:Int) != (D.length:Int))=false:=by rw[HSE.out.1];simp
    clear hk5 HS2
    (replace qk1:=k1.cell;replace rk1:=k1.frozen;replace lk1:=k1.lt)
    go_wp2_with fail
    clear qk1 rk1 lk1
    go_loopw [12] (fun i wr=>∃ k:Nat,k≤D.length∧i=.int .i64 k∧Hid (Below wc.heap.size wc wr)) (fun i _=>D.length - (intOf i).toNat)
    case atStart=>exact ⟨0,Nat.zero_le _,rfl,Lib.hid (Below.refl _ _)⟩
    case round=>
     obtain ⟨k,hk,rfl,HWr⟩:=hrel
     have hzw:=HWr.out.size
     have k1r:=k1.next HWr.out
     by_cases hlt:k<D.length
     ·have hki:(k:Int)<(D.length:Int):=by omega
      obtain ⟨b,o,R,d,R2,d2,hA2,lb,g0,g1,HC0⟩:=(O2.out.below HWr.out).atC hlt
      subst hA2
      have HC:=Lib.hid HC0
      have hlt5:k<L0.length:=by rw[HSE.out.1];exact hlt
      have hle:=HSE.out.2 k hlt5 hlt
      obtain ⟨b5,x5,R5,d5,Q5,q5,e5,lb5,j0,j1,HC5⟩:=(O5.out.below HWr.out).atC hlt5
      subst e5
      obtain ⟨s5,hs5⟩:∃ s5,s5=L0[k]:=⟨_,rfl⟩
      rw[←hs5] at j0 j1 hle HC5
      obtain ⟨s,hse⟩:∃ s,s=D[k]:=⟨_,rfl⟩
      rw[←hse] at g0 g1 HC hle
      clear hse HC0
      have hki5:(k:Int)<(L0.length:Int):=by omega
      obtain ⟨_,_,_,_,-,-,hA5,-⟩:=HC5
      have hsl:=hA5.le
      have hsl':s.atoms.length+1<4294967296:=by rw[←hle];omega
      have hleb:((s5.atoms.length:Int) != IntKind.i64.wrap ((s.atoms.length:Int)+1))=false:=by rw[IntWalk.i64_in _ (by omega),hle];simp
      clear hs5 hle hsl hlt5 hA5
      go_wp2_with fail
      refine wp_region_noPanic ?_
      refine wp_region_held_drew (S:=(fun w'=>((w'.cell? ⟨b,o+k*2,none⟩=some (.slice R s.facts.length d)∧w'.cell? ⟨b,o+k*2+1,none⟩=some (.slice R2 s.atoms.length d2))∧(w'.cell? ⟨b5,x5+k*2,none⟩=some (.slice R5 s5.facts.length d5)∧w'.cell? ⟨b5,x5+k*2+1,none⟩=some (.slice Q5 s5.atoms.length q5)))∧∀ i,w'.cell? ⟨v1.heap.size+1,i,none⟩=#[.int .i64 x.k,.int .i64 x.a,.int .i64 x.b,.bool x.t.eq,.int .i64 x.t.a,.int .i64 x.t.b,.slice X1 x.i.facts.length y1,.slice X2 x.i.atoms.length y2,.slice X3 x.body.len y3,.slice X4 x.els.len y4][i]?)) (by kernel_rfl) (⟨⟨⟨g0,g1⟩,j0,j1⟩,k1r.drew.cell⟩) (fun hHeld=>?_)
      refine tk 0 ?_ rfl (fun w hSw=>?_) hHeld ?_
      rotate_left
      ·((try dsimp only at hSw);go_split_ands;go_simp;(try with_reducible rfl))
      try simp only[Act.put,zA,zB,zC,zD,zE,zF]
      refine tk 1 ?_ rfl (fun w hSw=>?_) hHeld ?_
      rotate_left
      ·((try dsimp only at hSw);go_split_ands;go_simp;(try with_reducible rfl))
      try simp only[Act.put,zA,zB,zC,zD,zE,zF]
      refine tk 2 ?_ rfl (fun w hSw=>?_) hHeld ?_
      rotate_left
      ·((try dsimp only at hSw);go_split_ands;go_simp;(try with_reducible rfl))
      try simp only[Act.put,zA,zB,zC,zD,zE,zF]
      refine tk 3 ?_ rfl (fun w hSw=>?_) hHeld ?_
      rotate_left
      ·((try dsimp only at hSw);go_split_ands;go_simp;(try with_reducible rfl))
      try simp only[Act.put,zA,zB,zC,zD,zE,zF]
      refine tk 4 ?_ rfl (fun w hSw=>?_) hHeld ?_
      rotate_left
      ·((try dsimp only at hSw);go_split_ands;go_simp;(try with_reducible rfl))
      try simp only[Act.put,zA,zB,zC,zD,zE,zF]
      refine tk 5 ?_ rfl (fun w hSw=>?_) hHeld ?_
      rotate_left
      ·((try dsimp only at hSw);go_split_ands;go_simp;(try with_reducible rfl))
      try simp only[Act.put,zA,zB,zC,zD,zE,zF]
      refine tk 6 ?_ rfl (fun w hSw=>?_) hHeld ?_
      rotate_left
      ·((try dsimp only at hSw);go_split_ands;go_simp;(try with_reducible rfl))
      try simp only[Act.put,zA,zB,zC,zD,zE,zF]
      refine tk 7 ?_ rfl (fun w hSw=>?_) hHeld ?_
      rotate_left
      ·((try dsimp only at hSw);go_split_ands;go_simp;(try with_reducible rfl))
      try simp only[Act.put,zA,zB,zC,zD,zE,zF]
      refine tk 8 ?_ rfl (fun w hSw=>?_) hHeld ?_
      rotate_left
      ·((try dsimp only at hSw);go_split_ands;go_simp;(try with_reducible rfl))
      try simp only[Act.put,zA,zB,zC,zD,zE,zF]
      refine tku 9 rfl hHeld ?_
      try simp only[Act.put,zA,zB,zC,zD,zE,zF]
      refine tku 10 rfl hHeld ?_
      try simp only[Act.put,zA,zB,zC,zD,zE,zF]
      refine tku 11 rfl hHeld ?_
      try simp only[Act.put,zA,zB,zC,zD,zE,zF]
      refine tku 12 rfl hHeld ?_
      try simp only[Act.put,zA,zB,zC,zD,zE,zF]
      refine tku 13 rfl hHeld ?_
      try simp only[Act.put,zA,zB,zC,zD,zE,zF]
      refine tku 14 rfl hHeld ?_
      try simp only[Act.put,zA,zB,zC,zD,zE,zF]
      refine tku 15 rfl hHeld ?_
      try simp only[Act.put,zA,zB,zC,zD,zE,zF]
      refine tku 16 rfl hHeld ?_
      try simp only[Act.put,zA,zB,zC,zD,zE,zF]
      refine tk 17 ?_ rfl (fun w hSw=>?_) hHeld ?_
      rotate_left
      ·((try dsimp only at hSw);go_split_ands;go_simp;(try with_reducible rfl))
      try simp only[Act.put,zA,zB,zC,zD,zE,zF]
      refine wpAnyH_done (by kernel_rfl) ?_ _
      refine NoPanic.normal ?_
      clear hHeld
      replace k1r:=k1r.drew
      replace HWr:=Lib.hid HWr.out.drew
      replace g0:wr.drew.cell? ⟨b,o+k*2,none⟩=some (.slice R s.facts.length d):=g0
      replace g1:wr.drew.cell? ⟨b,o+k*2+1,none⟩=some (.slice R2 s.atoms.length d2):=g1
      replace j0:wr.drew.cell? ⟨b5,x5+k*2,none⟩=some (.slice R5 s5.facts.length d5):=j0
      replace j1:wr.drew.cell? ⟨b5,x5+k*2+1,none⟩=some (.slice Q5 s5.atoms.length q5):=j1
      clear HC
      generalize wr.drew=w6 at *
      go_wp2_with fail
      refine wp_region_noPanic ?_
      refine wp_region_held_drew (S:=(fun w'=>((w'.cell? ⟨b,o+k*2,none⟩=some (.slice R s.facts.length d)∧w'.cell? ⟨b,o+k*2+1,none⟩=some (.slice R2 s.atoms.length d2))∧(w'.cell? ⟨b5,x5+k*2,none⟩=some (.slice R5 s5.facts.length d5)∧w'.cell? ⟨b5,x5+k*2+1,none⟩=some (.slice Q5 s5.atoms.length q5)))∧∀ i,w'.cell? ⟨v1.heap.size+1,i,none⟩=#[.int .i64 x.k,.int .i64 x.a,.int .i64 x.b,.bool x.t.eq,.int .i64 x.t.a,.int .i64 x.t.b,.slice X1 x.i.facts.length y1,.slice X2 x.i.atoms.length y2,.slice X3 x.body.len y3,.slice X4 x.els.len y4][i]?)) (by kernel_rfl) (⟨⟨⟨g0,g1⟩,j0,j1⟩,k1r.drew.cell⟩) (fun hHeld=>?_)
      refine tk 0 ?_ rfl (fun w hSw=>?_) hHeld ?_
      rotate_left
      ·((try dsimp only at hSw);go_split_ands;go_simp;(try with_reducible rfl))
      try simp only[Act.put,zA,zB,zC,zD,zE,zF]
      refine tk 1 ?_ rfl (fun w hSw=>?_) hHeld ?_
      rotate_left
      ·((try dsimp only at hSw);go_split_ands;go_simp;(try with_reducible rfl))
      try simp only[Act.put,zA,zB,zC,zD,zE,zF]
      refine tk 2 ?_ rfl (fun w hSw=>?_) hHeld ?_
      rotate_left
      ·((try dsimp only at hSw);go_split_ands;go_simp;(try with_reducible rfl))
      try simp only[Act.put,zA,zB,zC,zD,zE,zF]
      refine tk 3 ?_ rfl (fun w hSw=>?_) hHeld ?_
      rotate_left
      ·((try dsimp only at hSw);go_split_ands;go_simp;(try with_reducible rfl))
      try simp only[Act.put,zA,zB,zC,zD,zE,zF]
      refine tk 4 ?_ rfl (fun w hSw=>?_) hHeld ?_
      rotate_left
      ·((try dsimp only at hSw);go_split_ands;go_simp;(try with_reducible rfl))
      try simp only[Act.put,zA,zB,zC,zD,zE,zF]
      refine tk 5 ?_ rfl (fun w hSw=>?_) hHeld ?_
      rotate_left
      ·((try dsimp only at hSw);go_split_ands;go_simp;(try with_reducible rfl))
      try simp only[Act.put,zA,zB,zC,zD,zE,zF]
      refine tk 6 ?_ rfl (fun w hSw=>?_) hHeld ?_
      rotate_left
      ·((try dsimp only at hSw);go_split_ands;go_simp;(try with_reducible rfl))
      try simp only[Act.put,zA,zB,zC,zD,zE,zF]
      refine tk 7 ?_ rfl (fun w hSw=>?_) hHeld ?_
      rotate_left
      ·((try dsimp only at hSw);go_split_ands;go_simp;(try with_reducible rfl))
      try simp only[Act.put,zA,zB,zC,zD,zE,zF]
      refine tk 8 ?_ rfl (fun w hSw=>?_) hHeld ?_
      rotate_left
      ·((try dsimp only at hSw);go_split_ands;go_simp;(try with_reducible rfl))
      try simp only[Act.put,zA,zB,zC,zD,zE,zF]
      refine tk 9 ?_ rfl (fun w hSw=>?_) hHeld ?_
      rotate_left
      ·((try dsimp only at hSw);go_split_ands;go_simp;(try with_reducible rfl))
      try simp only[Act.put,zA,zB,zC,zD,zE,zF]
      refine tk 10 ?_ rfl (fun w hSw=>?_) hHeld ?_
      rotate_left
      ·((try dsimp only at hSw);go_split_ands;go_simp;(try with_reducible rfl))
      try simp only[Act.put,zA,zB,zC,zD,zE,zF]
      refine tk 11 ?_ rfl (fun w hSw=>?_) hHeld ?_
      rotate_left
      ·((try dsimp only at hSw);go_split_ands;go_simp;(try with_reducible rfl))
      try simp only[Act.put,zA,zB,zC,zD,zE,zF]
      refine tk 12 ?_ rfl (fun w hSw=>?_) hHeld ?_
      rotate_left
      ·((try dsimp only at hSw);go_split_ands;go_simp;(try with_reducible rfl))
      try simp only[Act.put,zA,zB,zC,zD,zE,zF]
      refine tk 13 ?_ rfl (fun w hSw=>?_) hHeld ?_
      rotate_left
      ·((try dsimp only at hSw);go_split_ands;go_simp;(try with_reducible rfl))
      try simp only[Act.put,zA,zB,zC,zD,zE,zF]
      refine tk 14 ?_ rfl (fun w hSw=>?_) hHeld ?_
      rotate_left
      ·((try dsimp only at hSw);go_split_ands;go_simp;(try with_reducible rfl))
      try simp only[Act.put,zA,zB,zC,zD,zE,zF]
      refine tk 15 ?_ rfl (fun w hSw=>?_) hHeld ?_
      rotate_left
      ·((try dsimp only at hSw);go_split_ands;go_simp;(try with_reducible rfl))
      try simp only[Act.put,zA,zB,zC,zD,zE,zF]
      refine tk 16 ?_ rfl (fun w hSw=>?_) hHeld ?_
      rotate_left
      ·((try dsimp only at hSw);go_split_ands;go_simp;(try with_reducible rfl))
      try simp only[Act.put,zA,zB,zC,zD,zE,zF]
      refine tk 17 ?_ rfl (fun w hSw=>?_) hHeld ?_
      rotate_left
      ·((try dsimp only at hSw);go_split_ands;go_simp;(try with_reducible rfl))
      try simp only[Act.put,zA,zB,zC,zD,zE,zF]
      refine tk 18 ?_ rfl (fun w hSw=>?_) hHeld ?_
      rotate_left
      ·((try dsimp only at hSw);go_split_ands;go_simp;(try with_reducible rfl))
      try simp only[Act.put,zA,zB,zC,zD,zE,zF]
      refine tk 19 ?_ rfl (fun w hSw=>?_) hHeld ?_
      rotate_left
      ·((try dsimp only at hSw);go_split_ands;go_simp;(try with_reducible rfl))
      try simp only[Act.put,zA,zB,zC,zD,zE,zF]
      refine tk 20 ?_ rfl (fun w hSw=>?_) hHeld ?_
      rotate_left
      ·((try dsimp only at hSw);go_split_ands;go_simp;(try with_reducible rfl))
      try simp only[Act.put,zA,zB,zC,zD,zE,zF]
      refine tk 21 ?_ rfl (fun w hSw=>?_) hHeld ?_
      rotate_left
      ·((try dsimp only at hSw);go_split_ands;go_simp;(try with_reducible rfl))
      try simp only[Act.put,zA,zB,zC,zD,zE,zF]
      refine tk 22 ?_ rfl (fun w hSw=>?_) hHeld ?_
      rotate_left
      ·((try dsimp only at hSw);go_split_ands;go_simp;(try with_reducible rfl))
      try simp only[Act.put,zA,zB,zC,zD,zE,zF]
      refine tk 23 ?_ rfl (fun w hSw=>?_) hHeld ?_
      rotate_left
      ·((try dsimp only at hSw);go_split_ands;go_simp;(try with_reducible rfl))
      try simp only[Act.put,zA,zB,zC,zD,zE,zF]
      refine tk 24 ?_ rfl (fun w hSw=>?_) hHeld ?_
      rotate_left
      ·((try dsimp only at hSw);go_split_ands;go_simp;(try with_reducible rfl))
      try simp only[Act.put,zA,zB,zC,zD,zE,zF]
      refine tk 25 ?_ rfl (fun w hSw=>?_) hHeld ?_
      rotate_left
      ·((try dsimp only at hSw);go_split_ands;go_simp;(try with_reducible rfl))
      try simp only[Act.put,zA,zB,zC,zD,zE,zF]
      refine wpAnyH_done (by kernel_rfl) ?_ _
      refine NoPanic.normal ?_
      replace HWr:=Lib.hid HWr.out.drew
      clear hHeld k1r g0 g1
      go_wp2_with fail
      go_round
      case rel=>exact ⟨k+1,by omega,by go_num,HWr⟩
      case measure=>simp[intOf];omega
     ·obtain rfl:k=D.length:=by omega
      go_wp2_with fail
      go_ret
      exact ⟨rfl,bgo HB.out HWr.out⟩
   have b5:(x.k == 5)=false:=by simp[hk5]
   clear hk5 HS2
   (replace qk1:=k1.cell;replace rk1:=k1.frozen;replace lk1:=k1.lt)
   go_wp2_with fail
   clear qk1 rk1 lk1
   go_loopw [12] (fun i wr=>∃ k:Nat,k≤D.length∧i=.int .i64 k∧Hid (Below wc.heap.size wc wr)) (fun i _=>D.length - (intOf i).toNat)
   case atStart=>exact ⟨0,Nat.zero_le _,rfl,Lib.hid (Below.refl _ _)⟩
   case round=>
    obtain ⟨k,hk,rfl,HWr⟩:=hrel
    have hzw:=HWr.out.size
    have k1r:=k1.next HWr.out
    by_cases hlt:k<D.length
    ·have hki:(k:Int)<(D.length:Int):=by omega
     obtain ⟨b,o,R,d,R2,d2,hA2,lb,g0,g1,HC0⟩:=(O2.out.below HWr.out).atC hlt
     subst hA2
     have HC:=Lib.hid HC0
     obtain ⟨s,hse⟩:∃ s,s=D[k]:=⟨_,rfl⟩
     rw[←hse] at g0 g1 HC
     clear hse HC0
     go_wp2_with fail
     refine wp_region_noPanic ?_
     refine wp_region_held_drew (S:=(fun w'=>(w'.cell? ⟨b,o+k*2,none⟩=some (.slice R s.facts.length d)∧w'.cell? ⟨b,o+k*2+1,none⟩=some (.slice R2 s.atoms.length d2))∧∀ i,w'.cell? ⟨v1.heap.size+1,i,none⟩=#[.int .i64 x.k,.int .i64 x.a,.int .i64 x.b,.bool x.t.eq,.int .i64 x.t.a,.int .i64 x.t.b,.slice X1 x.i.facts.length y1,.slice X2 x.i.atoms.length y2,.slice X3 x.body.len y3,.slice X4 x.els.len y4][i]?)) (by kernel_rfl) (⟨⟨g0,g1⟩,k1r.drew.cell⟩) (fun hHeld=>?_)
     refine tk 0 ?_ rfl (fun w hSw=>?_) hHeld ?_
     rotate_left
     ·((try dsimp only at hSw);go_split_ands;go_simp;(try with_reducible rfl))
     try simp only[Act.put,zA,zB,zC,zD,zE,zF]
     refine tk 1 ?_ rfl (fun w hSw=>?_) hHeld ?_
     rotate_left
     ·((try dsimp only at hSw);go_split_ands;go_simp;(try with_reducible rfl))
     try simp only[Act.put,zA,zB,zC,zD,zE,zF]
     refine tk 2 ?_ rfl (fun w hSw=>?_) hHeld ?_
     rotate_left
     ·((try dsimp only at hSw);go_split_ands;go_simp;(try with_reducible rfl))
     try simp only[Act.put,zA,zB,zC,zD,zE,zF]
     refine tk 3 ?_ rfl (fun w hSw=>?_) hHeld ?_
     rotate_left
     ·((try dsimp only at hSw);go_split_ands;go_simp;(try with_reducible rfl))
     try simp only[Act.put,zA,zB,zC,zD,zE,zF]
     refine tk 4 ?_ rfl (fun w hSw=>?_) hHeld ?_
     rotate_left
     ·((try dsimp only at hSw);go_split_ands;go_simp;(try with_reducible rfl))
     try simp only[Act.put,zA,zB,zC,zD,zE,zF]
     refine tk 5 ?_ rfl (fun w hSw=>?_) hHeld ?_
     rotate_left
     ·((try dsimp only at hSw);go_split_ands;go_simp;(try with_reducible rfl))
     try simp only[Act.put,zA,zB,zC,zD,zE,zF]
     refine tk 6 ?_ rfl (fun w hSw=>?_) hHeld ?_
     rotate_left
     ·((try dsimp only at hSw);go_split_ands;go_simp;(try with_reducible rfl))
     try simp only[Act.put,zA,zB,zC,zD,zE,zF]
     refine tk 7 ?_ rfl (fun w hSw=>?_) hHeld ?_
     rotate_left
     ·((try dsimp only at hSw);go_split_ands;go_simp;(try with_reducible rfl))
     try simp only[Act.put,zA,zB,zC,zD,zE,zF]
     refine tk 8 ?_ rfl (fun w hSw=>?_) hHeld ?_
     rotate_left
     ·((try dsimp only at hSw);go_split_ands;go_simp;(try with_reducible rfl))
     try simp only[Act.put,zA,zB,zC,zD,zE,zF]
     refine tku 9 rfl hHeld ?_
     try simp only[Act.put,zA,zB,zC,zD,zE,zF]
     refine tku 10 rfl hHeld ?_
     try simp only[Act.put,zA,zB,zC,zD,zE,zF]
     refine tku 11 rfl hHeld ?_
     try simp only[Act.put,zA,zB,zC,zD,zE,zF]
     refine tku 12 rfl hHeld ?_
     try simp only[Act.put,zA,zB,zC,zD,zE,zF]
     refine tku 13 rfl hHeld ?_
     try simp only[Act.put,zA,zB,zC,zD,zE,zF]
     refine tku 14 rfl hHeld ?_
     try simp only[Act.put,zA,zB,zC,zD,zE,zF]
     refine tku 15 rfl hHeld ?_
     try simp only[Act.put,zA,zB,zC,zD,zE,zF]
     refine tku 16 rfl hHeld ?_
     try simp only[Act.put,zA,zB,zC,zD,zE,zF]
     refine tk 17 ?_ rfl (fun w hSw=>?_) hHeld ?_
     rotate_left
     ·((try dsimp only at hSw);go_split_ands;go_simp;(try with_reducible rfl))
     try simp only[Act.put,zA,zB,zC,zD,zE,zF]
     refine wpAnyH_done (by kernel_rfl) ?_ _
     refine NoPanic.normal ?_
     clear hHeld
     replace k1r:=k1r.drew
     replace HWr:=Lib.hid HWr.out.drew
     replace g0:wr.drew.cell? ⟨b,o+k*2,none⟩=some (.slice R s.facts.length d):=g0
     replace g1:wr.drew.cell? ⟨b,o+k*2+1,none⟩=some (.slice R2 s.atoms.length d2):=g1
     clear HC
     generalize wr.drew=w6 at *
     go_wp2_with fail
     refine wp_region_noPanic ?_
     refine wp_region_held_drew (S:=(fun w'=>(w'.cell? ⟨b,o+k*2,none⟩=some (.slice R s.facts.length d)∧w'.cell? ⟨b,o+k*2+1,none⟩=some (.slice R2 s.atoms.length d2))∧∀ i,w'.cell? ⟨v1.heap.size+1,i,none⟩=#[.int .i64 x.k,.int .i64 x.a,.int .i64 x.b,.bool x.t.eq,.int .i64 x.t.a,.int .i64 x.t.b,.slice X1 x.i.facts.length y1,.slice X2 x.i.atoms.length y2,.slice X3 x.body.len y3,.slice X4 x.els.len y4][i]?)) (by kernel_rfl) (⟨⟨g0,g1⟩,k1r.drew.cell⟩) (fun hHeld=>?_)
     refine tk 0 ?_ rfl (fun w hSw=>?_) hHeld ?_
     rotate_left
     ·((try dsimp only at hSw);go_split_ands;go_simp;(try with_reducible rfl))
     try simp only[Act.put,zA,zB,zC,zD,zE,zF]
     refine tk 1 ?_ rfl (fun w hSw=>?_) hHeld ?_
     rotate_left
     ·((try dsimp only at hSw);go_split_ands;go_simp;(try with_reducible rfl))
     try simp only[Act.put,zA,zB,zC,zD,zE,zF]
     refine tk 2 ?_ rfl (fun w hSw=>?_) hHeld ?_
     rotate_left
     ·((try dsimp only at hSw);go_split_ands;go_simp;(try with_reducible rfl))
     try simp only[Act.put,zA,zB,zC,zD,zE,zF]
     refine tk 3 ?_ rfl (fun w hSw=>?_) hHeld ?_
     rotate_left
     ·((try dsimp only at hSw);go_split_ands;go_simp;(try with_reducible rfl))
     try simp only[Act.put,zA,zB,zC,zD,zE,zF]
     refine tku 4 rfl hHeld ?_
     try simp only[Act.put,zA,zB,zC,zD,zE,zF]
     refine tku 5 rfl hHeld ?_
     try simp only[Act.put,zA,zB,zC,zD,zE,zF]
     refine tku 6 rfl hHeld ?_
     try simp only[Act.put,zA,zB,zC,zD,zE,zF]
     refine tku 7 rfl hHeld ?_
     try simp only[Act.put,zA,zB,zC,zD,zE,zF]
     refine tku 8 rfl hHeld ?_
     try simp only[Act.put,zA,zB,zC,zD,zE,zF]
     refine tku 9 rfl hHeld ?_
     try simp only[Act.put,zA,zB,zC,zD,zE,zF]
     refine tku 10 rfl hHeld ?_
     try simp only[Act.put,zA,zB,zC,zD,zE,zF]
     refine tku 11 rfl hHeld ?_
     try simp only[Act.put,zA,zB,zC,zD,zE,zF]
     refine tku 12 rfl hHeld ?_
     try simp only[Act.put,zA,zB,zC,zD,zE,zF]
     refine tku 13 rfl hHeld ?_
     try simp only[Act.put,zA,zB,zC,zD,zE,zF]
     refine tku 14 rfl hHeld ?_
     try simp only[Act.put,zA,zB,zC,zD,zE,zF]
     refine tku 15 rfl hHeld ?_
     try simp only[Act.put,zA,zB,zC,zD,zE,zF]
     refine tku 16 rfl hHeld ?_
     try simp only[Act.put,zA,zB,zC,zD,zE,zF]
     refine tku 17 rfl hHeld ?_
     try simp only[Act.put,zA,zB,zC,zD,zE,zF]
     refine tku 18 rfl hHeld ?_
     try simp only[Act.put,zA,zB,zC,zD,zE,zF]
     refine tku 19 rfl hHeld ?_
     try simp only[Act.put,zA,zB,zC,zD,zE,zF]
     refine tku 20 rfl hHeld ?_
     try simp only[Act.put,zA,zB,zC,zD,zE,zF]
     refine tku 21 rfl hHeld ?_
     try simp only[Act.put,zA,zB,zC,zD,zE,zF]
     refine tku 22 rfl hHeld ?_
     try simp only[Act.put,zA,zB,zC,zD,zE,zF]
     refine tku 23 rfl hHeld ?_
     try simp only[Act.put,zA,zB,zC,zD,zE,zF]
     refine tku 24 rfl hHeld ?_
     try simp only[Act.put,zA,zB,zC,zD,zE,zF]
     refine tk 25 ?_ rfl (fun w hSw=>?_) hHeld ?_
     rotate_left
     ·((try dsimp only at hSw);go_split_ands;go_simp;(try with_reducible rfl))
     try simp only[Act.put,zA,zB,zC,zD,zE,zF]
     refine wpAnyH_done (by kernel_rfl) ?_ _
     refine NoPanic.normal ?_
     replace HWr:=Lib.hid HWr.out.drew
     clear hHeld k1r g0 g1
     go_wp2_with fail
     go_round
     case rel=>exact ⟨k+1,by omega,by go_num,HWr⟩
     case measure=>simp[intOf];omega
    ·obtain rfl:k=D.length:=by omega
     go_wp2_with fail
     go_ret
     exact ⟨rfl,bgo HB.out HWr.out⟩
end Go.Proofs.YtjjokmlmknllhaaGreat
