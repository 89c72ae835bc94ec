/- 'laws.FnSymSet' returns true for all bytes that can be read. -/
import Derived.Test.YtjjokmlmknllhaaGreatMDrawSy
import Derived.Test.YtjjokmlmknllhaaGreatMSymQ
import Derived.Test.YtjjokmlmknllhaaGreatMSymS
import Derived.Test.YtjjokmlmknllhaaGreatMExpA
set_option linter.unusedSimpArgs false
set_option linter.unusedVariables false
namespace Go.Proofs.YtjjokmlmknllhaaGreat
open Go Go.RowKit Go.Proofs
attribute [local go_sem ↓] Go.wp_at_zero Go.wp_at_succ
set_option maxRecDepth 100000 in
set_option maxHeartbeats 12800000 in
theorem c_FnSymSet (v:Value) (A:Option Addr×Nat×Nat) (w:World) (h:v=.slice A.1 A.2.1 A.2.2∧BytesR w A.1 A.2.1 A.2.2):Calls Tryz.prog 4 #[v] w fun e w'=>e=.returned (.bool true)∧Below w.heap.size w w':=by
 obtain ⟨A,n,c⟩:=A
 obtain ⟨rfl,hR⟩:=h
 simp only at hR ⊢
 have HR:=Lib.hid hR
 clear hR
 by_cases hn:1048576<n
 ·have hni:(1048576:Int)<(n:Int):=by omega
  clear hn
  go_enter Tryz.func4,Tryz.ntmps4
  go_wp2_with fail
  go_ret
  exact ⟨rfl,bel⟩
 have hni:¬(1048576:Int)<(n:Int):=by omega
 clear hn
 go_enter Tryz.func4,Tryz.ntmps4
 go_wp2_with fail
 refine (c_DrawSymBasic A n c _ HR.out).mono ?_
 rintro e v1 ⟨r1,r2,a,x,KA,ks,kc,rfl,oa,oc,ok,hkl,hal,hB1⟩
 obtain ⟨F,e1,G,e2,rfl,-⟩:=oa.C
 have hcx:=oc
 obtain ⟨X1,y1,X2,y2,X3,y3,X4,y4,rfl,-,-,-⟩:=oc
 have hbq:=bbox (bbox (Below.refl _ v1) (.cells #[.slice F a.facts.length e1,.slice G a.atoms.length e2] tAs)) (.cells #[.int .i64 x.k,.int .i64 x.a,.int .i64 x.b,.bool x.t.eq,.int .i64 x.t.a,.int .i64 x.t.b,.slice X1 x.i.facts.length y1,.slice X2 x.i.atoms.length y2,.slice X3 x.body.len y3,.slice X4 x.els.len y4] tC)
 have HV:=Lib.hid ((oa.below hbq).C)
 have HC:=Lib.hid (hcx.below hbq)
 have HK:=Lib.hid (ok.reads)
 obtain ⟨KA',kc',eK,fk⟩:=HK.out
 injection eK with eK1 eK2 eK3
 subst eK1 eK3
 clear HK
 have HK:=Lib.hid (fk.below hbq)
 obtain ⟨k0,k1⟩:=blk2 v1 tAs tC #[.slice F a.facts.length e1,.slice G a.atoms.length e2] #[.int .i64 x.k,.int .i64 x.a,.int .i64 x.b,.bool x.t.eq,.int .i64 x.t.a,.int .i64 x.t.b,.slice X1 x.i.facts.length y1,.slice X2 x.i.atoms.length y2,.slice X3 x.body.len y3,.slice X4 x.els.len y4]
 have hz:v1.heap.size+1<((v1.alloc (.cells #[.slice F a.facts.length e1,.slice G a.atoms.length e2] tAs)).alloc (.cells #[.int .i64 x.k,.int .i64 x.a,.int .i64 x.b,.bool x.t.eq,.int .i64 x.t.a,.int .i64 x.t.b,.slice X1 x.i.facts.length y1,.slice X2 x.i.atoms.length y2,.slice X3 x.body.len y3,.slice X4 x.els.len y4] tC)).heap.size:=by simp
 have HB:=Lib.hid (bgo hB1 hbq)
 clear hbq oa hcx ok fk hB1 HR hni eK2
 go_upto_region 4 with fail
 generalize ((v1.alloc (.cells #[.slice F a.facts.length e1,.slice G a.atoms.length e2] tAs)).alloc (.cells #[.int .i64 x.k,.int .i64 x.a,.int .i64 x.b,.bool x.t.eq,.int .i64 x.t.a,.int .i64 x.t.b,.slice X1 x.i.facts.length y1,.slice X2 x.i.atoms.length y2,.slice X3 x.body.len y3,.slice X4 x.els.len y4] tC))=W1 at *
 (replace qk0:=k0.cell;replace rk0:=k0.frozen;replace lk0:=k0.lt;replace qk1:=k1.cell;replace rk1:=k1.frozen;replace lk1:=k1.lt)
 go_wp2_with fail
 refine (k_impl_SymBasic _ _ a x KA kc ks _ HV.out (by omega) HC.out HK.out).mono ?_
 rintro e w2 ⟨r2,rfl,⟨⟨vs,o2⟩,-⟩,hB2⟩
 obtain ⟨A2,c2,rfl⟩:=o2.form
 replace HV:=Lib.hid (HV.out.below hB2)
 replace HC:=Lib.hid (HC.out.below hB2)
 replace HK:=Lib.hid (HK.out.below hB2)
 replace HB:=Lib.hid (bgo HB.out hB2)
 replace k0:=k0.next hB2
 replace k1:=k1.next hB2
 have O2:=Lib.hid o2
 have hz2:=hB2.size
 clear hB2 o2 qk0 rk0 lk0 qk1 rk1 lk1
 (replace qk0:=k0.cell;replace rk0:=k0.frozen;replace lk0:=k0.lt;replace qk1:=k1.cell;replace rk1:=k1.frozen;replace lk1:=k1.lt)
 go_wp2_with fail
 refine (k_spec_SymBasic _ _ a x KA kc ks _ HV.out (by omega) HC.out HK.out (by omega)).mono ?_
 rintro e w3 ⟨r3,rfl,⟨⟨vs',o3⟩,-⟩,hB3⟩
 obtain ⟨A3,c3,rfl⟩:=o3.form
 replace HV:=Lib.hid (HV.out.below hB3)
 replace HC:=Lib.hid (HC.out.below hB3)
 replace HK:=Lib.hid (HK.out.below hB3)
 replace HB:=Lib.hid (bgo HB.out hB3)
 replace O2:=Lib.hid (O2.out.below hB3)
 have O3:=Lib.hid o3
 have hz3:=hB3.size
 replace k0:=k0.next hB3
 replace k1:=k1.next hB3
 clear hB3 o3 qk0 rk0 lk0 qk1 rk1 lk1
 cases hE:symC a x ks
 case none=>
  rw[hE] at O2 O3
  clear hE
  simp only[Option.getD_none] at O2 O3 ⊢
  (replace qk0:=k0.cell;replace rk0:=k0.frozen;replace lk0:=k0.lt;replace qk1:=k1.cell;replace rk1:=k1.frozen;replace lk1:=k1.lt)
  go_wp2_with fail
  refine (t_slAsns A2 A3 c2 c3 [] _ O2.out.reads.2 O3.out.reads.2).mono ?_
  rintro e w4 ⟨rfl,hB4⟩
  have HB4:=Lib.hid (bgo HB.out hB4)
  have O24:=Lib.hid (O2.out.below hB4)
  have O34:=Lib.hid (O3.out.below hB4)
  clear hB4
  go_wp2_with fail
  refine (t_slAsns A2 A3 c2 c3 [] _ O24.out.reads.2 O34.out.reads.2).mono ?_
  rintro e w5 ⟨rfl,hB5⟩
  have HB5:=Lib.hid (bgo HB4.out hB5)
  go_wp2_with fail
  go_ret
  exact ⟨rfl,HB5.out⟩
 case some D=>
  rw[hE] at O2 O3
  simp only[Option.getD_some] at O2 O3 ⊢
  have HE:=Lib.hid hE
  clear hE
  have hDl:D.length≤1049600:=O2.out.lim
  by_cases hk:x.k=1
  case neg=>
   have hk1:(x.k == 1)=false:=beq_false_of_ne hk
   have hk2:(x.k != 1)=true:=by simp[hk]
   clear hk
   (replace qk0:=k0.cell;replace rk0:=k0.frozen;replace lk0:=k0.lt;replace qk1:=k1.cell;replace rk1:=k1.frozen;replace lk1:=k1.lt)
   go_wp2_with fail
   refine (t_slAsns A2 A3 c2 c3 D _ O2.out.reads.2 O3.out.reads.2).mono ?_
   rintro e w4 ⟨rfl,hB4⟩
   replace HV:=Lib.hid (HV.out.below hB4)
   replace HC:=Lib.hid (HC.out.below hB4)
   replace HK:=Lib.hid (HK.out.below hB4)
   replace HB:=Lib.hid (bgo HB.out hB4)
   replace O2:=Lib.hid (O2.out.below hB4)
   replace O3:=Lib.hid (O3.out.below hB4)
   have hz4:=hB4.size
   replace k0:=k0.next hB4
   replace k1:=k1.next hB4
   clear hB4 qk0 rk0 lk0 qk1 rk1 lk1
   (replace qk0:=k0.cell;replace rk0:=k0.frozen;replace lk0:=k0.lt;replace qk1:=k1.cell;replace rk1:=k1.frozen;replace lk1:=k1.lt)
   go_wp2_with fail
   refine (t_slAsns A2 A3 c2 c3 D _ O2.out.reads.2 O3.out.reads.2).mono ?_
   rintro e w5 ⟨rfl,hB5⟩
   have HB5:=Lib.hid (bgo HB.out hB5)
   go_wp2_with fail
   go_ret
   exact ⟨rfl,HB5.out⟩
  by_cases hab:x.a=x.b
  case pos=>
   have hk1:(x.k != 1)=false:=by simp[hk]
   have hab1:(x.a == x.b)=true:=by simp[hab]
   clear hk hab
   (replace qk0:=k0.cell;replace rk0:=k0.frozen;replace lk0:=k0.lt;replace qk1:=k1.cell;replace rk1:=k1.frozen;replace lk1:=k1.lt)
   go_wp2_with fail
   refine (t_slAsns A2 A3 c2 c3 D _ O2.out.reads.2 O3.out.reads.2).mono ?_
   rintro e w4 ⟨rfl,hB4⟩
   replace HV:=Lib.hid (HV.out.below hB4)
   replace HC:=Lib.hid (HC.out.below hB4)
   replace HK:=Lib.hid (HK.out.below hB4)
   replace HB:=Lib.hid (bgo HB.out hB4)
   replace O2:=Lib.hid (O2.out.below hB4)
   replace O3:=Lib.hid (O3.out.below hB4)
   have hz4:=hB4.size
   replace k0:=k0.next hB4
   replace k1:=k1.next hB4
   clear hB4 qk0 rk0 lk0 qk1 rk1 lk1
   (replace qk0:=k0.cell;replace rk0:=k0.frozen;replace lk0:=k0.lt;replace qk1:=k1.cell;replace rk1:=k1.frozen;replace lk1:=k1.lt)
   go_wp2_with fail
   refine (t_slAsns A2 A3 c2 c3 D _ O2.out.reads.2 O3.out.reads.2).mono ?_
   rintro e w5 ⟨rfl,hB5⟩
   have HB5:=Lib.hid (bgo HB.out hB5)
   go_wp2_with fail
   go_ret
   exact ⟨rfl,HB5.out⟩
  have hk1:(x.k != 1)=false:=by simp[hk]
  have hab1:(x.a == x.b)=false:=beq_false_of_ne hab
  have hS:∃ q,symR a q 1 x.a x.b ks=some D:=⟨okC x.k x.a x.b x.t x.i x.body x.els,by have:=HE.out;unfold symC at this;rw[←hk];exact this⟩
  obtain ⟨q,hS⟩:=hS
  obtain ⟨y,hD,hy⟩:=set_law hS hab
  have HY:=Lib.hid hy
  have HD:=Lib.hid hD
  clear hS hy hk hab hD HE
  (replace qk0:=k0.cell;replace rk0:=k0.frozen;replace lk0:=k0.lt;replace qk1:=k1.cell;replace rk1:=k1.frozen;replace lk1:=k1.lt)
  go_wp2_with fail
  refine (t_slAsns A2 A3 c2 c3 D _ O2.out.reads.2 O3.out.reads.2).mono ?_
  rintro e w4 ⟨rfl,hB4⟩
  replace HV:=Lib.hid (HV.out.below hB4)
  replace HC:=Lib.hid (HC.out.below hB4)
  replace HK:=Lib.hid (HK.out.below hB4)
  replace HB:=Lib.hid (bgo HB.out hB4)
  replace O2:=Lib.hid (O2.out.below hB4)
  replace O3:=Lib.hid (O3.out.below hB4)
  have hz4:=hB4.size
  replace k0:=k0.next hB4
  replace k1:=k1.next hB4
  clear hB4 qk0 rk0 lk0 qk1 rk1 lk1
  (replace qk0:=k0.cell;replace rk0:=k0.frozen;replace lk0:=k0.lt;replace qk1:=k1.cell;replace rk1:=k1.frozen;replace lk1:=k1.lt)
  have hD:=HD.out
  subst hD
  obtain ⟨b,o,R,d,R2,d2,hA2,lb,g0,g1,HC0⟩:=O2.out.atC (k:=0) (by simp)
  subst hA2
  simp only[List.getElem_cons_zero,Nat.zero_mul,Nat.add_zero] at g0 g1 HC0
  have HC0:=Lib.hid HC0
  clear HD hDl O2 O3
  simp only[List.length_cons,List.length_nil]
  go_wp2_with fail
  refine wp_region_noPanic ?_
  refine wp_region_held_drew (S:=(fun w'=>(∀ i,w'.cell? ⟨v1.heap.size+1,i,none⟩=#[.int .i64 x.k,.int .i64 x.a,.int .i64 x.b,.bool x.t.eq,.int .i64 x.t.a,.int .i64 x.t.b,.slice X1 x.i.facts.length y1,.slice X2 x.i.atoms.length y2,.slice X3 x.body.len y3,.slice X4 x.els.len y4][i]?)∧w'.cell? ⟨b,o,none⟩=some (.slice R y.facts.length d)∧w'.cell? ⟨b,o+1,none⟩=some (.slice R2 y.atoms.length d2))) (by kernel_rfl) (⟨k1.drew.cell,g0,g1⟩) (fun hHeld=>?_)
  refine tk 0 ?_ rfl (fun w hSw=>?_) hHeld ?_
  rotate_left
  ·((try dsimp only at hSw);go_split_ands;go_simp;(try with_reducible rfl))
  try simp only[Act.put,zA,zB,zC,zD,zE,zF]
  refine tk 1 ?_ rfl (fun w hSw=>?_) hHeld ?_
  rotate_left
  ·((try dsimp only at hSw);go_split_ands;go_simp;(try with_reducible rfl))
  try simp only[Act.put,zA,zB,zC,zD,zE,zF]
  refine tk 2 ?_ rfl (fun w hSw=>?_) hHeld ?_
  rotate_left
  ·((try dsimp only at hSw);go_split_ands;go_simp;(try with_reducible rfl))
  try simp only[Act.put,zA,zB,zC,zD,zE,zF]
  refine tk 3 ?_ rfl (fun w hSw=>?_) hHeld ?_
  rotate_left
  ·((try dsimp only at hSw);go_split_ands;go_simp;(try with_reducible rfl))
  try simp only[Act.put,zA,zB,zC,zD,zE,zF]
  refine tk 4 ?_ rfl (fun w hSw=>?_) hHeld ?_
  rotate_left
  ·((try dsimp only at hSw);go_split_ands;go_simp;(try with_reducible rfl))
  try simp only[Act.put,zA,zB,zC,zD,zE,zF]
  refine tk 5 ?_ rfl (fun w hSw=>?_) hHeld ?_
  rotate_left
  ·((try dsimp only at hSw);go_split_ands;go_simp;(try with_reducible rfl))
  try simp only[Act.put,zA,zB,zC,zD,zE,zF]
  refine tk 6 ?_ rfl (fun w hSw=>?_) hHeld ?_
  rotate_left
  ·((try dsimp only at hSw);go_split_ands;go_simp;(try with_reducible rfl))
  try simp only[Act.put,zA,zB,zC,zD,zE,zF]
  refine tk 7 ?_ rfl (fun w hSw=>?_) hHeld ?_
  rotate_left
  ·((try dsimp only at hSw);go_split_ands;go_simp;(try with_reducible rfl))
  try simp only[Act.put,zA,zB,zC,zD,zE,zF]
  refine tk 8 ?_ rfl (fun w hSw=>?_) hHeld ?_
  rotate_left
  ·((try dsimp only at hSw);go_split_ands;go_simp;(try with_reducible rfl))
  try simp only[Act.put,zA,zB,zC,zD,zE,zF]
  refine tk 9 ?_ rfl (fun w hSw=>?_) hHeld ?_
  rotate_left
  ·((try dsimp only at hSw);go_split_ands;go_simp;(try with_reducible rfl))
  try simp only[Act.put,zA,zB,zC,zD,zE,zF]
  refine tk 10 ?_ rfl (fun w hSw=>?_) hHeld ?_
  rotate_left
  ·((try dsimp only at hSw);go_split_ands;go_simp;(try with_reducible rfl))
  try simp only[Act.put,zA,zB,zC,zD,zE,zF]
  refine tk 11 ?_ rfl (fun w hSw=>?_) hHeld ?_
  rotate_left
  ·((try dsimp only at hSw);go_split_ands;go_simp;(try with_reducible rfl))
  try simp only[Act.put,zA,zB,zC,zD,zE,zF]
  have hdr:Below w4.heap.size w4 w4.drew:=(Below.refl _ _).drew
  refine rdc 12 rfl fun K hK=>?_
  try simp only[zA,zB,zC]
  (go_simp;refine (c_impl_Implies _ y ⟨true,x.a,x.b⟩ _ (HC0.out.V.below hdr) (Nat.le_refl _)).mono ?_;rintro e w5 ⟨rfl,hB5⟩;rw[HY.out];replace hB5:Below w4.heap.size w4 w5:=bgo hdr hB5;have k15:=k1.next hB5;have p0:=(hB5.cell (p:=⟨b,o,none⟩) lb).trans g0;have p1:=(hB5.cell (p:=⟨b,o+1,none⟩) lb).trans g1;have HB5:=Lib.hid (bgo HB.out hB5);clear hB5)
  refine hK.out _ _ (⟨k15.cell,p0,p1⟩) ?_
  clear hHeld hK K
  intro hHeld
  try simp only[Act.put,zA,zB,zC,zD,zE,zF]
  refine tk 13 ?_ rfl (fun w hSw=>?_) hHeld ?_
  rotate_left
  ·((try dsimp only at hSw);go_split_ands;go_simp;(try with_reducible rfl))
  try simp only[Act.put,zA,zB,zC,zD,zE,zF]
  refine tk 14 ?_ rfl (fun w hSw=>?_) hHeld ?_
  rotate_left
  ·((try dsimp only at hSw);go_split_ands;go_simp;(try with_reducible rfl))
  try simp only[Act.put,zA,zB,zC,zD,zE,zF]
  refine wpAnyH_done (by kernel_rfl) ?_ _
  refine NoPanic.normal ?_
  go_wp2_with fail
  go_ret
  exact ⟨rfl,HB5.out⟩
end Go.Proofs.YtjjokmlmknllhaaGreat
