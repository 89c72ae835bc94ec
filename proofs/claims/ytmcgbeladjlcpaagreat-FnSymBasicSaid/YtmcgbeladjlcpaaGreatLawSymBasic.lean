/- 'laws.FnSymBasic' returns true for all bytes that can be read. -/
import Derived.Test.YtmcgbeladjlcpaaGreatRunBas
import Derived.Test.YtmcgbeladjlcpaaGreatMSlTry
import Derived.Deep.DeepCutAuto
set_option linter.unusedSimpArgs false
set_option linter.unusedVariables false
set_option maxRecDepth 100000
set_option maxHeartbeats 25600000
namespace Go.Proofs.YtmcgbeladjlcpaaGreat
section
open Go Go.RowKit Go.Proofs
attribute [local go_sem ↓] Go.wp_at_zero Go.wp_at_succ
theorem mdl_holds {a:Asn} (h:consB a=true):(modelR a).valid=true∧holdsF (modelR a) a=true:=by
 have e:modelR a=modelL a:=by unfold modelR;rw[h];rfl
 obtain ⟨-,h2,-⟩:=modelL_law h
 rw[e]
 exact ⟨(case_of_law h2).1,h2⟩
theorem StateO.tightM {w:World} {b:Nat} {v:Value} {s:Ste} (h:StateO w b v s):StateV w 0 w.heap.size v s:=by
 obtain ⟨fv,av,rfl,h1,h2,-⟩:=h
 obtain ⟨A,c,rfl,r1⟩:=h1.reads
 obtain ⟨B,d,rfl,r2⟩:=h2.reads
 exact ⟨A,c,B,d,rfl,r1.mono (Nat.zero_le _) (Nat.le_refl _),r2.mono (Nat.zero_le _) (Nat.le_refl _)⟩
theorem stepIL2g {ops:Array Oper} {o:Oper} {a:Act} {K:Act→World→Prop} {Q:Exit→Act→World→Prop} {E:Prop} {w:World} {base lo hi c:Nat} {v:Value} {A:Option Addr} (hw:Region.wanted o (yielded ops a.tmps)=true) (s x:Operand) (ho:o.op=.call { callee:=.builtin .append,args:=#[s,x],argTypes:=#[32,32] })
  {xs ys:List Int} (hs:a.eval s=v) (hown:IntsO w base v xs) (hx:a.eval x=.slice A ys.length c) (hR:IntsV w lo hi A ys) (hn:xs.length+ys.length≤1049600) (hb:base≤w.heap.size)
  (h:∀ A' c' w',IntsO w' base (.slice A' (xs++ys).length c') (xs++ys)→w.grownBy w' v.ownBlock→Below base w w'→K (a.put o.dst (.slice A' (xs++ys).length c')) w'):if Region.wanted o (yielded ops a.tmps)=true then Oper.wp Tryz.prog o a w K Q else E:=by
 rw[if_pos hw]
 refine wp_appL s x 32 ho Tryz.underlying32 infoI rfl (by decide) (by decide) hs hown.1 hx hR.raw (encI_one _) hn hb ?_
 intro v' w' h1 h2 h3
 have hO:IntsO w' base v' (xs++ys):=⟨by rw[List.length_append,show encI (xs++ys)=encI xs++encI ys from List.map_append];exact h1,by simp[Lim];omega⟩
 obtain ⟨A',c',rfl,-⟩:=hO.reads
 exact h A' c' w' hO h2 h3
theorem run_facts {a:Asn} {x:Cm1} {ks:List Int} {D:List Asn} (h:symC a x ks=some D):basicB x.k=true∧fvalB x.k x.a x.b x.t x.i x.body x.els=true∧∀ s,holdsF s a=true→(basicF s x.k x.a x.b).2=2∨((basicF s x.k x.a x.b).2=0∧someF (basicF s x.k x.a x.b).1 D (atermsL a++(ks++[x.a,x.b]))=true):=by
 unfold symC at h
 obtain ⟨-,hok,-⟩:=symR_some h
 have e:=hok
 rw[okC_eq,Bool.and_eq_true] at e
 rw[hok] at h
 obtain ⟨hA,hB,-⟩:=okC_term hok
 have hA4:x.k=1∨x.k=2∨x.k=4→1≤x.a∧x.a≤4:=fun hk=>(fieldsB_a (fieldsB_of e.1 e.2)).elim id fun h=>absurd hk h
 exact ⟨e.1,e.2,fun s hs=>sym_sound h (of_decide_eq_true e.1) hA4 hA hB hs⟩
theorem c_FnSymBasic (v:Value) (A:Option Addr×Nat×Nat) (w:World) (h:v=.slice A.1 A.2.1 A.2.2∧BytesR w A.1 A.2.1 A.2.2):Calls Tryz.prog 3 #[v] w fun e w'=>e=.returned (.bool true)∧Below w.heap.size w w':=by
 obtain ⟨A,n,c⟩:=A
 obtain ⟨rfl,hR⟩:=h
 simp only at hR ⊢
 have HR:=Lib.hid hR
 clear hR
 by_cases hn:1048576<n
 ·have hni:(1048576:Int)<(n:Int):=by omega
  clear hn
  go_enter Tryz.func3,Tryz.ntmps3
  go_wp2_with fail
  go_ret
  exact ⟨rfl,bel⟩
 have hni:¬(1048576:Int)<(n:Int):=by omega
 clear hn
 go_enter Tryz.func3,Tryz.ntmps3
 go_wp2_with fail
 refine (c_DrawSymBasic A n c _ HR.out).mono ?_
 rintro e v1 ⟨r1,r2,a,x,KA,ks,kc,rfl,oa,oc,ok,hkl,hal,hB1⟩
 obtain ⟨F,e1,G,e2,rfl,-⟩:=oa.C
 have hcx:=oc
 obtain ⟨X1,y1,X2,y2,X3,y3,X4,y4,rfl,-,-,-⟩:=oc
 have hbq:=bbox (bbox (Below.refl _ v1) (.cells #[.slice F a.facts.length e1,.slice G a.atoms.length e2] tAs)) (.cells #[.int .i64 x.k,.int .i64 x.a,.int .i64 x.b,.bool x.t.eq,.int .i64 x.t.a,.int .i64 x.t.b,.slice X1 x.i.facts.length y1,.slice X2 x.i.atoms.length y2,.slice X3 x.body.len y3,.slice X4 x.els.len y4] tC)
 have HV:=Lib.hid ((oa.below hbq).C)
 have HC:=Lib.hid (hcx.below hbq)
 have HK:=Lib.hid (ok.reads)
 obtain ⟨KA',kc',eK,fk⟩:=HK.out
 injection eK with eK1 eK2 eK3
 subst eK1 eK3
 clear HK
 have HK:=Lib.hid (fk.below hbq)
 obtain ⟨k0,k1⟩:=blk2 v1 tAs tC #[.slice F a.facts.length e1,.slice G a.atoms.length e2] #[.int .i64 x.k,.int .i64 x.a,.int .i64 x.b,.bool x.t.eq,.int .i64 x.t.a,.int .i64 x.t.b,.slice X1 x.i.facts.length y1,.slice X2 x.i.atoms.length y2,.slice X3 x.body.len y3,.slice X4 x.els.len y4]
 have hz:v1.heap.size+1<((v1.alloc (.cells #[.slice F a.facts.length e1,.slice G a.atoms.length e2] tAs)).alloc (.cells #[.int .i64 x.k,.int .i64 x.a,.int .i64 x.b,.bool x.t.eq,.int .i64 x.t.a,.int .i64 x.t.b,.slice X1 x.i.facts.length y1,.slice X2 x.i.atoms.length y2,.slice X3 x.body.len y3,.slice X4 x.els.len y4] tC)).heap.size:=by simp
 have HB:=Lib.hid (bgo hB1 hbq)
 clear hbq oa hcx ok fk hB1 HR hni eK2
 go_upto_region 4 with fail
 generalize ((v1.alloc (.cells #[.slice F a.facts.length e1,.slice G a.atoms.length e2] tAs)).alloc (.cells #[.int .i64 x.k,.int .i64 x.a,.int .i64 x.b,.bool x.t.eq,.int .i64 x.t.a,.int .i64 x.t.b,.slice X1 x.i.facts.length y1,.slice X2 x.i.atoms.length y2,.slice X3 x.body.len y3,.slice X4 x.els.len y4] tC))=W1 at *
 (replace qk0:=k0.cell;replace rk0:=k0.frozen;replace lk0:=k0.lt;replace qk1:=k1.cell;replace rk1:=k1.frozen;replace lk1:=k1.lt)
 go_wp2_with fail
 refine (k_impl_SymBasic _ _ a x KA kc ks _ HV.out (by omega) HC.out HK.out).mono ?_
 rintro e w2 ⟨r2,rfl,⟨⟨vs,o2⟩,-⟩,hB2⟩
 obtain ⟨A2,c2,rfl⟩:=o2.form
 replace HV:=Lib.hid (HV.out.below hB2)
 replace HC:=Lib.hid (HC.out.below hB2)
 replace HK:=Lib.hid (HK.out.below hB2)
 replace HB:=Lib.hid (bgo HB.out hB2)
 replace k0:=k0.next hB2
 replace k1:=k1.next hB2
 have O2:=Lib.hid o2
 have hz2:=hB2.size
 clear hB2 o2 qk0 rk0 lk0 qk1 rk1 lk1
 (replace qk0:=k0.cell;replace rk0:=k0.frozen;replace lk0:=k0.lt;replace qk1:=k1.cell;replace rk1:=k1.frozen;replace lk1:=k1.lt)
 go_wp2_with fail
 refine (k_spec_SymBasic _ _ a x KA kc ks _ HV.out (by omega) HC.out HK.out (by omega)).mono ?_
 rintro e w3 ⟨r3,rfl,⟨⟨vs',o3⟩,-⟩,hB3⟩
 obtain ⟨A3,c3,rfl⟩:=o3.form
 replace HV:=Lib.hid (HV.out.below hB3)
 replace HC:=Lib.hid (HC.out.below hB3)
 replace HK:=Lib.hid (HK.out.below hB3)
 replace HB:=Lib.hid (bgo HB.out hB3)
 replace O2:=Lib.hid (O2.out.below hB3)
 have O3:=Lib.hid o3
 have hz3:=hB3.size
 replace k0:=k0.next hB3
 replace k1:=k1.next hB3
 clear hB3 o3 qk0 rk0 lk0 qk1 rk1 lk1
 cases hE:symC a x ks
 case none=>
  rw[hE] at O2 O3
  clear hE
  simp only[Option.getD_none] at O2 O3 ⊢
  (replace qk0:=k0.cell;replace rk0:=k0.frozen;replace lk0:=k0.lt;replace qk1:=k1.cell;replace rk1:=k1.frozen;replace lk1:=k1.lt)
  go_wp2_with fail
  refine (t_slAsns A2 A3 c2 c3 [] _ O2.out.reads.2 O3.out.reads.2).mono ?_
  rintro e w4 ⟨rfl,hB4⟩
  have HB4:=Lib.hid (bgo HB.out hB4)
  have O24:=Lib.hid (O2.out.below hB4)
  have O34:=Lib.hid (O3.out.below hB4)
  clear hB4
  go_wp2_with fail
  refine (t_slAsns A2 A3 c2 c3 [] _ O24.out.reads.2 O34.out.reads.2).mono ?_
  rintro e w5 ⟨rfl,hB5⟩
  have HB5:=Lib.hid (bgo HB4.out hB5)
  go_wp2_with fail
  go_ret
  exact ⟨rfl,HB5.out⟩
 case some D=>
  rw[hE] at O2 O3
  simp only[Option.getD_some] at O2 O3 ⊢
  have HE:=Lib.hid hE
  clear hE
  have hDl:D.length≤1049600:=O2.out.lim
  obtain ⟨hbk,hfv,hsnd⟩:=run_facts HE.out
  have HBK:=Lib.hid hbk
  have HFV:=Lib.hid hfv
  obtain ⟨has,hhas⟩:∃ q,q=consB a:=⟨_,rfl⟩
  obtain ⟨s,hs⟩:∃ s,s=modelR a:=⟨_,rfl⟩
  have CM:Hid (∀ W lo hi,AsnV W lo hi (.agg #[.slice F a.facts.length e1,.slice G a.atoms.length e2]) a→hi≤W.heap.size→Calls Tryz.prog 15 #[.agg #[.slice F a.facts.length e1,.slice G a.atoms.length e2]] W fun e w'=>∃ r,e=.returned (.tuple #[r,.bool has])∧StateO w' W.heap.size r s∧Below W.heap.size W w'):=Lib.hid fun W lo hi h1 h2=>by rw[hhas,hs];exact c_impl_ModelOf _ a W h1 h2
  have HMH:Hid (has=true→s.valid=true∧((basicF s x.k x.a x.b).2=2∨((basicF s x.k x.a x.b).2=0∧someF (basicF s x.k x.a x.b).1 D (atermsL a++(ks++[x.a,x.b]))=true))):=Lib.hid fun e=>by
   rw[hhas] at e
   obtain ⟨m1,m2⟩:=mdl_holds e
   rw[hs]
   exact ⟨m1,hsnd _ m2⟩
  clear hbk hfv hsnd hhas hs HE
  (replace qk0:=k0.cell;replace rk0:=k0.frozen;replace lk0:=k0.lt;replace qk1:=k1.cell;replace rk1:=k1.frozen;replace lk1:=k1.lt)
  go_wp2_with fail
  refine (t_slAsns A2 A3 c2 c3 D _ O2.out.reads.2 O3.out.reads.2).mono ?_
  rintro e w4 ⟨rfl,hB4⟩
  replace HV:=Lib.hid (HV.out.below hB4)
  replace HC:=Lib.hid (HC.out.below hB4)
  replace HK:=Lib.hid (HK.out.below hB4)
  replace HB:=Lib.hid (bgo HB.out hB4)
  replace O2:=Lib.hid (O2.out.below hB4)
  replace O3:=Lib.hid (O3.out.below hB4)
  have hz4:=hB4.size
  replace k0:=k0.next hB4
  replace k1:=k1.next hB4
  clear hB4 qk0 rk0 lk0 qk1 rk1 lk1
  (replace qk0:=k0.cell;replace rk0:=k0.frozen;replace lk0:=k0.lt;replace qk1:=k1.cell;replace rk1:=k1.frozen;replace lk1:=k1.lt)
  go_wp2_with fail
  refine (CM.out _ _ _ (HV.out.V) (by omega)).mono ?_
  rintro e w5 ⟨r5,rfl,o5,hB5⟩
  replace HV:=Lib.hid (HV.out.below hB5)
  replace HC:=Lib.hid (HC.out.below hB5)
  replace HK:=Lib.hid (HK.out.below hB5)
  replace HB:=Lib.hid (bgo HB.out hB5)
  replace O2:=Lib.hid (O2.out.below hB5)
  replace k0:=k0.next hB5
  replace k1:=k1.next hB5
  have HO:=Lib.hid o5.tightM
  obtain ⟨P1,p1,P2,p2,rfl,-,-⟩:=HO.out
  have hBw:=HB.out
  clear hB5 o5 CM
  (replace qk0:=k0.cell;replace rk0:=k0.frozen;replace lk0:=k0.lt;replace qk1:=k1.cell;replace rk1:=k1.frozen;replace lk1:=k1.lt)
  cases has
  ·go_wp2_with fail
   go_ret
   exact ⟨rfl,bel⟩
  ·obtain ⟨hsv,hsd⟩:=HMH.out rfl
   replace hsv:=Lib.hid hsv
   replace hsd:=Lib.hid hsd
   have hbx:=bbox (Below.refl _ w5) (.cells #[.slice P1 s.values.length p1,.slice P2 s.heap.length p2] 40)
   have kS:=Blk.new w5 40 #[.slice P1 s.values.length p1,.slice P2 s.heap.length p2]
   have lw5:v1.heap.size+1<w5.heap.size:=k1.lt
   replace HV:=Lib.hid (HV.out.below hbx)
   replace HC:=Lib.hid (HC.out.below hbx)
   replace HK:=Lib.hid (HK.out.below hbx)
   replace HB:=Lib.hid (bgo HB.out hbx)
   replace O2:=Lib.hid (O2.out.below hbx)
   replace HO:=Lib.hid (HO.out.below hbx)
   replace k0:=k0.next hbx
   replace k1:=k1.next hbx
   clear hbx hBw HMH
   go_upto_region 11 with fail
   generalize (w5.alloc (.cells #[.slice P1 s.values.length p1,.slice P2 s.heap.length p2] _))=w6 at *
   (replace qk0:=k0.cell;replace rk0:=k0.frozen;replace lk0:=k0.lt;replace qk1:=k1.cell;replace rk1:=k1.frozen;replace lk1:=k1.lt;replace qkS:=kS.cell;replace rkS:=kS.frozen;replace lkS:=kS.lt)
   go_wp2_with fail
   refine (c_RunBasic _ _ s x _ HO.out hsv.out HC.out HBK.out HFV.out).mono ?_
   rintro e w7 ⟨r7,rfl,o7,hB7⟩
   have hpv:=(basicF_ok hsv.out x.k x.a x.b).1
   have hsd:=hsd.out
   generalize basicF s x.k x.a x.b=P at *
   obtain ⟨s2,cd⟩:=P
   simp only at o7 hsd hpv ⊢
   replace HV:=Lib.hid (HV.out.below hB7)
   replace HC:=Lib.hid (HC.out.below hB7)
   replace HK:=Lib.hid (HK.out.below hB7)
   replace HB:=Lib.hid (bgo HB.out hB7)
   replace O2:=Lib.hid (O2.out.below hB7)
   replace k0:=k0.next hB7
   replace k1:=k1.next hB7
   have hBw:=HB.out
   clear hB7 kS qkS rkS lkS HO HBK HFV hsv
   (replace qk0:=k0.cell;replace rk0:=k0.frozen;replace lk0:=k0.lt;replace qk1:=k1.cell;replace rk1:=k1.frozen;replace lk1:=k1.lt)
   rcases hsd with rfl|⟨rfl,hsm⟩
   ·rw[if_neg (by decide)] at o7
    have HO7:=Lib.hid o7.tightM
    obtain ⟨R1,q1,R2,q2,rfl,-,-⟩:=HO7.out
    clear o7
    go_wp2_with fail
    refine wp_region_noPanic ?_
    refine wp_region_held_drew (S:=(fun w'=>True)) (by kernel_rfl) (trivial) (fun hHeld=>?_)
    refine tk2 0 rfl hHeld ?_
    try simp only[zz]
    refine tk2 1 rfl hHeld ?_
    try simp only[zz]
    refine tk2 2 rfl hHeld ?_
    try simp only[zz]
    refine tku 3 rfl hHeld ?_
    try simp only[zz]
    refine tku 4 rfl hHeld ?_
    try simp only[zz]
    refine tku 5 rfl hHeld ?_
    try simp only[zz]
    refine tku 6 rfl hHeld ?_
    try simp only[zz]
    refine tku 7 rfl hHeld ?_
    try simp only[zz]
    refine tku 8 rfl hHeld ?_
    try simp only[zz]
    refine tku 9 rfl hHeld ?_
    try simp only[zz]
    refine tku 10 rfl hHeld ?_
    try simp only[zz]
    refine tku 11 rfl hHeld ?_
    try simp only[zz]
    refine tku 12 rfl hHeld ?_
    try simp only[zz]
    refine tku 13 rfl hHeld ?_
    try simp only[zz]
    refine tku 14 rfl hHeld ?_
    try simp only[zz]
    refine tku 15 rfl hHeld ?_
    try simp only[zz]
    refine tku 16 rfl hHeld ?_
    try simp only[zz]
    refine tku 17 rfl hHeld ?_
    try simp only[zz]
    refine tku 18 rfl hHeld ?_
    try simp only[zz]
    refine tku 19 rfl hHeld ?_
    try simp only[zz]
    refine tku 20 rfl hHeld ?_
    try simp only[zz]
    refine tk2 21 rfl hHeld ?_
    try simp only[zz]
    refine tk2 22 rfl hHeld ?_
    try simp only[zz]
    refine wpAnyH_done (by kernel_rfl) ?_ _
    refine NoPanic.normal ?_
    go_wp2_with fail
    go_ret
    exact ⟨rfl,bel⟩
   ·rw[if_pos rfl] at o7
    have HO7:=Lib.hid o7.tightM
    obtain ⟨R1,q1,R2,q2,rfl,-,-⟩:=HO7.out
    have HSM:=Lib.hid hsm
    have HPV:=Lib.hid hpv
    have hbx:=bbox (Below.refl _ w7) (.cells #[.slice R1 s2.values.length q1,.slice R2 s2.heap.length q2] 40)
    have kS:=Blk.new w7 40 #[.slice R1 s2.values.length q1,.slice R2 s2.heap.length q2]
    replace HV:=Lib.hid (HV.out.below hbx)
    replace HK:=Lib.hid (HK.out.below hbx)
    replace HB:=Lib.hid (bgo HB.out hbx)
    replace O2:=Lib.hid (O2.out.below hbx)
    replace HO7:=Lib.hid (HO7.out.below hbx)
    replace k0:=k0.next hbx
    replace k1:=k1.next hbx
    clear hbx hBw hsm hpv o7 HC qk0 rk0 lk0 qk1 rk1 lk1
    go_upto_region 12 with fail
    generalize (w7.alloc (.cells #[.slice R1 s2.values.length q1,.slice R2 s2.heap.length q2] _))=w8 at *
    (replace qk0:=k0.cell;replace rk0:=k0.frozen;replace lk0:=k0.lt;replace qk1:=k1.cell;replace rk1:=k1.frozen;replace lk1:=k1.lt;replace qkS:=kS.cell;replace rkS:=kS.frozen;replace lkS:=kS.lt)
    go_wp2_with fail
    refine wp_region_noPanic ?_
    refine wp_region_held_drew (S:=(fun w'=>(∀ i,w'.cell? ⟨v1.heap.size,i,none⟩=#[.slice F a.facts.length e1,.slice G a.atoms.length e2][i]?)∧(∀ i,w'.cell? ⟨v1.heap.size+1,i,none⟩=#[.int .i64 x.k,.int .i64 x.a,.int .i64 x.b,.bool x.t.eq,.int .i64 x.t.a,.int .i64 x.t.b,.slice X1 x.i.facts.length y1,.slice X2 x.i.atoms.length y2,.slice X3 x.body.len y3,.slice X4 x.els.len y4][i]?)∧(∀ i,w'.cell? ⟨w7.heap.size,i,none⟩=#[.slice R1 s2.values.length q1,.slice R2 s2.heap.length q2][i]?))) (by kernel_rfl) (⟨k0.drew.cell,k1.drew.cell,kS.drew.cell⟩) (fun hHeld=>?_)
    have HW:=Lib.hid ((Below.refl w8.heap.size w8).drew)
    clear qk0 rk0 lk0 qk1 rk1 lk1 qkS rkS lkS
    generalize w8.drew=wq at *
    refine tk2 0 rfl hHeld ?_
    try simp only[zz]
    refine tk2 1 rfl hHeld ?_
    try simp only[zz]
    refine tk2 2 rfl hHeld ?_
    try simp only[zz]
    refine tk2 3 rfl hHeld ?_
    try simp only[zz]
    refine tk2 4 rfl hHeld ?_
    try simp only[zz]
    refine tk2 5 rfl hHeld ?_
    try simp only[zz]
    refine tk2 6 rfl hHeld ?_
    try simp only[zz]
    refine tk2 7 rfl hHeld ?_
    try simp only[zz]
    refine tk2 8 rfl hHeld ?_
    try simp only[zz]
    refine tk2 10 rfl hHeld ?_
    try simp only[zz]
    refine tk2 12 rfl hHeld ?_
    try simp only[zz]
    refine tk2 13 rfl hHeld ?_
    try simp only[zz]
    refine tk2 14 rfl hHeld ?_
    try simp only[zz]
    refine tk2 15 rfl hHeld ?_
    try simp only[zz]
    refine wpAnyH_ready (rs:=[9,16]) (by kernel_rfl) (by simp) (AllReadyH.cons rfl (fun K hK=>?_) (AllReadyH.cons rfl (fun K hK=>?_) AllReadyH.nil))
    ·skip
     try simp only[zz]
     (go_simp;have hq:=bbox (Below.refl _ wq) (.cells #[] tI);have HX:=Lib.hid (bgo HW.out hq))
     refine hK.out _ _ (⟨(k0.next HX.out).cell,(k1.next HX.out).cell,(kS.next HX.out).cell⟩) ?_
     clear hHeld hK K
     intro hHeld
     try simp only[zz]
     have kE:=Blk.new wq tI #[]
     have hlz:wq.heap.size<(wq.alloc (.cells #[] tI)).heap.size:=by simp
     obtain ⟨yE,hyE⟩:∃ y,y=wq.heap.size:=⟨_,rfl⟩
     have hyBE:w8.heap.size≤yE:=by have:=HW.out.size;omega
     try have hne:yE≠yL:=by omega
     try replace kL0:=kL0.next hq
     try replace OI:=Lib.hid (OI.out.below hq)
     rw[←hyE] at kE hlz ⊢
     have OI:Hid (IntsO (wq.alloc (.cells #[] tI)) w8.heap.size (.slice (some ⟨yE,0,none⟩) 0 0) []):=Lib.hid ⟨own_ofBlk kE hyBE,by simp[Lim]⟩
     clear kE
     replace HW:=HX
     clear HX hq hyE
     generalize wq.alloc (.cells #[] tI)=wq at *
     refine wpAnyH_ready (rs:=[11,16]) (by kernel_rfl) (by simp) (AllReadyH.cons rfl (fun K hK=>?_) (AllReadyH.cons rfl (fun K hK=>?_) AllReadyH.nil))
     ·skip
      refine stepIL2g (base:=w8.heap.size) (xs:=[]) (ys:=ks) rfl _ _ rfl rfl OI.out rfl (HK.out.below HW.out) (by simp<;>omega) HW.out.size ?_
      intro KC kc2 wq2 oN hg hq
      have HX:=Lib.hid (HW.out.trans hq)
      rw[List.nil_append] at oN ⊢
      replace OI:=Lib.hid oN
      replace HW:=HX
      clear HX oN hg hq
      refine hK.out _ _ ⟨(k0.next HW.out).cell,(k1.next HW.out).cell,(kS.next HW.out).cell⟩ ?_
      clear hHeld hK K
      intro hHeld
      try simp only[zz]
      generalize wq2=wq at *
      refine rdc 16 rfl fun K hK=>?_
      try simp only[zz]
      (go_simp;have hq:=bbox (Below.refl _ wq) (.cells #[.int .i64 x.a,.int .i64 x.b] tI);have HX:=Lib.hid (bgo HW.out hq))
      refine hK.out _ _ (⟨(k0.next HX.out).cell,(k1.next HX.out).cell,(kS.next HX.out).cell⟩) ?_
      clear hHeld hK K
      intro hHeld
      try simp only[zz]
      have kL:=Blk.new wq tI #[.int .i64 x.a,.int .i64 x.b]
      have hlz:wq.heap.size<(wq.alloc (.cells #[.int .i64 x.a,.int .i64 x.b] tI)).heap.size:=by simp
      obtain ⟨yL,hyL⟩:∃ y,y=wq.heap.size:=⟨_,rfl⟩
      have hyBL:w8.heap.size≤yL:=by have:=HW.out.size;omega
      try have hne:yE≠yL:=by omega
      try replace kL0:=kL0.next hq
      try replace OI:=Lib.hid (OI.out.below hq)
      rw[←hyL] at kL hlz ⊢
      have kL0:=kL
      clear kL
      replace HW:=HX
      clear HX hq hyL
      generalize wq.alloc (.cells #[.int .i64 x.a,.int .i64 x.b] tI)=wq at *
      refine rdc 17 rfl fun K hK=>?_
      refine stepIL2g (base:=w8.heap.size) (xs:=ks) (ys:=[x.a,x.b]) rfl _ _ rfl rfl OI.out rfl (IntsV.two kL0) (by simp<;>omega) HW.out.size ?_
      intro KC kc2 wq2 oN hg hq
      have HX:=Lib.hid (HW.out.trans hq)
      replace OI:=Lib.hid oN
      replace HW:=HX
      clear HX oN hg hq
      refine hK.out _ _ ⟨(k0.next HW.out).cell,(k1.next HW.out).cell,(kS.next HW.out).cell⟩ ?_
      clear hHeld hK K
      intro hHeld
      try simp only[zz]
      generalize wq2=wq at *
      have hkk:(ks++[x.a,x.b]).length≤4:=by simp;omega
      generalize ks++[x.a,x.b]=kk at *
      refine rdc 18 rfl fun K hK=>?_
      try simp only[zz]
      (go_simp;refine (c_slUsed _ a KC kc2 kk _ ((HV.out.below HW.out).V) OI.out.readsI.2 (by omega)).mono ?_;rintro e w9 ⟨r9,rfl,o9,hq⟩;obtain ⟨U,u,rfl,hU⟩:=o9.reads;clear o9;generalize atermsL a++kk=us at HSM hU ⊢;have HU:=Lib.hid hU;have HX:=Lib.hid (bgo HW.out hq);clear hq)
      refine hK.out _ _ (⟨(k0.next HX.out).cell,(k1.next HX.out).cell,(kS.next HX.out).cell⟩) ?_
      clear hHeld hK K
      intro hHeld
      try simp only[zz]
      refine rdc 19 rfl fun K hK=>?_
      try simp only[zz]
      (go_simp;refine (c_slSome _ s2 D us A2 c2 U u _ (HO7.out.below HX.out) HPV.out hDl (fun q hq=>by obtain ⟨b,o,P,p,Q,q',e,lb,g0,g1,hC⟩:=(O2.out.below HX.out).atC hq;exact ⟨b,o,P,p,Q,q',e,lb,g0,g1,hC.V.mono0 (Nat.le_refl _)⟩) HU.out).mono ?_;rintro e w10 ⟨rfl,hq⟩;rw[HSM.out];have HY:=Lib.hid (bgo HX.out hq);clear hq)
      refine hK.out _ _ (⟨(k0.next HY.out).cell,(k1.next HY.out).cell,(kS.next HY.out).cell⟩) ?_
      clear hHeld hK K
      intro hHeld
      try simp only[zz]
      refine tk2 20 rfl hHeld ?_
      try simp only[zz]
      refine tk2 21 rfl hHeld ?_
      try simp only[zz]
      refine tk2 22 rfl hHeld ?_
      try simp only[zz]
      refine wpAnyH_done (by kernel_rfl) ?_ _
      refine NoPanic.normal ?_
      have hBw:=bgo HB.out HY.out
      go_wp2_with fail
      go_ret
      exact ⟨rfl,hBw⟩
     ·skip
      try simp only[zz]
      (go_simp;have hq:=bbox (Below.refl _ wq) (.cells #[.int .i64 x.a,.int .i64 x.b] tI);have HX:=Lib.hid (bgo HW.out hq))
      refine hK.out _ _ (⟨(k0.next HX.out).cell,(k1.next HX.out).cell,(kS.next HX.out).cell⟩) ?_
      clear hHeld hK K
      intro hHeld
      try simp only[zz]
      have kL:=Blk.new wq tI #[.int .i64 x.a,.int .i64 x.b]
      have hlz:wq.heap.size<(wq.alloc (.cells #[.int .i64 x.a,.int .i64 x.b] tI)).heap.size:=by simp
      obtain ⟨yL,hyL⟩:∃ y,y=wq.heap.size:=⟨_,rfl⟩
      have hyBL:w8.heap.size≤yL:=by have:=HW.out.size;omega
      try have hne:yE≠yL:=by omega
      try replace kL0:=kL0.next hq
      try replace OI:=Lib.hid (OI.out.below hq)
      rw[←hyL] at kL hlz ⊢
      have kL0:=kL
      clear kL
      replace HW:=HX
      clear HX hq hyL
      generalize wq.alloc (.cells #[.int .i64 x.a,.int .i64 x.b] tI)=wq at *
      refine rdc 11 rfl fun K hK=>?_
      refine stepIL2g (base:=w8.heap.size) (xs:=[]) (ys:=ks) rfl _ _ rfl rfl OI.out rfl (HK.out.below HW.out) (by simp<;>omega) HW.out.size ?_
      intro KC kc2 wq2 oN hg hq
      have HX:=Lib.hid (HW.out.trans hq)
      replace kL0:=kL0.apart hg (fun e=>by injection e with e;exact hne e.symm)
      rw[List.nil_append] at oN ⊢
      replace OI:=Lib.hid oN
      replace HW:=HX
      clear HX oN hg hq
      refine hK.out _ _ ⟨(k0.next HW.out).cell,(k1.next HW.out).cell,(kS.next HW.out).cell⟩ ?_
      clear hHeld hK K
      intro hHeld
      try simp only[zz]
      generalize wq2=wq at *
      refine rdc 17 rfl fun K hK=>?_
      refine stepIL2g (base:=w8.heap.size) (xs:=ks) (ys:=[x.a,x.b]) rfl _ _ rfl rfl OI.out rfl (IntsV.two kL0) (by simp<;>omega) HW.out.size ?_
      intro KC kc2 wq2 oN hg hq
      have HX:=Lib.hid (HW.out.trans hq)
      replace OI:=Lib.hid oN
      replace HW:=HX
      clear HX oN hg hq
      refine hK.out _ _ ⟨(k0.next HW.out).cell,(k1.next HW.out).cell,(kS.next HW.out).cell⟩ ?_
      clear hHeld hK K
      intro hHeld
      try simp only[zz]
      generalize wq2=wq at *
      have hkk:(ks++[x.a,x.b]).length≤4:=by simp;omega
      generalize ks++[x.a,x.b]=kk at *
      refine rdc 18 rfl fun K hK=>?_
      try simp only[zz]
      (go_simp;refine (c_slUsed _ a KC kc2 kk _ ((HV.out.below HW.out).V) OI.out.readsI.2 (by omega)).mono ?_;rintro e w9 ⟨r9,rfl,o9,hq⟩;obtain ⟨U,u,rfl,hU⟩:=o9.reads;clear o9;generalize atermsL a++kk=us at HSM hU ⊢;have HU:=Lib.hid hU;have HX:=Lib.hid (bgo HW.out hq);clear hq)
      refine hK.out _ _ (⟨(k0.next HX.out).cell,(k1.next HX.out).cell,(kS.next HX.out).cell⟩) ?_
      clear hHeld hK K
      intro hHeld
      try simp only[zz]
      refine rdc 19 rfl fun K hK=>?_
      try simp only[zz]
      (go_simp;refine (c_slSome _ s2 D us A2 c2 U u _ (HO7.out.below HX.out) HPV.out hDl (fun q hq=>by obtain ⟨b,o,P,p,Q,q',e,lb,g0,g1,hC⟩:=(O2.out.below HX.out).atC hq;exact ⟨b,o,P,p,Q,q',e,lb,g0,g1,hC.V.mono0 (Nat.le_refl _)⟩) HU.out).mono ?_;rintro e w10 ⟨rfl,hq⟩;rw[HSM.out];have HY:=Lib.hid (bgo HX.out hq);clear hq)
      refine hK.out _ _ (⟨(k0.next HY.out).cell,(k1.next HY.out).cell,(kS.next HY.out).cell⟩) ?_
      clear hHeld hK K
      intro hHeld
      try simp only[zz]
      refine tk2 20 rfl hHeld ?_
      try simp only[zz]
      refine tk2 21 rfl hHeld ?_
      try simp only[zz]
      refine tk2 22 rfl hHeld ?_
      try simp only[zz]
      refine wpAnyH_done (by kernel_rfl) ?_ _
      refine NoPanic.normal ?_
      have hBw:=bgo HB.out HY.out
      go_wp2_with fail
      go_ret
      exact ⟨rfl,hBw⟩
    ·skip
     try simp only[zz]
     (go_simp;have hq:=bbox (Below.refl _ wq) (.cells #[.int .i64 x.a,.int .i64 x.b] tI);have HX:=Lib.hid (bgo HW.out hq))
     refine hK.out _ _ (⟨(k0.next HX.out).cell,(k1.next HX.out).cell,(kS.next HX.out).cell⟩) ?_
     clear hHeld hK K
     intro hHeld
     try simp only[zz]
     have kL:=Blk.new wq tI #[.int .i64 x.a,.int .i64 x.b]
     have hlz:wq.heap.size<(wq.alloc (.cells #[.int .i64 x.a,.int .i64 x.b] tI)).heap.size:=by simp
     obtain ⟨yL,hyL⟩:∃ y,y=wq.heap.size:=⟨_,rfl⟩
     have hyBL:w8.heap.size≤yL:=by have:=HW.out.size;omega
     try have hne:yE≠yL:=by omega
     try replace kL0:=kL0.next hq
     try replace OI:=Lib.hid (OI.out.below hq)
     rw[←hyL] at kL hlz ⊢
     have kL0:=kL
     clear kL
     replace HW:=HX
     clear HX hq hyL
     generalize wq.alloc (.cells #[.int .i64 x.a,.int .i64 x.b] tI)=wq at *
     refine rdc 9 rfl fun K hK=>?_
     try simp only[zz]
     (go_simp;have hq:=bbox (Below.refl _ wq) (.cells #[] tI);have HX:=Lib.hid (bgo HW.out hq))
     refine hK.out _ _ (⟨(k0.next HX.out).cell,(k1.next HX.out).cell,(kS.next HX.out).cell⟩) ?_
     clear hHeld hK K
     intro hHeld
     try simp only[zz]
     have kE:=Blk.new wq tI #[]
     have hlz:wq.heap.size<(wq.alloc (.cells #[] tI)).heap.size:=by simp
     obtain ⟨yE,hyE⟩:∃ y,y=wq.heap.size:=⟨_,rfl⟩
     have hyBE:w8.heap.size≤yE:=by have:=HW.out.size;omega
     try have hne:yE≠yL:=by omega
     try replace kL0:=kL0.next hq
     try replace OI:=Lib.hid (OI.out.below hq)
     rw[←hyE] at kE hlz ⊢
     have OI:Hid (IntsO (wq.alloc (.cells #[] tI)) w8.heap.size (.slice (some ⟨yE,0,none⟩) 0 0) []):=Lib.hid ⟨own_ofBlk kE hyBE,by simp[Lim]⟩
     clear kE
     replace HW:=HX
     clear HX hq hyE
     generalize wq.alloc (.cells #[] tI)=wq at *
     refine rdc 11 rfl fun K hK=>?_
     refine stepIL2g (base:=w8.heap.size) (xs:=[]) (ys:=ks) rfl _ _ rfl rfl OI.out rfl (HK.out.below HW.out) (by simp<;>omega) HW.out.size ?_
     intro KC kc2 wq2 oN hg hq
     have HX:=Lib.hid (HW.out.trans hq)
     replace kL0:=kL0.apart hg (fun e=>by injection e with e;exact hne e.symm)
     rw[List.nil_append] at oN ⊢
     replace OI:=Lib.hid oN
     replace HW:=HX
     clear HX oN hg hq
     refine hK.out _ _ ⟨(k0.next HW.out).cell,(k1.next HW.out).cell,(kS.next HW.out).cell⟩ ?_
     clear hHeld hK K
     intro hHeld
     try simp only[zz]
     generalize wq2=wq at *
     refine rdc 17 rfl fun K hK=>?_
     refine stepIL2g (base:=w8.heap.size) (xs:=ks) (ys:=[x.a,x.b]) rfl _ _ rfl rfl OI.out rfl (IntsV.two kL0) (by simp<;>omega) HW.out.size ?_
     intro KC kc2 wq2 oN hg hq
     have HX:=Lib.hid (HW.out.trans hq)
     replace OI:=Lib.hid oN
     replace HW:=HX
     clear HX oN hg hq
     refine hK.out _ _ ⟨(k0.next HW.out).cell,(k1.next HW.out).cell,(kS.next HW.out).cell⟩ ?_
     clear hHeld hK K
     intro hHeld
     try simp only[zz]
     generalize wq2=wq at *
     have hkk:(ks++[x.a,x.b]).length≤4:=by simp;omega
     generalize ks++[x.a,x.b]=kk at *
     refine rdc 18 rfl fun K hK=>?_
     try simp only[zz]
     (go_simp;refine (c_slUsed _ a KC kc2 kk _ ((HV.out.below HW.out).V) OI.out.readsI.2 (by omega)).mono ?_;rintro e w9 ⟨r9,rfl,o9,hq⟩;obtain ⟨U,u,rfl,hU⟩:=o9.reads;clear o9;generalize atermsL a++kk=us at HSM hU ⊢;have HU:=Lib.hid hU;have HX:=Lib.hid (bgo HW.out hq);clear hq)
     refine hK.out _ _ (⟨(k0.next HX.out).cell,(k1.next HX.out).cell,(kS.next HX.out).cell⟩) ?_
     clear hHeld hK K
     intro hHeld
     try simp only[zz]
     refine rdc 19 rfl fun K hK=>?_
     try simp only[zz]
     (go_simp;refine (c_slSome _ s2 D us A2 c2 U u _ (HO7.out.below HX.out) HPV.out hDl (fun q hq=>by obtain ⟨b,o,P,p,Q,q',e,lb,g0,g1,hC⟩:=(O2.out.below HX.out).atC hq;exact ⟨b,o,P,p,Q,q',e,lb,g0,g1,hC.V.mono0 (Nat.le_refl _)⟩) HU.out).mono ?_;rintro e w10 ⟨rfl,hq⟩;rw[HSM.out];have HY:=Lib.hid (bgo HX.out hq);clear hq)
     refine hK.out _ _ (⟨(k0.next HY.out).cell,(k1.next HY.out).cell,(kS.next HY.out).cell⟩) ?_
     clear hHeld hK K
     intro hHeld
     try simp only[zz]
     refine tk2 20 rfl hHeld ?_
     try simp only[zz]
     refine tk2 21 rfl hHeld ?_
     try simp only[zz]
     refine tk2 22 rfl hHeld ?_
     try simp only[zz]
     refine wpAnyH_done (by kernel_rfl) ?_ _
     refine NoPanic.normal ?_
     have hBw:=bgo HB.out HY.out
     go_wp2_with fail
     go_ret
     exact ⟨rfl,hBw⟩
end

end Go.Proofs.YtmcgbeladjlcpaaGreat
