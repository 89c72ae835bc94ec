/- 'laws.FnFrameOf' returns true for all bytes that can be read. -/
import Derived.Test.YtjjokmlmknllhaaDrawFr
import Derived.Test.YtjjokmlmknllhaaMStSame
import Derived.Test.YtjjokmlmknllhaaHolds
import Derived.Test.YtjjokmlmknllhaaMModO
import Derived.Test.YtjjokmlmknllhaaSame
import Derived.Test.YtjjokmlmknllhaaTrans
import Derived.Test.YtjjokmlmknllhaaMDrawG
set_option linter.unusedSimpArgs false
set_option linter.unusedVariables false
namespace Go.Proofs.Ytjjokmlmknllhaa
open Go Go.RowKit Go.Proofs
attribute [local go_sem ↓] Go.wp_at_zero Go.wp_at_succ
theorem entB_of {a b:Asn} (h:entF a b=true):a.valid=true∧b.valid=true∧∀ x∈cases a (caseS a (tset (termsL b))),entB a b x=true:=by
 unfold entF failF at h
 rw[Bool.and_eq_true,Bool.and_eq_true,Bool.not_eq_true',Option.isSome_eq_false_iff,Option.isNone_iff_eq_none,List.find?_eq_none] at h
 exact ⟨h.1.1,h.1.2,fun c hc=>by simpa using h.2 c hc⟩
theorem model_holds {a:Asn} (h:consB a=true):(modelR a).valid=true∧holdsF (modelR a) a=true:=by
 have e:modelR a=modelL a:=by unfold modelR;rw[h];rfl
 obtain ⟨-,h2,-⟩:=modelL_law h
 rw[e]
 exact ⟨(case_of_law h2).1,h2⟩
theorem frame_law {a b f:Asn} (h:frameF a b=some f):∃ C,starF b f=some C∧entF a C=true∧∀ s,holdsF s a=true→∃ out,partOf s b=some out∧(∀ p:Int→Bool,(∀ x,addrB x=true→(p x=true↔x∉out))→holdsF (keepS s p) f=true):=by
 obtain ⟨ha,hb,m,-,rfl,hf⟩:=frame_some h
 rw[frB_star ha hb,Bool.and_eq_true] at hf
 obtain ⟨h1,h2⟩:=hf
 cases hs:starF b (pickA a m) with
 | none=>rw[hs] at h1;cases h1
 | some C=>
  rw[hs,Option.getD_some] at h2
  refine ⟨C,rfl,h2,fun s hsa=>?_⟩
  obtain ⟨p1,p2,p3⟩:=entB_of h2
  have hC:=ent_holds p1 p2 p3 hsa
  cases hp:partOf s b with
  | none=>have:=star_none hs hp;rw[hC] at this;cases this
  | some out=>exact ⟨out,rfl,fun p hpp=>by rw[←star_law hs hp hpp];exact hC⟩
theorem StateO.tightF {w:World} {b:Nat} {v:Value} {s:Ste} (h:StateO w b v s):StateV w 0 w.heap.size v s:=by
 obtain ⟨fv,av,rfl,h1,h2,-⟩:=h
 obtain ⟨A,c,rfl,r1⟩:=h1.reads
 obtain ⟨B,d,rfl,r2⟩:=h2.reads
 exact ⟨A,c,B,d,rfl,r1.mono (Nat.zero_le _) (Nat.le_refl _),r2.mono (Nat.zero_le _) (Nat.le_refl _)⟩
theorem c_SameTF {lo hi lo' hi':Nat} (v v':Value) (a:Asn) (w:World) (h:AsnV w lo hi v a) (h':AsnV w lo' hi' v' a):Calls Try.prog 7 #[v,v'] w fun e w'=>e=.returned (.bool true)∧Below w.heap.size w w':=by
 refine (c_impl_Same v v' a a w h h').mono ?_
 rintro e w' ⟨rfl,hB⟩
 exact ⟨by simp,hB⟩
set_option maxRecDepth 100000 in
set_option maxHeartbeats 12800000 in
theorem c_FnFrameOf (v:Value) (A:Option Addr×Nat×Nat) (w:World) (h:v=.slice A.1 A.2.1 A.2.2∧BytesR w A.1 A.2.1 A.2.2):Calls Try.prog 3 #[v] w fun e w'=>e=.returned (.bool true)∧Below w.heap.size w w':=by
 obtain ⟨A,n,c⟩:=A
 obtain ⟨rfl,hR⟩:=h
 simp only at hR ⊢
 have HR:=Lib.hid hR
 clear hR
 by_cases hn:1048576<n
 ·have hni:(1048576:Int)<(n:Int):=by omega
  clear hn
  go_enter Try.func3,Try.ntmps3
  go_wp2_with fail
  go_ret
  exact ⟨rfl,bel⟩
 have hni:¬(1048576:Int)<(n:Int):=by omega
 clear hn
 go_enter Try.func3,Try.ntmps3
 go_wp2_with fail
 refine (c_DrawFrameOf A n c _ HR.out).mono ?_
 rintro e v1 ⟨r1,r2,a,b,rfl,oa,ob,hB1⟩
 have HB:=Lib.hid hB1
 have hZ:v1.heap.size≤v1.heap.size:=Nat.le_refl _
 clear hB1 hni HR
 obtain ⟨F1,f1,G1,g1,rfl⟩:=oa.I.form
 obtain ⟨F2,f2,G2,g2,rfl⟩:=ob.I.form
 have HA:=Lib.hid (oa.reads.mono (Nat.zero_le _) (Nat.le_refl _))
 have HBV:=Lib.hid (ob.reads.mono (Nat.zero_le _) (Nat.le_refl _))
 clear oa ob
 obtain ⟨ka,kb⟩:=blk2 v1 tAs tAs #[.slice F1 a.facts.length f1,.slice G1 a.atoms.length g1] #[.slice F2 b.facts.length f2,.slice G2 b.atoms.length g2]
 have hx:=bbox (bbox (Below.refl _ v1) (.cells #[.slice F1 a.facts.length f1,.slice G1 a.atoms.length g1] tAs)) (.cells #[.slice F2 b.facts.length f2,.slice G2 b.atoms.length g2] tAs)
 replace HA:=Lib.hid (HA.out.below hx)
 replace HBV:=Lib.hid (HBV.out.below hx)
 replace HB:=Lib.hid (bgo HB.out hx)
 replace hZ:=Nat.le_trans hZ hx.size
 have hlx:v1.heap.size+1<((v1.alloc (.cells #[.slice F1 a.facts.length f1,.slice G1 a.atoms.length g1] tAs)).alloc (.cells #[.slice F2 b.facts.length f2,.slice G2 b.atoms.length g2] tAs)).heap.size:=by simp
 clear hx
 go_upto_region 4 with fail
 generalize ((v1.alloc (.cells #[.slice F1 a.facts.length f1,.slice G1 a.atoms.length g1] tAs)).alloc (.cells #[.slice F2 b.facts.length f2,.slice G2 b.atoms.length g2] tAs))=v2 at *
 obtain ⟨ok,hok⟩:∃ q,q=(frameF a b).isSome:=⟨_,rfl⟩
 obtain ⟨f,hf⟩:∃ R,R=(frameF a b).getD ⟨[],[]⟩:=⟨_,rfl⟩
 have CI:=Lib.hid (fun W h1 h2 h3=>c_impl_FrameOf (lo:=0) (hi:=v1.heap.size) (lo':=0) (hi':=v1.heap.size) (.agg #[.slice F1 a.facts.length f1,.slice G1 a.atoms.length g1]) (.agg #[.slice F2 b.facts.length f2,.slice G2 b.atoms.length g2]) a b W h1 h2 h3)
 have CS:=Lib.hid (fun W h1 h2=>c_spec_FrameOf (lo:=0) (hi:=v1.heap.size) (lo':=0) (hi':=v1.heap.size) (.agg #[.slice F1 a.facts.length f1,.slice G1 a.atoms.length g1]) (.agg #[.slice F2 b.facts.length f2,.slice G2 b.atoms.length g2]) a b W h1 h2)
 rw[←hok,←hf] at CI CS
 have HF:Hid (ok=true→frameF a b=some f):=Lib.hid fun e=>by
  rw[hok] at e
  rw[hf]
  obtain ⟨x,hx⟩:=Option.isSome_iff_exists.1 e
  rw[hx];rfl
 clear hok hf
 (replace qka:=ka.cell;replace rka:=ka.frozen;replace lka:=ka.lt;replace qkb:=kb.cell;replace rkb:=kb.frozen;replace lkb:=kb.lt)
 go_wp2_with fail
 refine (CI.out _ HA.out HBV.out hZ).mono ?_
 rintro e v3 ⟨r3,rfl,o3,hB3⟩
 replace ka:=ka.next hB3
 replace kb:=kb.next hB3
 replace HA:=Lib.hid (HA.out.below hB3)
 replace HBV:=Lib.hid (HBV.out.below hB3)
 replace HB:=Lib.hid (bgo HB.out hB3)
 replace hZ:=Nat.le_trans hZ hB3.size
 obtain ⟨F3,f3,G3,g3,rfl⟩:=o3.I.form
 have HFV:=Lib.hid (o3.reads.mono (Nat.zero_le _) (Nat.le_refl _))
 clear hB3 o3 CI
 have kf:=Blk.new v3 tAs #[.slice F3 f.facts.length f3,.slice G3 f.atoms.length g3]
 have hx:=bbox (Below.refl _ v3) (.cells #[.slice F3 f.facts.length f3,.slice G3 f.atoms.length g3] tAs)
 replace ka:=ka.next hx
 replace kb:=kb.next hx
 replace HA:=Lib.hid (HA.out.below hx)
 replace HBV:=Lib.hid (HBV.out.below hx)
 replace HFV:=Lib.hid (HFV.out.below hx)
 replace HB:=Lib.hid (bgo HB.out hx)
 replace hZ:=Nat.le_trans hZ hx.size
 have hlx:v3.heap.size<(v3.alloc (.cells #[.slice F3 f.facts.length f3,.slice G3 f.atoms.length g3] tAs)).heap.size:=by simp
 clear hx qka rka lka qkb rkb lkb
 go_upto_region 5 with fail
 generalize (v3.alloc (.cells #[.slice F3 f.facts.length f3,.slice G3 f.atoms.length g3] tAs))=v4 at *
 (replace qka:=ka.cell;replace rka:=ka.frozen;replace lka:=ka.lt;replace qkb:=kb.cell;replace rkb:=kb.frozen;replace lkb:=kb.lt;replace qkf:=kf.cell;replace rkf:=kf.frozen;replace lkf:=kf.lt)
 go_wp2_with fail
 refine (CS.out _ HA.out HBV.out).mono ?_
 rintro e v5 ⟨r4,rfl,o4,hB5⟩
 replace ka:=ka.next hB5
 replace kb:=kb.next hB5
 replace kf:=kf.next hB5
 replace HA:=Lib.hid (HA.out.below hB5)
 replace HBV:=Lib.hid (HBV.out.below hB5)
 replace HFV:=Lib.hid (HFV.out.below hB5)
 replace HB:=Lib.hid (bgo HB.out hB5)
 replace hZ:=Nat.le_trans hZ hB5.size
 obtain ⟨F4,f4,G4,g4,rfl⟩:=o4.I.form
 have HWV:=Lib.hid (o4.reads.mono (Nat.zero_le _) (Nat.le_refl _))
 clear hB5 o4 CS
 have kw:=Blk.new v5 tAs #[.slice F4 f.facts.length f4,.slice G4 f.atoms.length g4]
 have hx:=bbox (Below.refl _ v5) (.cells #[.slice F4 f.facts.length f4,.slice G4 f.atoms.length g4] tAs)
 replace ka:=ka.next hx
 replace kb:=kb.next hx
 replace kf:=kf.next hx
 replace HA:=Lib.hid (HA.out.below hx)
 replace HBV:=Lib.hid (HBV.out.below hx)
 replace HFV:=Lib.hid (HFV.out.below hx)
 replace HWV:=Lib.hid (HWV.out.below hx)
 replace HB:=Lib.hid (bgo HB.out hx)
 replace hZ:=Nat.le_trans hZ hx.size
 have hlx:v5.heap.size<(v5.alloc (.cells #[.slice F4 f.facts.length f4,.slice G4 f.atoms.length g4] tAs)).heap.size:=by simp
 clear hx qka rka lka qkb rkb lkb qkf rkf lkf
 go_upto_region 6 with fail
 generalize (v5.alloc (.cells #[.slice F4 f.facts.length f4,.slice G4 f.atoms.length g4] tAs))=v6 at *
 have hne:(ok != ok)=false:=by simp
 have heq:(ok == ok)=true:=by simp
 (replace qka:=ka.cell;replace rka:=ka.frozen;replace lka:=ka.lt;replace qkb:=kb.cell;replace rkb:=kb.frozen;replace lkb:=kb.lt;replace qkf:=kf.cell;replace rkf:=kf.frozen;replace lkf:=kf.lt;replace qkw:=kw.cell;replace rkw:=kw.frozen;replace lkw:=kw.lt)
 go_wp2_with fail
 refine (c_SameTF _ _ f _ HFV.out HWV.out).mono ?_
 rintro e v7 ⟨rfl,hB7⟩
 replace ka:=ka.next hB7
 replace kb:=kb.next hB7
 replace kf:=kf.next hB7
 replace kw:=kw.next hB7
 replace HA:=Lib.hid (HA.out.below hB7)
 replace HBV:=Lib.hid (HBV.out.below hB7)
 replace HFV:=Lib.hid (HFV.out.below hB7)
 replace HWV:=Lib.hid (HWV.out.below hB7)
 replace HB:=Lib.hid (bgo HB.out hB7)
 replace hZ:=Nat.le_trans hZ hB7.size
 clear hB7
 cases ok
 ·(replace qka:=ka.cell;replace rka:=ka.frozen;replace lka:=ka.lt;replace qkb:=kb.cell;replace rkb:=kb.frozen;replace lkb:=kb.lt;replace qkf:=kf.cell;replace rkf:=kf.frozen;replace lkf:=kf.lt;replace qkw:=kw.cell;replace rkw:=kw.frozen;replace lkw:=kw.lt)
  go_wp2_with fail
  refine (c_SameTF _ _ f _ HFV.out HWV.out).mono ?_
  rintro e u1 ⟨rfl,hu⟩
  go_wp2_with fail
  go_ret
  exact ⟨rfl,bgo HB.out hu⟩
 have HFR:=Lib.hid (HF.out rfl)
 obtain ⟨C,hC1,hC2,hC3⟩:=frame_law HFR.out
 have H1:=Lib.hid hC1
 have H2:=Lib.hid hC2
 have H3:=Lib.hid hC3
 clear hC1 hC2 hC3 HF hne heq
 have CT:Hid (∀ W,AsnV W 0 v1.heap.size (.agg #[.slice F2 b.facts.length f2,.slice G2 b.atoms.length g2]) b→AsnV W 0 v3.heap.size (.agg #[.slice F3 f.facts.length f3,.slice G3 f.atoms.length g3]) f→Calls Try.prog 8 #[.agg #[.slice F2 b.facts.length f2,.slice G2 b.atoms.length g2],.agg #[.slice F3 f.facts.length f3,.slice G3 f.atoms.length g3]] W fun e w'=>∃ r,e=.returned (.tuple #[r,.bool true])∧AsnO w' W.heap.size r C∧Below W.heap.size W w'):=Lib.hid fun W h1 h2=>by have:=c_impl_Star (.agg #[.slice F2 b.facts.length f2,.slice G2 b.atoms.length g2]) (.agg #[.slice F3 f.facts.length f3,.slice G3 f.atoms.length g3]) b f W h1 h2;rw[H1.out] at this;exact this
 (replace qka:=ka.cell;replace rka:=ka.frozen;replace lka:=ka.lt;replace qkb:=kb.cell;replace rkb:=kb.frozen;replace lkb:=kb.lt;replace qkf:=kf.cell;replace rkf:=kf.frozen;replace lkf:=kf.lt;replace qkw:=kw.cell;replace rkw:=kw.frozen;replace lkw:=kw.lt)
 go_wp2_with fail
 refine (CT.out _ HBV.out HFV.out).mono ?_
 rintro e v8 ⟨r5,rfl,o5,hB8⟩
 replace ka:=ka.next hB8
 replace kb:=kb.next hB8
 replace kf:=kf.next hB8
 replace kw:=kw.next hB8
 replace HA:=Lib.hid (HA.out.below hB8)
 replace HBV:=Lib.hid (HBV.out.below hB8)
 replace HFV:=Lib.hid (HFV.out.below hB8)
 replace HWV:=Lib.hid (HWV.out.below hB8)
 replace HB:=Lib.hid (bgo HB.out hB8)
 replace hZ:=Nat.le_trans hZ hB8.size
 obtain ⟨F5,f5,G5,g5,rfl⟩:=o5.I.form
 have HCV:=Lib.hid (o5.reads.mono (Nat.zero_le _) (Nat.le_refl _))
 clear hB8 o5 CT H1
 have kc:=Blk.new v8 tAs #[.slice F5 C.facts.length f5,.slice G5 C.atoms.length g5]
 have hx:=bbox (Below.refl _ v8) (.cells #[.slice F5 C.facts.length f5,.slice G5 C.atoms.length g5] tAs)
 replace ka:=ka.next hx
 replace kb:=kb.next hx
 replace kf:=kf.next hx
 replace kw:=kw.next hx
 replace HA:=Lib.hid (HA.out.below hx)
 replace HBV:=Lib.hid (HBV.out.below hx)
 replace HFV:=Lib.hid (HFV.out.below hx)
 replace HWV:=Lib.hid (HWV.out.below hx)
 replace HCV:=Lib.hid (HCV.out.below hx)
 replace HB:=Lib.hid (bgo HB.out hx)
 replace hZ:=Nat.le_trans hZ hx.size
 have hlx:v8.heap.size<(v8.alloc (.cells #[.slice F5 C.facts.length f5,.slice G5 C.atoms.length g5] tAs)).heap.size:=by simp
 clear hx qka rka lka qkb rkb lkb qkf rkf lkf qkw rkw lkw
 go_upto_region 9 with fail
 generalize (v8.alloc (.cells #[.slice F5 C.facts.length f5,.slice G5 C.atoms.length g5] tAs))=v9 at *
 obtain ⟨has,hhas⟩:∃ q,q=consB a:=⟨_,rfl⟩
 obtain ⟨s,hs⟩:∃ s,s=modelR a:=⟨_,rfl⟩
 have CM:Hid (∀ W,AsnV W 0 v1.heap.size (.agg #[.slice F1 a.facts.length f1,.slice G1 a.atoms.length g1]) a→v1.heap.size≤W.heap.size→Calls Try.prog 9 #[.agg #[.slice F1 a.facts.length f1,.slice G1 a.atoms.length g1]] W fun e w'=>∃ r,e=.returned (.tuple #[r,.bool has])∧StateO w' W.heap.size r s∧Below W.heap.size W w'):=Lib.hid fun W h1 h2=>by rw[hhas,hs];exact c_impl_ModelOf _ a W h1 h2
 have HM:Hid (has=true→s.valid=true∧holdsF s a=true):=Lib.hid fun e=>by rw[hhas] at e;rw[hs];exact model_holds e
 have HM0:Hid (has=false→s=⟨[],[]⟩):=Lib.hid fun e=>by rw[hhas] at e;rw[hs];exact modelR_no e
 clear hhas hs
 (replace qka:=ka.cell;replace rka:=ka.frozen;replace lka:=ka.lt;replace qkb:=kb.cell;replace rkb:=kb.frozen;replace lkb:=kb.lt;replace qkf:=kf.cell;replace rkf:=kf.frozen;replace lkf:=kf.lt;replace qkw:=kw.cell;replace rkw:=kw.frozen;replace lkw:=kw.lt;replace qkc:=kc.cell;replace rkc:=kc.frozen;replace lkc:=kc.lt)
 go_wp2_with fail
 refine (CM.out _ HA.out hZ).mono ?_
 rintro e v10 ⟨r6,rfl,o6,hB10⟩
 replace ka:=ka.next hB10
 replace kb:=kb.next hB10
 replace kf:=kf.next hB10
 replace kw:=kw.next hB10
 replace kc:=kc.next hB10
 replace HA:=Lib.hid (HA.out.below hB10)
 replace HBV:=Lib.hid (HBV.out.below hB10)
 replace HFV:=Lib.hid (HFV.out.below hB10)
 replace HWV:=Lib.hid (HWV.out.below hB10)
 replace HCV:=Lib.hid (HCV.out.below hB10)
 replace HB:=Lib.hid (bgo HB.out hB10)
 replace hZ:=Nat.le_trans hZ hB10.size
 have hsv:=o6.tightF
 obtain ⟨SA,sc,SB,sd,rfl,-,-⟩:=id hsv
 have HSV:=Lib.hid hsv
 clear hB10 o6 hsv CM
 have ks:=Blk.new v10 tSt #[.slice SA s.values.length sc,.slice SB s.heap.length sd]
 have hx:=bbox (Below.refl _ v10) (.cells #[.slice SA s.values.length sc,.slice SB s.heap.length sd] tSt)
 replace ka:=ka.next hx
 replace kb:=kb.next hx
 replace kf:=kf.next hx
 replace kw:=kw.next hx
 replace kc:=kc.next hx
 replace HA:=Lib.hid (HA.out.below hx)
 replace HBV:=Lib.hid (HBV.out.below hx)
 replace HFV:=Lib.hid (HFV.out.below hx)
 replace HWV:=Lib.hid (HWV.out.below hx)
 replace HCV:=Lib.hid (HCV.out.below hx)
 replace HSV:=Lib.hid (HSV.out.below hx)
 replace HB:=Lib.hid (bgo HB.out hx)
 replace hZ:=Nat.le_trans hZ hx.size
 have hlx:v10.heap.size<(v10.alloc (.cells #[.slice SA s.values.length sc,.slice SB s.heap.length sd] tSt)).heap.size:=by simp
 clear hx qka rka lka qkb rkb lkb qkf rkf lkf qkw rkw lkw qkc rkc lkc
 go_upto_region 10 with fail
 generalize (v10.alloc (.cells #[.slice SA s.values.length sc,.slice SB s.heap.length sd] tSt))=v11 at *
 obtain ⟨bb,hbb⟩:∃ bb,bb=(holdsPart s b).isSome:=⟨_,rfl⟩
 obtain ⟨K,hK⟩:∃ K,K=(holdsPart s b).getD []:=⟨_,rfl⟩
 have CH:Hid (∀ {lo hi lo2 hi2:Nat} (v v':Value) W,StateV W lo hi v s→AsnV W lo2 hi2 v' b→Calls Try.prog 10 #[v,v'] W fun e w'=>∃ r,e=.returned (.tuple #[r,.bool bb])∧IntsO w' W.heap.size r K∧Below W.heap.size W w'):=Lib.hid fun v v' W h1 h2=>by rw[hbb,hK];exact c_impl_HoldsPart v v' s b W h1 h2
 have HX:Hid (has=true→bb=true∧s.valid=true∧(∀ c∈K,allocB s.heap c=true)∧K.Nodup∧holdsF (keepS s fun x=>!decide (x∈K)) f=true):=Lib.hid fun e=>by
  obtain ⟨m1,m2⟩:=HM.out e
  obtain ⟨out,p1,p2⟩:=H3.out s m2
  have e1:holdsPart s b=some (cellsL (bitsOf out) 8):=by unfold holdsPart;rw[p1];rfl
  have hKe:K=cellsL (bitsOf out) 8:=by rw[hK,e1];rfl
  have hsp:=partOf_spec p1
  have hmem:∀ x,x∈K↔x∈out:=fun x=>by rw[hKe];exact cells_mem (fun c hc=>(hsp.2 c hc).1)
  refine ⟨by rw[hbb,e1];rfl,m1,fun c hc=>(hsp.2 c ((hmem c).1 hc)).2,by rw[hKe];exact cellsL_nodup _,p2 _ fun x _=>?_⟩
  rw[Bool.not_eq_true',decide_eq_false_iff_not,hmem x]
 have HX0:Hid (has=false→¬okC s K):=Lib.hid fun e ho=>by
  have:=HM0.out e
  rw[this] at ho
  exact absurd ho.1 (by decide)
 clear hbb hK H3 HM HM0
 (replace qka:=ka.cell;replace rka:=ka.frozen;replace lka:=ka.lt;replace qkb:=kb.cell;replace rkb:=kb.frozen;replace lkb:=kb.lt;replace qkf:=kf.cell;replace rkf:=kf.frozen;replace lkf:=kf.lt;replace qkw:=kw.cell;replace rkw:=kw.frozen;replace lkw:=kw.lt;replace qkc:=kc.cell;replace rkc:=kc.frozen;replace lkc:=kc.lt;replace qks:=ks.cell;replace rks:=ks.frozen;replace lks:=ks.lt)
 go_wp2_with fail
 refine (CH.out _ _ _ HSV.out HBV.out).mono ?_
 rintro e v12 ⟨r7,rfl,o7,hB12⟩
 replace ka:=ka.next hB12
 replace kb:=kb.next hB12
 replace kf:=kf.next hB12
 replace kw:=kw.next hB12
 replace kc:=kc.next hB12
 replace ks:=ks.next hB12
 replace HA:=Lib.hid (HA.out.below hB12)
 replace HBV:=Lib.hid (HBV.out.below hB12)
 replace HFV:=Lib.hid (HFV.out.below hB12)
 replace HWV:=Lib.hid (HWV.out.below hB12)
 replace HCV:=Lib.hid (HCV.out.below hB12)
 replace HSV:=Lib.hid (HSV.out.below hB12)
 replace HB:=Lib.hid (bgo HB.out hB12)
 replace hZ:=Nat.le_trans hZ hB12.size
 obtain ⟨A7,c7,rfl,i7⟩:=o7.reads
 have HI:=Lib.hid i7
 clear hB12 o7 i7 CH
 cases has
 case false=>
  have HN:=Lib.hid (HX0.out rfl)
  clear HX HX0
  (replace qka:=ka.cell;replace rka:=ka.frozen;replace lka:=ka.lt;replace qkb:=kb.cell;replace rkb:=kb.frozen;replace lkb:=kb.lt;replace qkf:=kf.cell;replace rkf:=kf.frozen;replace lkf:=kf.lt;replace qkw:=kw.cell;replace rkw:=kw.frozen;replace lkw:=kw.lt;replace qkc:=kc.cell;replace rkc:=kc.frozen;replace lkc:=kc.lt;replace qks:=ks.cell;replace rks:=ks.frozen;replace lks:=ks.lt)
  go_wp2_with fail
  refine (c_impl_DropNo _ s A7 c7 K _ HSV.out HI.out HN.out).mono ?_
  rintro e u1 ⟨rfl,hu⟩
  have hx:=bbox hu (.cells #[.slice none 0 0,.slice none 0 0] tSt)
  have ka2:=ka.next hx
  have kc2:=kc.next hx
  have hz2:u1.heap.size<(u1.alloc (.cells #[.slice none 0 0,.slice none 0 0] tSt)).heap.size:=by simp
  have HA2:=Lib.hid (HA.out.below hx)
  have HC2:=Lib.hid (HCV.out.below hx)
  have hZ2:=Nat.le_trans hZ hx.size
  have HB2:=Lib.hid (bgo HB.out hx)
  have hc2:=hx.size
  clear hu hx
  go_upto_region 12 with fail
  generalize (u1.alloc (.cells #[.slice none 0 0,.slice none 0 0] tSt))=u2 at *
  (replace qka2:=ka2.cell;replace rka2:=ka2.frozen;replace lka2:=ka2.lt;replace qkc2:=kc2.cell;replace rkc2:=kc2.frozen;replace lkc2:=kc2.lt)
  go_wp2_with fail
  refine (c_impl_Entails _ _ a C _ HA2.out HC2.out hZ2 (by omega)).mono ?_
  rintro e u3 ⟨rfl,hu⟩
  rw[H2.out]
  go_wp2_with fail
  go_ret
  exact ⟨rfl,bgo HB2.out hu⟩
 obtain ⟨rfl,x1,x2,x3,x4⟩:=HX.out rfl
 have X1:=Lib.hid x1
 have X2:=Lib.hid x2
 have X3:=Lib.hid x3
 obtain ⟨RS,hRS⟩:∃ R,R=keepS s fun x=>!decide (x∈K):=⟨_,rfl⟩
 rw[←hRS] at x4
 have X4:=Lib.hid x4
 have HRS:=Lib.hid hRS
 clear x1 x2 x3 x4 hRS HX HX0
 (replace qka:=ka.cell;replace rka:=ka.frozen;replace lka:=ka.lt;replace qkb:=kb.cell;replace rkb:=kb.frozen;replace lkb:=kb.lt;replace qkf:=kf.cell;replace rkf:=kf.frozen;replace lkf:=kf.lt;replace qkw:=kw.cell;replace rkw:=kw.frozen;replace lkw:=kw.lt;replace qkc:=kc.cell;replace rkc:=kc.frozen;replace lkc:=kc.lt;replace qks:=ks.cell;replace rks:=ks.frozen;replace lks:=ks.lt)
 go_wp2_with fail
 refine (c_impl_DropCells _ s A7 c7 K _ HSV.out HI.out X1.out X2.out X3.out).mono ?_
 rintro e v13 ⟨r8,rfl,o8,hB13⟩
 replace ka:=ka.next hB13
 replace kb:=kb.next hB13
 replace kf:=kf.next hB13
 replace kw:=kw.next hB13
 replace kc:=kc.next hB13
 replace ks:=ks.next hB13
 replace HA:=Lib.hid (HA.out.below hB13)
 replace HBV:=Lib.hid (HBV.out.below hB13)
 replace HFV:=Lib.hid (HFV.out.below hB13)
 replace HWV:=Lib.hid (HWV.out.below hB13)
 replace HCV:=Lib.hid (HCV.out.below hB13)
 replace HSV:=Lib.hid (HSV.out.below hB13)
 replace HI:=Lib.hid (HI.out.below hB13)
 replace HB:=Lib.hid (bgo HB.out hB13)
 replace hZ:=Nat.le_trans hZ hB13.size
 rw[←HRS.out] at o8
 have hrv:=o8.tightF
 obtain ⟨RA,rc,RB,rd,rfl,-,-⟩:=id hrv
 have HRV:=Lib.hid hrv
 clear hB13 o8 hrv
 have kr:=Blk.new v13 tSt #[.slice RA RS.values.length rc,.slice RB RS.heap.length rd]
 have hx:=bbox (Below.refl _ v13) (.cells #[.slice RA RS.values.length rc,.slice RB RS.heap.length rd] tSt)
 replace ka:=ka.next hx
 replace kb:=kb.next hx
 replace kf:=kf.next hx
 replace kw:=kw.next hx
 replace kc:=kc.next hx
 replace ks:=ks.next hx
 replace HA:=Lib.hid (HA.out.below hx)
 replace HBV:=Lib.hid (HBV.out.below hx)
 replace HFV:=Lib.hid (HFV.out.below hx)
 replace HWV:=Lib.hid (HWV.out.below hx)
 replace HCV:=Lib.hid (HCV.out.below hx)
 replace HSV:=Lib.hid (HSV.out.below hx)
 replace HI:=Lib.hid (HI.out.below hx)
 replace HRV:=Lib.hid (HRV.out.below hx)
 replace HB:=Lib.hid (bgo HB.out hx)
 replace hZ:=Nat.le_trans hZ hx.size
 have hlx:v13.heap.size<(v13.alloc (.cells #[.slice RA RS.values.length rc,.slice RB RS.heap.length rd] tSt)).heap.size:=by simp
 clear hx qka rka lka qkb rkb lkb qkf rkf lkf qkw rkw lkw qkc rkc lkc qks rks lks
 go_upto_region 12 with fail
 generalize (v13.alloc (.cells #[.slice RA RS.values.length rc,.slice RB RS.heap.length rd] tSt))=v14 at *
 have hEnt:=H2.out
 (replace qka:=ka.cell;replace rka:=ka.frozen;replace lka:=ka.lt;replace qkb:=kb.cell;replace rkb:=kb.frozen;replace lkb:=kb.lt;replace qkf:=kf.cell;replace rkf:=kf.frozen;replace lkf:=kf.lt;replace qkw:=kw.cell;replace rkw:=kw.frozen;replace lkw:=kw.lt;replace qkc:=kc.cell;replace rkc:=kc.frozen;replace lkc:=kc.lt;replace qks:=ks.cell;replace rks:=ks.frozen;replace lks:=ks.lt;replace qkr:=kr.cell;replace rkr:=kr.frozen;replace lkr:=kr.lt)
 go_wp2_with fail
 refine (c_impl_Entails _ _ a C _ HA.out HCV.out hZ (by omega)).mono ?_
 rintro e v15 ⟨rfl,hB15⟩
 replace ka:=ka.next hB15
 replace kb:=kb.next hB15
 replace kf:=kf.next hB15
 replace kw:=kw.next hB15
 replace kc:=kc.next hB15
 replace ks:=ks.next hB15
 replace kr:=kr.next hB15
 replace HA:=Lib.hid (HA.out.below hB15)
 replace HBV:=Lib.hid (HBV.out.below hB15)
 replace HFV:=Lib.hid (HFV.out.below hB15)
 replace HWV:=Lib.hid (HWV.out.below hB15)
 replace HCV:=Lib.hid (HCV.out.below hB15)
 replace HSV:=Lib.hid (HSV.out.below hB15)
 replace HI:=Lib.hid (HI.out.below hB15)
 replace HRV:=Lib.hid (HRV.out.below hB15)
 replace HB:=Lib.hid (bgo HB.out hB15)
 replace hZ:=Nat.le_trans hZ hB15.size
 rw[H2.out]
 clear hB15
 (replace qka:=ka.cell;replace rka:=ka.frozen;replace lka:=ka.lt;replace qkb:=kb.cell;replace rkb:=kb.frozen;replace lkb:=kb.lt;replace qkf:=kf.cell;replace rkf:=kf.frozen;replace lkf:=kf.lt;replace qkw:=kw.cell;replace rkw:=kw.frozen;replace lkw:=kw.lt;replace qkc:=kc.cell;replace rkc:=kc.frozen;replace lkc:=kc.lt;replace qks:=ks.cell;replace rks:=ks.frozen;replace lks:=ks.lt;replace qkr:=kr.cell;replace rkr:=kr.frozen;replace lkr:=kr.lt)
 go_wp2_with fail
 refine (c_impl_Holds _ _ RS f _ HRV.out HFV.out).mono ?_
 rintro e v16 ⟨rfl,hB16⟩
 replace ka:=ka.next hB16
 replace kb:=kb.next hB16
 replace kf:=kf.next hB16
 replace kw:=kw.next hB16
 replace kc:=kc.next hB16
 replace ks:=ks.next hB16
 replace kr:=kr.next hB16
 replace HA:=Lib.hid (HA.out.below hB16)
 replace HBV:=Lib.hid (HBV.out.below hB16)
 replace HFV:=Lib.hid (HFV.out.below hB16)
 replace HWV:=Lib.hid (HWV.out.below hB16)
 replace HCV:=Lib.hid (HCV.out.below hB16)
 replace HSV:=Lib.hid (HSV.out.below hB16)
 replace HI:=Lib.hid (HI.out.below hB16)
 replace HRV:=Lib.hid (HRV.out.below hB16)
 replace HB:=Lib.hid (bgo HB.out hB16)
 replace hZ:=Nat.le_trans hZ hB16.size
 rw[X4.out]
 clear hB16
 go_wp2_with fail
 go_ret
 exact ⟨rfl,HB.out⟩
end Go.Proofs.Ytjjokmlmknllhaa
