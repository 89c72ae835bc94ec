/- Symbolic execution: spec.SymBasic. Printed by genSymU.py. -/
import Derived.Test.YtjjokmlmknllhaaGreatMSymM
import Derived.Test.YtjjokmlmknllhaaGreatMOpnE
import Derived.Test.YtjjokmlmknllhaaGreatMAppX
import Derived.Test.YtjjokmlmknllhaaGreatCmdI
import Derived.Deep.DeepCutAuto
import Derived.Test.YtjjokmlmknllhaaGreatMCallI
import Derived.Test.YtjjokmlmknllhaaGreatMCallB
import Derived.Test.YtjjokmlmknllhaaGreatFrmS
set_option linter.unusedSimpArgs false
set_option linter.unusedVariables false
namespace Go.Proofs.YtjjokmlmknllhaaGreat
open Go Go.RowKit Go.Proofs
attribute [local go_sem ↓] Go.wp_at_zero Go.wp_at_succ
theorem IntsV.two {w:World} {g:Nat} {a b:Int} (h:Blk w g tI #[.int .i64 a,.int .i64 b]):IntsV w g (g+1) (some ⟨g,0,none⟩) [a,b]:=
 ⟨⟨by simp[encI],fun _=>⟨g,0,rfl,Nat.le_refl _,Nat.lt_succ_self _,fun j u hu=>by rw[Nat.zero_add,h.cell];simpa [encI] using hu⟩⟩,by simp[Lim]⟩
section
variable {w w':World} {b b':Nat} {v v':Value} {vs vs':List Value} {ss ss':List Asn}
theorem A2O.other (h:A2O w b v vs ss) (h':A2O w b' v' vs' ss') (hg:w.grownBy w' v'.ownBlock) (hne:∀ g,v'.ownBlock=some g→v.ownBlock≠some g):A2O w' b v vs ss:=by
 refine ⟨?_,h.lim,h.els.grown h'.row hg (by decide) (by decide)⟩
 rcases h.row.2 with h1|⟨g,cap,cur,rfl,hb,hk,hr⟩
 ·exact ⟨h.row.1,.inl h1⟩
 ·exact ⟨h.row.1,.inr ⟨g,cap,cur,rfl,hb,(hg.block g (Array.getElem?_eq_some_iff.1 hk).1 (fun e=>hne g e.symm rfl)).trans hk,hr⟩⟩
end
theorem Blk.apart {w w':World} {g:Nat} {t:TypeId} {cs:Array Value} {row:Option Nat} (h:Blk w g t cs) (hg:w.grownBy w' row) (hne:some g=row→False):Blk w' g t cs:=(hg.block g h.lt hne).trans h
section
variable {ops:Array Oper} {rest:List Oper} {o:Oper} {a:Act} {Q:Exit→Act→World→Prop} {w w0:World} {base mid:Nat} {v v2:Value} {vs vs2:List Value} {ss ss2:List Asn}
end
end Go.Proofs.YtjjokmlmknllhaaGreat

/- What a call makes of an assertion: spec.CallPost. Printed by genCallS.py. -/
namespace Go.Proofs.YtjjokmlmknllhaaGreat
open Go Go.RowKit Go.Proofs
attribute [local go_sem ↓] Go.wp_at_zero Go.wp_at_succ
structure Pt (w:World) (p:Addr) (v:Value):Prop where
 cell:w.cell? p=some v
 lt:p.block<w.heap.size
theorem Pt.next {w w':World} {p:Addr} {v:Value} (h:Pt w p v) (hb:Below w.heap.size w w'):Pt w' p v:=⟨(hb.cell h.lt).trans h.cell,Nat.lt_of_lt_of_le h.lt hb.size⟩
theorem Pt.alloc {w:World} {p:Addr} {v:Value} (h:Pt w p v) (o:Obj):Pt (w.alloc o) p v:=h.next (bbox (Below.refl _ w) o)
theorem Pt.far {w:World} {q:Addr} {v:Value} (h:Pt w q v) {p:Addr} (hp:q.block≠p.block) (u:Value):Pt (w.setCell p u) q v:=⟨(World.cell?_setCell_far w p q u (fun e=>hp e.symm)).trans h.cell,by simpa using h.lt⟩
theorem BoolsO.setT1 {w:World} {base:Nat} {v:Value} {xs:List Bool} (h:BoolsO w base v xs) {g:Nat} {t:TypeId} {cs:Array Value} (hk:Blk w g t cs) (ht:t≠tB) (i:Nat) (u:Value):BoolsO (w.setCell ⟨g,i,none⟩ u) base v xs:=⟨own_setT h.1 hk ht i u,h.2⟩
set_option maxRecDepth 100000 in
set_option maxHeartbeats 3200000 in
theorem c_l10ForgetO {base lo' hi':Nat} (v:Value) (a:Asn) (x:Int) (Bf:Option Addr) (cf K:Nat) (w:World) (h:AsnO w base v a) (hb0:base≤w.heap.size) (h':BoolsV w lo' hi' Bf (flagsOf K)) (hv:a.valid=true) (hx:isTermB x=true) :
  Calls Tryz.prog 58 #[v,.int .i64 x,.slice Bf 9 cf] w fun e w'=>∃ F f G g b p,e=.returned (.tuple #[.agg #[.slice F b.facts.length f,.slice G b.atoms.length g],.int .i64 p,.bool (forgetF a x K).isSome])∧AsnO w' base (.agg #[.slice F b.facts.length f,.slice G b.atoms.length g]) b∧b.facts.length=a.facts.length∧b.atoms.length=a.atoms.length∧(∀ q,forgetF a x K=some q→q=(b,p))∧Below w.heap.size w w':=by
 have HO:=Lib.hid h
 have hV:=Lib.hid h.reads
 have HV:=Lib.hid hv
 have HT:=Lib.hid (termsL_ok hv)
 have HF:=Lib.hid h'
 have hx8:=isTermB_iff.1 hx
 obtain ⟨m,rfl⟩:=Int.eq_ofNat_of_zero_le hx8.1
 obtain ⟨A1,c1,A2,c2,rfl,-,-⟩:=h.reads
 clear h
 have E0:(m:Int).toNat=m:=Int.toNat_natCast m
 have HE1:Hid ((tset (termsL a)).testBit m=false→forgetF a (m:Int) K=some (a,(m:Int))):=Lib.hid fun hb=>forget_has (by rw[E0];exact hb)
 have HE2:Hid ((tset (termsL a)).testBit m=true→newT (tset (termsL a)|||K)=none→forgetF a (m:Int) K=none):=Lib.hid fun hb hn=>forget_none (by rw[E0];exact hb) hn
 have HE3:Hid ((tset (termsL a)).testBit m=true→∀ n,newT (tset (termsL a)|||K)=some n→forgetF a (m:Int) K=some (substA (m:Int) (n:Int) a,(n:Int))):=Lib.hid fun hb n hn=>forget_some (by rw[E0];exact hb) hn
 clear hv h' E0
 go_enter Tryz.func58,Tryz.ntmps58
 have k3:Blk ((w.alloc (.cells #[.slice A1 a.facts.length c1,.slice A2 a.atoms.length c2] tAs)).alloc (.cells #[.slice none 0 0,.slice none 0 0] tAs)) w.heap.size tAs #[.slice A1 a.facts.length c1,.slice A2 a.atoms.length c2]:=blks
 have k6:Blk ((w.alloc (.cells #[.slice A1 a.facts.length c1,.slice A2 a.atoms.length c2] tAs)).alloc (.cells #[.slice none 0 0,.slice none 0 0] tAs)) (w.heap.size+1) tAs #[.slice none 0 0,.slice none 0 0]:=blks
 go_wp2_with fail
 refine (c_spec_l3Terms _ a _ (hV.out.below bel) HT.out).mono ?_
 rintro e w1 ⟨r,rfl,oT,hB1⟩
 have hB:=bgo (w:=w) bel hB1
 replace k3:=k3.next hB1
 replace k6:=k6.next hB1
 have hz:=hB1.size
 simp only[World.size_alloc] at hz
 obtain ⟨Tb,ct,rfl,fT⟩:=oT.reads
 rw[flagsOf_length]
 obtain ⟨pt,ot,rfl,lpt⟩:=flags_addr fT
 have f1:=flags_at fT (m:=m) (by omega)
 have k9:(m:Int)<9:=by omega
 clear hB1 oT hx
 cases hb:(tset (termsL a)).testBit m
 ·have E:=Lib.hid (HE1.out hb)
  rw[hb] at f1
  clear hb HE1 HE2 HE3
  (replace qk3:=k3.cell;replace rk3:=k3.frozen;replace lk3:=k3.lt;replace qk6:=k6.cell;replace rk6:=k6.frozen;replace lk6:=k6.lt)
  go_wp2_with fail
  have z6:=((k6.set_ 0 (.slice A1 a.facts.length c1)).set_ 1 (.slice A2 a.atoms.length c2)).cell
  refine bodyPost_ret (v:=.tuple #[.agg #[.slice A1 a.facts.length c1,.slice A2 a.atoms.length c2],.int .i64 m,.bool true]) (by simp[results,Tryz.results58,go_sem,z6]) rfl ⟨A1,c1,A2,c2,a,m,by rw[E.out];rfl,?_,rfl,rfl,?_,?_⟩
  ·exact AsnO.setT2 (HO.out.below hB) k6 _ _
  ·intro q hq;rw[E.out] at hq;exact (Option.some.inj hq).symm
  ·exact bel
 ·have HBT:=Lib.hid hb
  rw[hb] at f1
  clear hb HE1
  (replace qk3:=k3.cell;replace rk3:=k3.frozen;replace lk3:=k3.lt;replace qk6:=k6.cell;replace rk6:=k6.frozen;replace lk6:=k6.lt)
  go_wp2_with fail
  refine (c_l10New _ a Bf cf K _ (hV.out.below hB) (HF.out.below hB) HV.out).mono ?_
  rintro e w3 ⟨rfl,hB3⟩
  clear f1
  (replace hB:=bgo hB hB3;replace k3:=k3.next hB3;replace qk3:=k3.cell;replace rk3:=k3.frozen;replace lk3:=k3.lt;replace k6:=k6.next hB3;replace qk6:=k6.cell;replace rk6:=k6.frozen;replace lk6:=k6.lt)
  have hz3:=hB3.size
  clear hB3
  obtain ⟨U,hU⟩:∃ U,U=unusedI (tset (termsL a)|||K):=⟨_,rfl⟩
  rw[←hU]
  have HS:Hid ((newT (tset (termsL a)|||K)).isSome=(forgetF a (m:Int) K).isSome∧∀ q,forgetF a (m:Int) K=some q→q=(substA (m:Int) U a,U)):=Lib.hid (by
   cases hn:newT (tset (termsL a)|||K) with
   | none=>rw[HE2.out HBT.out hn];exact ⟨rfl,fun q hq=>by cases hq⟩
   | some n=>
    have e:U=(n:Int):=by rw[hU];unfold unusedI;rw[hn]
    rw[HE3.out HBT.out n hn,e]
    exact ⟨rfl,fun q hq=>(Option.some.inj hq).symm⟩)
  rw[HS.out.1]
  generalize hs:(forgetF a (m:Int) K).isSome=sm
  replace hs:=Lib.hid hs
  clear hU HE2 HE3 HBT
  go_wp2_with fail
  refine (c_spec_l3Subst _ a (m:Int) U _ (hV.out.below hB)).mono ?_
  rintro e w4 ⟨r,rfl,oC,hB4⟩
  obtain ⟨F,f,G,g,rfl⟩:=oC.I.form
  have OC:=Lib.hid oC
  (replace hB:=bgo hB hB4;replace k6:=k6.next hB4;replace qk6:=k6.cell;replace rk6:=k6.frozen;replace lk6:=k6.lt)
  have hz4:=hB4.size
  clear oC hB4 k3 qk3 rk3 lk3
  go_wp2_with fail
  have z6:=((k6.set_ 0 (.slice F (substA (m:Int) U a).facts.length f)).set_ 1 (.slice G (substA (m:Int) U a).atoms.length g)).cell
  refine bodyPost_ret (v:=.tuple #[.agg #[.slice F (substA (m:Int) U a).facts.length f,.slice G (substA (m:Int) U a).atoms.length g],.int .i64 U,.bool sm]) (by simp[results,Tryz.results58,go_sem,z6]) rfl ⟨F,f,G,g,substA (m:Int) U a,U,by rw[hs.out],?_,by simp[substA],by simp[substA],HS.out.2,?_⟩
  ·exact AsnO.setT2 (OC.out.lower (by omega)) k6 _ _
  ·exact bel
set_option maxRecDepth 100000 in
set_option maxHeartbeats 6400000 in
theorem c_spec_CallPost {lo hi lo1 hi1 lo2 hi2:Nat} (v v1:Value) (a:Asn) (k:Ctr) (A:Option Addr) (c:Nat) (ks:List Int) (w:World) (h:AsnV w lo hi v a) (hhi:hi≤w.heap.size) (h1:CtrV w lo1 hi1 v1 k) (h2:IntsV w lo2 hi2 A ks) :
  Calls Tryz.prog 12 #[v,v1,.slice A ks.length c] w fun e w'=>∃ r,e=.returned (.tuple #[r,.bool (callF a k ks).isSome])∧AsnO w' w.heap.size r ((callF a k ks).getD ⟨[],[]⟩)∧Below w.heap.size w w':=by
 have HA:=Lib.hid h
 have HK:=Lib.hid h1
 have HI:=Lib.hid h2
 obtain ⟨A1,c1,A2,c2,rfl,ha1,-⟩:=h
 have HA1:=Lib.hid ha1
 clear ha1
 obtain ⟨a1,a2,a3,a4,B5,d5,rfl,p1,p2,p5⟩:=h1
 obtain ⟨B1,d1,B2,d2,e1,q1,q2⟩:=p1
 obtain ⟨B3,d3,B4,d4,e2,q3,q4⟩:=p2
 injection e1 with e1;injection e1 with e1;injection e1 with e1 e1';injection e1' with e1' _
 injection e2 with e2;injection e2 with e2;injection e2 with e2 e2';injection e2' with e2' _
 subst e1 e1' e2 e2'
 have HP1:Hid (AsnV w lo1 hi1 (.agg #[.slice B1 k.pre.facts.length d1,.slice B2 k.pre.atoms.length d2]) k.pre):=Lib.hid ⟨_,_,_,_,rfl,q1,q2⟩
 have HP2:Hid (AsnV w lo1 hi1 (.agg #[.slice B3 k.post.facts.length d3,.slice B4 k.post.atoms.length d4]) k.post):=Lib.hid ⟨_,_,_,_,rfl,q3,q4⟩
 have Q3:=Lib.hid q3
 have Q4:=Lib.hid q4
 have P5:=Lib.hid p5
 have hcl:k.changes.length≤1049600:=p5.le
 have h1:=Lib.hid (@call_none1 a k ks)
 have h2:=Lib.hid (@call_none2 a k ks)
 have h3:=Lib.hid (@call_none3 a k ks)
 have h4:=Lib.hid (fun m=>@call_some a k ks m)
 clear q1 q2 q3 q4 p5
 have k3:Blk (((w.alloc (.cells #[.slice A1 a.facts.length c1,.slice A2 a.atoms.length c2] tAs)).alloc (.cells #[.slice B1 k.pre.facts.length d1,.slice B2 k.pre.atoms.length d2,.slice B3 k.post.facts.length d3,.slice B4 k.post.atoms.length d4,.slice B5 k.changes.length d5] tCt)).alloc (.cells #[.slice none 0 0,.slice none 0 0] tAs)) w.heap.size tAs #[.slice A1 a.facts.length c1,.slice A2 a.atoms.length c2]:=blks
 have k4:Blk (((w.alloc (.cells #[.slice A1 a.facts.length c1,.slice A2 a.atoms.length c2] tAs)).alloc (.cells #[.slice B1 k.pre.facts.length d1,.slice B2 k.pre.atoms.length d2,.slice B3 k.post.facts.length d3,.slice B4 k.post.atoms.length d4,.slice B5 k.changes.length d5] tCt)).alloc (.cells #[.slice none 0 0,.slice none 0 0] tAs)) (w.heap.size+1) tCt #[.slice B1 k.pre.facts.length d1,.slice B2 k.pre.atoms.length d2,.slice B3 k.post.facts.length d3,.slice B4 k.post.atoms.length d4,.slice B5 k.changes.length d5]:=blks
 have k6:Blk (((w.alloc (.cells #[.slice A1 a.facts.length c1,.slice A2 a.atoms.length c2] tAs)).alloc (.cells #[.slice B1 k.pre.facts.length d1,.slice B2 k.pre.atoms.length d2,.slice B3 k.post.facts.length d3,.slice B4 k.post.atoms.length d4,.slice B5 k.changes.length d5] tCt)).alloc (.cells #[.slice none 0 0,.slice none 0 0] tAs)) (w.heap.size+1+1) tAs #[.slice none 0 0,.slice none 0 0]:=blks
 have hB:Below w.heap.size w (((w.alloc (.cells #[.slice A1 a.facts.length c1,.slice A2 a.atoms.length c2] tAs)).alloc (.cells #[.slice B1 k.pre.facts.length d1,.slice B2 k.pre.atoms.length d2,.slice B3 k.post.facts.length d3,.slice B4 k.post.atoms.length d4,.slice B5 k.changes.length d5] tCt)).alloc (.cells #[.slice none 0 0,.slice none 0 0] tAs)):=bel
 go_enter Tryz.func12,Tryz.ntmps12
 go_upto_region 1 with fail
 generalize (((w.alloc (.cells #[.slice A1 a.facts.length c1,.slice A2 a.atoms.length c2] tAs)).alloc (.cells #[.slice B1 k.pre.facts.length d1,.slice B2 k.pre.atoms.length d2,.slice B3 k.post.facts.length d3,.slice B4 k.post.atoms.length d4,.slice B5 k.changes.length d5] tCt)).alloc (.cells #[.slice none 0 0,.slice none 0 0] tAs))=W at k3 k4 k6 hB ⊢
 (replace qk3:=k3.cell;replace rk3:=k3.frozen;replace lk3:=k3.lt;replace qk4:=k4.cell;replace rk4:=k4.frozen;replace lk4:=k4.lt;replace qk6:=k6.cell;replace rk6:=k6.frozen;replace lk6:=k6.lt)
 go_wp2_with fail
 refine (c_spec_AssertionValid _ a _ (HA.out.below hB)).mono ?_
 rintro e w1 ⟨rfl,hB1⟩
 (replace hB:=bgo hB hB1;replace k3:=k3.next hB1;replace qk3:=k3.cell;replace rk3:=k3.frozen;replace lk3:=k3.lt;replace k4:=k4.next hB1;replace qk4:=k4.cell;replace rk4:=k4.frozen;replace lk4:=k4.lt;replace k6:=k6.next hB1;replace qk6:=k6.cell;replace rk6:=k6.frozen;replace lk6:=k6.lt)
 clear hB1
 cases ha:a.valid
 ·have E:=Lib.hid (h1.out ha)
  clear ha h1 h2 h3 h4
  go_wp2_with fail
  refine bodyPost_ret (v:=.tuple #[.agg #[.slice none 0 0,.slice none 0 0],.bool false]) (by simp[results,Tryz.results12,go_sem,qk6,lk6]) rfl ⟨_,by rw[E.out];rfl,by rw[E.out];exact AsnO.zero _ _,bel⟩
 have HV:=Lib.hid ha
 clear ha
 go_wp2_with fail
 refine (c_spec_ContractValid _ k _ (HK.out.below hB)).mono ?_
 rintro e w2 ⟨rfl,hB2⟩
 (replace hB:=bgo hB hB2;replace k3:=k3.next hB2;replace qk3:=k3.cell;replace rk3:=k3.frozen;replace lk3:=k3.lt;replace k4:=k4.next hB2;replace qk4:=k4.cell;replace rk4:=k4.frozen;replace lk4:=k4.lt;replace k6:=k6.next hB2;replace qk6:=k6.cell;replace rk6:=k6.frozen;replace lk6:=k6.lt)
 clear hB2
 cases hb:k.valid
 ·have E:=Lib.hid (h2.out hb)
  clear hb h1 h2 h3 h4
  go_wp2_with fail
  refine bodyPost_ret (v:=.tuple #[.agg #[.slice none 0 0,.slice none 0 0],.bool false]) (by simp[results,Tryz.results12,go_sem,qk6,lk6]) rfl ⟨_,by rw[E.out];rfl,by rw[E.out];exact AsnO.zero _ _,bel⟩
 have hvp:=Ctr.vp hb
 have HV':=Lib.hid hvp
 have HX:=Lib.hid (changes_prog hvp.2.2)
 have h5:=Lib.hid (fun m=>h4.out m HV.out hb)
 have hlp:=valid_len hvp.2.1
 have hla:=valid_len HV.out
 have CF:=Lib.hid (c_l7Frame (.agg #[.slice A1 a.facts.length c1,.slice A2 a.atoms.length c2]) (.agg #[.slice B1 k.pre.facts.length d1,.slice B2 k.pre.atoms.length d2]) a k.pre w2 (HA.out.below hB) (HP1.out.below hB) HV.out hvp.1)
 have CFE:=Lib.hid (frame_map HV.out hvp.1)
 clear hb h1 h2 h4
 go_wp2_with fail
 refine CF.out.mono ?_
 rintro e w3 ⟨r,rfl,o,hB3⟩
 have hz:=hB.size
 (replace hB:=bgo hB hB3;replace k3:=k3.next hB3;replace qk3:=k3.cell;replace rk3:=k3.frozen;replace lk3:=k3.lt;replace k4:=k4.next hB3;replace qk4:=k4.cell;replace rk4:=k4.frozen;replace lk4:=k4.lt;replace k6:=k6.next hB3;replace qk6:=k6.cell;replace rk6:=k6.frozen;replace lk6:=k6.lt)
 clear hB3 CF
 cases hm:frM a k.pre with
 | none=>
  have E:=Lib.hid (h3.out hm)
  have E2:frameF a k.pre=none:=by rw[CFE.out,hm];rfl
  rw[E2] at o ⊢
  obtain ⟨F,f,G,g,rfl⟩:=o.I.form
  clear hm h3 h5 CFE E2 o
  go_wp2_with fail
  refine bodyPost_ret (v:=.tuple #[.agg #[.slice none 0 0,.slice none 0 0],.bool false]) (by simp[results,Tryz.results12,go_sem,qk6,lk6]) rfl ⟨_,by rw[E.out];rfl,by rw[E.out];exact AsnO.zero _ _,bel⟩
 | some m=>
 have E:=Lib.hid (h5.out m hm)
 have hm64:m≤1000000:=by
  have h1:=(seekM_lt hm).2.1
  have h2:2 ^ a.atoms.length≤2 ^ 6:=Nat.pow_le_pow_right (by decide) hla.2
  omega
 have E2:frameF a k.pre=some (pickA a m):=by rw[CFE.out,hm];rfl
 rw[E2] at o ⊢
 clear hm h3 h5 CFE E2
 have eP:pickA a m=⟨[],maskA m 0 a.atoms⟩:=rfl
 have hml:=maskA_len m a.atoms 0
 have HR0:=Lib.hid (rest_valid HV.out m)
 rw[Option.getD_some,eP] at o
 rw[Option.isSome_some]
 clear eP
 obtain ⟨M,hM⟩:∃ M,M=maskA m 0 a.atoms:=⟨_,rfl⟩
 rw[←hM] at o E hml HR0
 clear hM
 obtain ⟨fv,av,rfl,o1,o2⟩:=o
 obtain ⟨F,f,rfl,-⟩:=o1.reads
 obtain ⟨G,g,rfl,-⟩:=o2.reads
 have k8:=Blk.new w3 tAs #[.slice F ([]:List Fct).length f,.slice G M.length g]
 have hq:=bbox (Below.refl _ w3) (.cells #[.slice F ([]:List Fct).length f,.slice G M.length g] tAs)
 have HM:=Lib.hid ((o2.below hq).lower (base':=w.heap.size) hz)
 have hy8:w.heap.size+1+1+1≤w3.heap.size:=k6.lt
 (replace hB:=bgo hB hq;replace k3:=k3.next hq;replace k4:=k4.next hq;replace k6:=k6.next hq)
 clear o1 o2 hq qk3 rk3 lk3 qk4 rk4 lk4 qk6 rk6 lk6
 (replace qk3:=k3.cell;replace rk3:=k3.frozen;replace lk3:=k3.lt;replace qk4:=k4.cell;replace rk4:=k4.frozen;replace lk4:=k4.lt;replace qk6:=k6.cell;replace rk6:=k6.frozen;replace lk6:=k6.lt)
 go_upto_region 6 with fail
 obtain ⟨y,hy⟩:∃ y,y=w3.heap.size:=⟨_,rfl⟩
 rw[←hy] at hy8 k8 ⊢
 generalize (w3.alloc (.cells #[.slice F ([]:List Fct).length f,.slice G M.length g] tAs))=V at k3 k4 k6 k8 HM hB qk3 rk3 lk3 qk4 rk4 lk4 qk6 rk6 lk6 ⊢
 clear hy
 have hks:ks.length≤1049600:=HI.out.le
 have hlq:=valid_len hvp.1
 clear hvp
 have hyV:y<V.heap.size:=k8.lt
 go_wp2_with fail
 refine (c_spec_l10Busy A c ks _ (HI.out.below hB)).mono ?_
 rintro e w4 ⟨r4,rfl,o4,hB4⟩
 have hs4:=hB4.size
 (replace hB:=bgo hB hB4;replace k3:=k3.next hB4;replace qk3:=k3.cell;replace rk3:=k3.frozen;replace lk3:=k3.lt;replace k4:=k4.next hB4;replace qk4:=k4.cell;replace rk4:=k4.frozen;replace lk4:=k4.lt;replace k6:=k6.next hB4;replace qk6:=k6.cell;replace rk6:=k6.frozen;replace lk6:=k6.lt)
 replace k8:=k8.next hB4
 replace HM:=Lib.hid (HM.out.below hB4)
 obtain ⟨Bb,cb,rfl,-⟩:=o4.reads
 rw[flagsOf_length] at o4 ⊢
 obtain ⟨gB,cur,-,rfl,hgb,kb,-⟩:=o4.cell_ (k:=0) (by rw[flagsOf_length];omega)
 have hgl:=kb.lt
 obtain ⟨K0,hK0⟩:∃ K,K=tset ks:=⟨_,rfl⟩
 obtain ⟨T,hT⟩:∃ T,T=tset (termsL (starA a (starA k.pre k.post))):=⟨_,rfl⟩
 have HKT:Hid (callK a k ks=K0|||T):=Lib.hid (by rw[hK0,hT];exact (callK_star a k ks).symm)
 have hT512:T<512:=by rw[hT];exact tset_lt _
 rw[←hK0] at o4
 have HBU:=Lib.hid o4
 have HTT:=Lib.hid hT
 clear hB4 o4 kb cur hK0 hT
 have HOK:Hid (∀ t∈termsL (starA a (starA k.pre k.post)),isTermB t=true):=Lib.hid (by
  intro t ht
  rcases (termsL_star a _ t).1 ht with h|h
  ·exact termsL_ok HV.out t h
  ·exact termsL_star_ok HV'.out.1 HV'.out.2.1 t h)
 go_upto_region 7 with fail
 clear qk3 rk3 lk3 qk4 rk4 lk4
 refine wp_region_noPanic ?_
 refine wp_region_held_drew (S:=(fun w'=>(∀ i,w'.cell? ⟨w.heap.size,i,none⟩=#[.slice A1 a.facts.length c1,.slice A2 a.atoms.length c2][i]?)∧(∀ i,w'.cell? ⟨w.heap.size+1,i,none⟩=#[.slice B1 k.pre.facts.length d1,.slice B2 k.pre.atoms.length d2,.slice B3 k.post.facts.length d3,.slice B4 k.post.atoms.length d4,.slice B5 k.changes.length d5][i]?))) (by kernel_rfl) (⟨k3.drew.cell,k4.drew.cell⟩) (fun hHeld=>?_)
 have hBd:Below w.heap.size w w4.drew:=hB.drew
 refine tk 0 ?_ rfl (fun w hSw=>?_) hHeld ?_
 rotate_left
 ·((try dsimp only at hSw);go_split_ands;go_simp;(try with_reducible rfl))
 try simp only[Act.put,zA,zB,zC,zD,zE,zF]
 refine tk 1 ?_ rfl (fun w hSw=>?_) hHeld ?_
 rotate_left
 ·((try dsimp only at hSw);go_split_ands;go_simp;(try with_reducible rfl))
 try simp only[Act.put,zA,zB,zC,zD,zE,zF]
 refine tk 2 ?_ rfl (fun w hSw=>?_) hHeld ?_
 rotate_left
 ·((try dsimp only at hSw);go_split_ands;go_simp;(try with_reducible rfl))
 try simp only[Act.put,zA,zB,zC,zD,zE,zF]
 refine tk 3 ?_ rfl (fun w hSw=>?_) hHeld ?_
 rotate_left
 ·((try dsimp only at hSw);go_split_ands;go_simp;(try with_reducible rfl))
 try simp only[Act.put,zA,zB,zC,zD,zE,zF]
 refine tk 4 ?_ rfl (fun w hSw=>?_) hHeld ?_
 rotate_left
 ·((try dsimp only at hSw);go_split_ands;go_simp;(try with_reducible rfl))
 try simp only[Act.put,zA,zB,zC,zD,zE,zF]
 refine rdc 5 rfl fun K hK=>?_
 try simp only[zA,zB,zC]
 (go_simp;refine (c_spec_l3Star _ _ k.pre k.post _ (HP1.out.below hBd) (HP2.out.below hBd) (by omega) (by omega)).mono ?_;rintro e w5 ⟨r5,rfl,o5,hB5⟩;obtain ⟨F5,f5,G5,g5,rfl⟩:=o5.I.form;replace hB5:Below w4.heap.size w4 w5:=(Below.refl _ _).drew.trans hB5;have O5:=Lib.hid o5.reads;have kk3:=k3.next hB5;have kk4:=k4.next hB5;have hB6:=bgo hB hB5;clear o5)
 refine hK.out _ _ (⟨kk3.cell,kk4.cell⟩) ?_
 clear hHeld hK K
 intro hHeld
 try simp only[Act.put,zA,zB,zC,zD,zE,zF]
 refine rdc 6 rfl fun K hK=>?_
 try simp only[zA,zB,zC]
 (go_simp;refine (c_spec_l3Star _ _ a (starA k.pre k.post) _ (HA.out.below hB6) O5.out (by simp only[starA,List.length_append];omega) (by simp only[starA,List.length_append];omega)).mono ?_;rintro e w6 ⟨r6,rfl,o6,hB7⟩;obtain ⟨F6,f6,G6,g6,rfl⟩:=o6.I.form;have O6:=Lib.hid o6.reads;have hB8:=bgo hB5 hB7;have kl3:=k3.next hB8;have kl4:=k4.next hB8;clear o6)
 refine hK.out _ _ (⟨kl3.cell,kl4.cell⟩) ?_
 clear hHeld hK K
 intro hHeld
 try simp only[Act.put,zA,zB,zC,zD,zE,zF]
 refine rdc 7 rfl fun K hK=>?_
 try simp only[zA,zB,zC]
 (go_simp;refine (c_spec_l3Terms _ (starA a (starA k.pre k.post)) _ O6.out HOK.out).mono ?_;rintro e w7 ⟨r7,rfl,o7,hB9⟩;obtain ⟨Tb,ct,rfl,f7⟩:=o7.reads;rw[flagsOf_length];have hB10:=bgo hB8 hB9;have km3:=k3.next hB10;have km4:=k4.next hB10)
 refine hK.out _ _ (⟨km3.cell,km4.cell⟩) ?_
 clear hHeld hK K
 intro hHeld
 try simp only[Act.put,zA,zB,zC,zD,zE,zF]
 refine tk 8 ?_ rfl (fun w hSw=>?_) hHeld ?_
 rotate_left
 ·((try dsimp only at hSw);go_split_ands;go_simp;(try with_reducible rfl))
 try simp only[Act.put,zA,zB,zC,zD,zE,zF]
 refine wpAnyH_done (by kernel_rfl) ?_ _
 refine NoPanic.normal ?_
 have hs10:=hB10.size
 have hg6:gB<w6.heap.size:=by have:=hB8.size;omega
 (replace hB:=bgo hB hB10;replace k3:=k3.next hB10;replace qk3:=k3.cell;replace rk3:=k3.frozen;replace lk3:=k3.lt;replace k4:=k4.next hB10;replace qk4:=k4.cell;replace rk4:=k4.frozen;replace lk4:=k4.lt;replace k6:=k6.next hB10;replace qk6:=k6.cell;replace rk6:=k6.frozen;replace lk6:=k6.lt)
 replace k8:=k8.next hB10
 replace HM:=Lib.hid (HM.out.below hB10)
 replace HBU:=Lib.hid (HBU.out.below hB10)
 rw[←HTT.out] at f7
 have HT7:=Lib.hid f7
 obtain ⟨bT,oT,rfl,lbT⟩:=flags_addr f7
 clear hHeld f7 o7 O5 O6 HOK HTT kk3 kk4 kl3 kl4 km3 km4 hB5 hB6 hB7 hB8 hB9 hB10 hBd
 go_wp2_with fail
 go_loopw [12] (fun i wr=>∃ t:Nat,t≤9∧i=.int .i64 t∧Hid (BoolsO wr V.heap.size (.slice (some ⟨gB,0,none⟩) 9 cb) (flagsOf (upK K0 T t)))∧Hid (AtomsO wr w.heap.size (.slice G M.length g) M)∧Hid (Fr gB w7 wr)) (fun i _=>9 - (intOf i).toNat)
 case atStart=>exact ⟨0,Nat.zero_le _,rfl,HBU,HM,Lib.hid (Fr.refl _ _)⟩
 case round=>
  obtain ⟨t,ht,rfl,HBr,HMr,HF⟩:=hrel
  by_cases hlt:t<9
  ·have hti:(t:Int)≤8:=by omega
   have ht9:(t:Int)<9:=by omega
   have f1:=flags_at (HT7.out.fr HF.out (Or.inl hg6)) (m:=t) (by omega)
   obtain ⟨g',cur,-,eA,-,kb,hcu,hset⟩:=HBr.out.cell_ (k:=t) (by rw[flagsOf_length];exact hlt)
   injection eA with eA
   injection eA with eA
   subst eA
   have hfl:(flagsOf (upK K0 T t))[t]'(by rw[flagsOf_length];exact hlt)=(upK K0 T t).testBit t:=Option.some.inj ((List.getElem?_eq_getElem _).symm.trans (flagsOf_get _ _ hlt))
   rw[hfl] at hcu
   have qb:wr.cell? ⟨gB,t,none⟩=some (.bool ((upK K0 T t).testBit t)):=(kb.cell t).trans hcu
   have HST:Hid (BoolsO (wr.setCell ⟨gB,t,none⟩ (.bool ((upK K0 T t).testBit t || T.testBit t))) V.heap.size (.slice (some ⟨gB,0,none⟩) 9 cb) (flagsOf (upK K0 T (t+1)))):=Lib.hid (by rw[←flagsOf_put K0 T t hlt];exact hset _)
   have HMT:Hid (AtomsO (wr.setCell ⟨gB,t,none⟩ (.bool ((upK K0 T t).testBit t || T.testBit t))) w.heap.size (.slice G M.length g) M):=Lib.hid (HMr.out.setT kb (by decide) _ _)
   have HFT:Hid (Fr gB w7 (wr.setCell ⟨gB,t,none⟩ (.bool ((upK K0 T t).testBit t || T.testBit t)))):=Lib.hid (HF.out.set_ (Or.inl rfl) _)
   have rb:=kb.frozen
   have lb:=kb.lt
   clear hset hcu hfl HBr HMr HF
   cases hb:(upK K0 T t).testBit t
   ·rw[hb] at qb HST HMT HFT
    cases hbt:T.testBit t
    all_goals
     rw[hbt] at f1 HST HMT HFT
     simp only[Bool.or_true,Bool.or_false] at HST HMT HFT
     clear hb hbt
     go_wp2_with fail
     go_round
     case rel=>exact ⟨t+1,by omega,by go_num,HST,HMT,HFT⟩
     case measure=>simp[intOf];omega
   ·rw[hb,Bool.true_or] at HST HMT HFT
    rw[hb] at qb
    clear hb
    go_wp2_with fail
    go_round
    case rel=>exact ⟨t+1,by omega,by go_num,HST,HMT,HFT⟩
    case measure=>simp[intOf];omega
  ·obtain rfl:t=9:=by omega
   rw[upK_all K0 T hT512,←HKT.out] at HBr
   generalize callK a k ks=K at *
   have hsF:=HF.out.size
   replace k3:=k3.fr HF.out (by omega)
   replace k4:=k4.fr HF.out (by omega)
   replace k6:=k6.fr HF.out (by omega)
   replace k8:=k8.fr HF.out (by omega)
   replace hB:=hB.trans (HF.out.below (B:=w.heap.size) (by omega) (by omega))
   replace HBr:=Lib.hid (HBr.out.lower (base':=w.heap.size) (by omega))
   have hgR:gB<wr.heap.size:=by omega
   clear HF HT7 HBU HM HKT hsF
   (replace qk3:=k3.cell;replace rk3:=k3.frozen;replace lk3:=k3.lt;replace qk4:=k4.cell;replace rk4:=k4.frozen;replace lk4:=k4.lt;replace qk6:=k6.cell;replace rk6:=k6.frozen;replace lk6:=k6.lt)
   go_upto_region 12 with fail
   clear qk3 rk3 lk3 qk4 rk4 lk4 qk6 rk6 lk6
   generalize wr=VR at *
   go_cut [13] (fun s13 wc=>∃ (z:Nat) (F1:Option Addr) (f1:Nat),s13=.pointer (some ⟨z,0,none⟩)∧w.heap.size+1+1<z∧z≠gB∧Blk wc z tAs #[.slice F1 a.facts.length f1,.slice G M.length g]∧Hid (AsnO wc w.heap.size (.agg #[.slice F1 a.facts.length f1,.slice G M.length g]) ⟨a.facts,M⟩)∧Blk wc (w.heap.size+1) tCt #[.slice B1 k.pre.facts.length d1,.slice B2 k.pre.atoms.length d2,.slice B3 k.post.facts.length d3,.slice B4 k.post.atoms.length d4,.slice B5 k.changes.length d5]∧Blk wc (w.heap.size+1+1) tAs #[.slice none 0 0,.slice none 0 0]∧Hid (BoolsO wc w.heap.size (.slice (some ⟨gB,0,none⟩) 9 cb) (flagsOf K))∧Hid (Below w.heap.size w wc))
   case first=>
    (replace qk3:=k3.cell;replace rk3:=k3.frozen;replace lk3:=k3.lt;replace qk4:=k4.cell;replace rk4:=k4.frozen;replace lk4:=k4.lt;replace qk6:=k6.cell;replace rk6:=k6.frozen;replace lk6:=k6.lt)
    go_wp2_with fail
    refine wp_region_noPanic ?_
    refine wp_region_held_drew (S:=(fun w'=>(∀ i,w'.cell? ⟨w.heap.size,i,none⟩=#[.slice A1 a.facts.length c1,.slice A2 a.atoms.length c2][i]?)∧(∀ i,w'.cell? ⟨y,i,none⟩=#[.slice F ([]:List Fct).length f,.slice G M.length g][i]?))) (by kernel_rfl) (⟨k3.drew.cell,k8.drew.cell⟩) (fun hHeld=>?_)
    have HW:=Lib.hid ((Below.refl VR.heap.size VR).drew)
    have hyR:=k8.lt
    clear qk3 rk3 lk3 qk4 rk4 lk4 qk6 rk6 lk6
    generalize VR.drew=wq at *
    refine tk 1 ?_ rfl (fun w hSw=>?_) hHeld ?_
    rotate_left
    ·((try dsimp only at hSw);go_split_ands;go_simp;(try with_reducible rfl))
    try simp only[Act.put,zA,zB,zC,zD,zE,zF]
    refine tk 2 ?_ rfl (fun w hSw=>?_) hHeld ?_
    rotate_left
    ·((try dsimp only at hSw);go_split_ands;go_simp;(try with_reducible rfl))
    try simp only[Act.put,zA,zB,zC,zD,zE,zF]
    refine tk 4 ?_ rfl (fun w hSw=>?_) hHeld ?_
    rotate_left
    ·((try dsimp only at hSw);go_split_ands;go_simp;(try with_reducible rfl))
    try simp only[Act.put,zA,zB,zC,zD,zE,zF]
    refine tk 5 ?_ rfl (fun w hSw=>?_) hHeld ?_
    rotate_left
    ·((try dsimp only at hSw);go_split_ands;go_simp;(try with_reducible rfl))
    try simp only[Act.put,zA,zB,zC,zD,zE,zF]
    refine wpAnyH_ready (rs:=[0,7]) (by kernel_rfl) (by simp) (AllReadyH.cons rfl (fun K hK=>?_) (AllReadyH.cons rfl (fun K hK=>?_) AllReadyH.nil))
    ·skip
     try simp only[zA,zB,zC]
     (go_simp;have hq:=bbox (Below.refl _ wq) (.cells #[] tF);have HX:=Lib.hid (bgo HW.out hq))
     refine hK.out _ _ (⟨(k3.next HX.out).cell,(k8.next HX.out).cell⟩) ?_
     clear hHeld hK K
     intro hHeld
     try simp only[Act.put,zA,zB,zC,zD,zE,zF]
     have kE:=Blk.new wq tF #[]
     have hlz:wq.heap.size<(wq.alloc (.cells #[] tF)).heap.size:=by simp
     obtain ⟨yE,hyE⟩:∃ y,y=wq.heap.size:=⟨_,rfl⟩
     have hyBE:VR.heap.size≤yE:=by have:=HW.out.size;omega
     try have hne:yE≠yX:=by omega
     try replace kX:=kX.next hq
     rw[←hyE] at kE hlz ⊢
     have OI:Hid (FactsO (wq.alloc (.cells #[] tF)) VR.heap.size (.slice (some ⟨yE,0,none⟩) 0 0) []):=Lib.hid ⟨own_ofBlk kE hyBE,by simp[Lim]⟩
     clear kE
     replace HW:=HX
     clear HX hq hyE
     generalize wq.alloc (.cells #[] tF)=wq at *
     refine wpAnyH_ready (rs:=[3,7]) (by kernel_rfl) (by simp) (AllReadyH.cons rfl (fun K hK=>?_) (AllReadyH.cons rfl (fun K hK=>?_) AllReadyH.nil))
     ·skip
      refine stepFL (base:=VR.heap.size) (v:=.slice (some ⟨yE,0,none⟩) 0 0) (xs:=[]) (ys:=a.facts) rfl _ _ rfl rfl OI.out rfl (FactsV.below HA1.out (bgo hB HW.out)) (by simp<;>omega) HW.out.size ?_
      intro KC kc2 wq2 oN hg hq
      have HX:=Lib.hid (HW.out.trans hq)
      rw[List.nil_append] at oN ⊢
      replace OI:=Lib.hid oN
      replace HW:=HX
      clear HX oN hg hq
      refine hK.out _ _ ⟨(k3.next HW.out).cell,(k8.next HW.out).cell⟩ ?_
      clear hHeld hK K
      intro hHeld
      try simp only[Act.put,zA,zB,zC,zD,zE,zF]
      generalize wq2=wq at *
      refine tk 6 ?_ rfl (fun w hSw=>?_) hHeld ?_
      rotate_left
      ·((try dsimp only at hSw);go_split_ands;go_simp;(try with_reducible rfl))
      try simp only[Act.put,zA,zB,zC,zD,zE,zF]
      refine rdc 7 rfl fun K hK=>?_
      try simp only[zA,zB,zC]
      (go_simp;have hq:=bbox (Below.refl _ wq) (.cells #[.slice none 0 0,.slice none 0 0] tAs);have HX:=Lib.hid (bgo HW.out hq))
      refine hK.out _ _ (⟨(k3.next HX.out).cell,(k8.next HX.out).cell⟩) ?_
      clear hHeld hK K
      intro hHeld
      try simp only[Act.put,zA,zB,zC,zD,zE,zF]
      have kX:=Blk.new wq tAs #[.slice none 0 0,.slice none 0 0]
      have hlz:wq.heap.size<(wq.alloc (.cells #[.slice none 0 0,.slice none 0 0] tAs)).heap.size:=by simp
      obtain ⟨yX,hyX⟩:∃ y,y=wq.heap.size:=⟨_,rfl⟩
      have hyBX:VR.heap.size≤yX:=by have:=HW.out.size;omega
      try have hne:yE≠yX:=by omega
      try replace OI:=Lib.hid (OI.out.below hq)
      rw[←hyX] at kX hlz ⊢
      replace HW:=HX
      clear HX hq hyX
      generalize wq.alloc (.cells #[.slice none 0 0,.slice none 0 0] tAs)=wq at *
      have hlb:=kX.lt
      have ql:=kX.cell
      have rl:=kX.frozen
      refine rdc 8 rfl fun K hK=>?_
      try simp only[zA,zB,zC]
      (go_simp;have kb:=(kX.set_ 0 (.slice KC a.facts.length kc2)).set_ 1 (.slice G M.length g);have OJ:=Lib.hid ((OI.out.setT kX (by decide) 0 (.slice KC a.facts.length kc2)).setT (kX.set_ 0 (.slice KC a.facts.length kc2)) (by decide) 1 (.slice G M.length g));have HX:=Lib.hid ((HW.out.setCell (p:=⟨yX,0,none⟩) (by simp only;omega) (.slice KC a.facts.length kc2)).setCell (p:=⟨yX,1,none⟩) (by simp only;omega) (.slice G M.length g)))
      refine hK.out _ _ (⟨(k3.next HX.out).cell,(k8.next HX.out).cell⟩) ?_
      clear hHeld hK K
      intro hHeld
      try simp only[Act.put,zA,zB,zC,zD,zE,zF]
      refine wpAnyH_done (by kernel_rfl) ?_ _
      refine NoPanic.normal ?_
      go_wp2_with fail
      go_meet
      case rel=>exact ⟨yX,KC,kc2,rfl,by omega,by omega,kb,Lib.hid ⟨_,_,rfl,OJ.out.lower (by omega),HMr.out.below HX.out⟩,k4.next HX.out,k6.next HX.out,Lib.hid (HBr.out.below HX.out),Lib.hid (bgo hB HX.out)⟩
     ·skip
      try simp only[zA,zB,zC]
      (go_simp;have hq:=bbox (Below.refl _ wq) (.cells #[.slice none 0 0,.slice none 0 0] tAs);have HX:=Lib.hid (bgo HW.out hq))
      refine hK.out _ _ (⟨(k3.next HX.out).cell,(k8.next HX.out).cell⟩) ?_
      clear hHeld hK K
      intro hHeld
      try simp only[Act.put,zA,zB,zC,zD,zE,zF]
      have kX:=Blk.new wq tAs #[.slice none 0 0,.slice none 0 0]
      have hlz:wq.heap.size<(wq.alloc (.cells #[.slice none 0 0,.slice none 0 0] tAs)).heap.size:=by simp
      obtain ⟨yX,hyX⟩:∃ y,y=wq.heap.size:=⟨_,rfl⟩
      have hyBX:VR.heap.size≤yX:=by have:=HW.out.size;omega
      try have hne:yE≠yX:=by omega
      try replace OI:=Lib.hid (OI.out.below hq)
      rw[←hyX] at kX hlz ⊢
      replace HW:=HX
      clear HX hq hyX
      generalize wq.alloc (.cells #[.slice none 0 0,.slice none 0 0] tAs)=wq at *
      refine rdc 3 rfl fun K0 hK=>?_
      refine stepFL (base:=VR.heap.size) (v:=.slice (some ⟨yE,0,none⟩) 0 0) (xs:=[]) (ys:=a.facts) rfl _ _ rfl rfl OI.out rfl (FactsV.below HA1.out (bgo hB HW.out)) (by simp<;>omega) HW.out.size ?_
      intro KC kc2 wq2 oN hg hq
      have HX:=Lib.hid (HW.out.trans hq)
      replace kX:=kX.apart hg (fun e=>hne (Option.some.inj e).symm)
      rw[List.nil_append] at oN ⊢
      replace OI:=Lib.hid oN
      replace HW:=HX
      clear HX oN hg hq
      refine hK.out _ _ ⟨(k3.next HW.out).cell,(k8.next HW.out).cell⟩ ?_
      clear hHeld hK K0
      intro hHeld
      try simp only[Act.put,zA,zB,zC,zD,zE,zF]
      generalize wq2=wq at *
      refine tk 6 ?_ rfl (fun w hSw=>?_) hHeld ?_
      rotate_left
      ·((try dsimp only at hSw);go_split_ands;go_simp;(try with_reducible rfl))
      try simp only[Act.put,zA,zB,zC,zD,zE,zF]
      have hlb:=kX.lt
      have ql:=kX.cell
      have rl:=kX.frozen
      refine rdc 8 rfl fun K hK=>?_
      try simp only[zA,zB,zC]
      (go_simp;have kb:=(kX.set_ 0 (.slice KC a.facts.length kc2)).set_ 1 (.slice G M.length g);have OJ:=Lib.hid ((OI.out.setT kX (by decide) 0 (.slice KC a.facts.length kc2)).setT (kX.set_ 0 (.slice KC a.facts.length kc2)) (by decide) 1 (.slice G M.length g));have HX:=Lib.hid ((HW.out.setCell (p:=⟨yX,0,none⟩) (by simp only;omega) (.slice KC a.facts.length kc2)).setCell (p:=⟨yX,1,none⟩) (by simp only;omega) (.slice G M.length g)))
      refine hK.out _ _ (⟨(k3.next HX.out).cell,(k8.next HX.out).cell⟩) ?_
      clear hHeld hK K
      intro hHeld
      try simp only[Act.put,zA,zB,zC,zD,zE,zF]
      refine wpAnyH_done (by kernel_rfl) ?_ _
      refine NoPanic.normal ?_
      go_wp2_with fail
      go_meet
      case rel=>exact ⟨yX,KC,kc2,rfl,by omega,by omega,kb,Lib.hid ⟨_,_,rfl,OJ.out.lower (by omega),HMr.out.below HX.out⟩,k4.next HX.out,k6.next HX.out,Lib.hid (HBr.out.below HX.out),Lib.hid (bgo hB HX.out)⟩
    ·skip
     try simp only[zA,zB,zC]
     (go_simp;have hq:=bbox (Below.refl _ wq) (.cells #[.slice none 0 0,.slice none 0 0] tAs);have HX:=Lib.hid (bgo HW.out hq))
     refine hK.out _ _ (⟨(k3.next HX.out).cell,(k8.next HX.out).cell⟩) ?_
     clear hHeld hK K
     intro hHeld
     try simp only[Act.put,zA,zB,zC,zD,zE,zF]
     have kX:=Blk.new wq tAs #[.slice none 0 0,.slice none 0 0]
     have hlz:wq.heap.size<(wq.alloc (.cells #[.slice none 0 0,.slice none 0 0] tAs)).heap.size:=by simp
     obtain ⟨yX,hyX⟩:∃ y,y=wq.heap.size:=⟨_,rfl⟩
     have hyBX:VR.heap.size≤yX:=by have:=HW.out.size;omega
     try have hne:yE≠yX:=by omega
     try replace OI:=Lib.hid (OI.out.below hq)
     rw[←hyX] at kX hlz ⊢
     replace HW:=HX
     clear HX hq hyX
     generalize wq.alloc (.cells #[.slice none 0 0,.slice none 0 0] tAs)=wq at *
     refine rdc 0 rfl fun K hK=>?_
     try simp only[zA,zB,zC]
     (go_simp;have hq:=bbox (Below.refl _ wq) (.cells #[] tF);have HX:=Lib.hid (bgo HW.out hq))
     refine hK.out _ _ (⟨(k3.next HX.out).cell,(k8.next HX.out).cell⟩) ?_
     clear hHeld hK K
     intro hHeld
     try simp only[Act.put,zA,zB,zC,zD,zE,zF]
     have kE:=Blk.new wq tF #[]
     have hlz:wq.heap.size<(wq.alloc (.cells #[] tF)).heap.size:=by simp
     obtain ⟨yE,hyE⟩:∃ y,y=wq.heap.size:=⟨_,rfl⟩
     have hyBE:VR.heap.size≤yE:=by have:=HW.out.size;omega
     try have hne:yE≠yX:=by omega
     try replace kX:=kX.next hq
     rw[←hyE] at kE hlz ⊢
     have OI:Hid (FactsO (wq.alloc (.cells #[] tF)) VR.heap.size (.slice (some ⟨yE,0,none⟩) 0 0) []):=Lib.hid ⟨own_ofBlk kE hyBE,by simp[Lim]⟩
     clear kE
     replace HW:=HX
     clear HX hq hyE
     generalize wq.alloc (.cells #[] tF)=wq at *
     refine rdc 3 rfl fun K0 hK=>?_
     refine stepFL (base:=VR.heap.size) (v:=.slice (some ⟨yE,0,none⟩) 0 0) (xs:=[]) (ys:=a.facts) rfl _ _ rfl rfl OI.out rfl (FactsV.below HA1.out (bgo hB HW.out)) (by simp<;>omega) HW.out.size ?_
     intro KC kc2 wq2 oN hg hq
     have HX:=Lib.hid (HW.out.trans hq)
     replace kX:=kX.apart hg (fun e=>hne (Option.some.inj e).symm)
     rw[List.nil_append] at oN ⊢
     replace OI:=Lib.hid oN
     replace HW:=HX
     clear HX oN hg hq
     refine hK.out _ _ ⟨(k3.next HW.out).cell,(k8.next HW.out).cell⟩ ?_
     clear hHeld hK K0
     intro hHeld
     try simp only[Act.put,zA,zB,zC,zD,zE,zF]
     generalize wq2=wq at *
     refine tk 6 ?_ rfl (fun w hSw=>?_) hHeld ?_
     rotate_left
     ·((try dsimp only at hSw);go_split_ands;go_simp;(try with_reducible rfl))
     try simp only[Act.put,zA,zB,zC,zD,zE,zF]
     have hlb:=kX.lt
     have ql:=kX.cell
     have rl:=kX.frozen
     refine rdc 8 rfl fun K hK=>?_
     try simp only[zA,zB,zC]
     (go_simp;have kb:=(kX.set_ 0 (.slice KC a.facts.length kc2)).set_ 1 (.slice G M.length g);have OJ:=Lib.hid ((OI.out.setT kX (by decide) 0 (.slice KC a.facts.length kc2)).setT (kX.set_ 0 (.slice KC a.facts.length kc2)) (by decide) 1 (.slice G M.length g));have HX:=Lib.hid ((HW.out.setCell (p:=⟨yX,0,none⟩) (by simp only;omega) (.slice KC a.facts.length kc2)).setCell (p:=⟨yX,1,none⟩) (by simp only;omega) (.slice G M.length g)))
     refine hK.out _ _ (⟨(k3.next HX.out).cell,(k8.next HX.out).cell⟩) ?_
     clear hHeld hK K
     intro hHeld
     try simp only[Act.put,zA,zB,zC,zD,zE,zF]
     refine wpAnyH_done (by kernel_rfl) ?_ _
     refine NoPanic.normal ?_
     go_wp2_with fail
     go_meet
     case rel=>exact ⟨yX,KC,kc2,rfl,by omega,by omega,kb,Lib.hid ⟨_,_,rfl,OJ.out.lower (by omega),HMr.out.below HX.out⟩,k4.next HX.out,k6.next HX.out,Lib.hid (HBr.out.below HX.out),Lib.hid (bgo hB HX.out)⟩
   case rest=>
    obtain ⟨z,F1,f1,rfl,hz2,hzg,kz,HO,k4,k6,HBf,HBc⟩:=hcut
    (replace qkz:=kz.cell;replace rkz:=kz.frozen;replace lkz:=kz.lt;replace qk4:=k4.cell;replace rk4:=k4.frozen;replace lk4:=k4.lt;replace qk6:=k6.cell;replace rk6:=k6.frozen;replace lk6:=k6.lt)
    have HFE:=Lib.hid (show forgetL K k.changes ⟨a.facts,M⟩=forgetL K (k.changes.drop 0) ⟨a.facts,M⟩ from rfl)
    go_wp2_with fail
    go_loopw [14] (fun i wr=>∃ (j:Nat) (r:Asn) (F2:Option Addr) (f2:Nat) (G2:Option Addr) (g2:Nat),j≤k.changes.length∧i=.int .i64 j∧Hid (forgetL K k.changes ⟨a.facts,M⟩=forgetL K (k.changes.drop j) r)∧Hid (r.valid=true)∧Blk wr z tAs #[.slice F2 r.facts.length f2,.slice G2 r.atoms.length g2]∧Hid (AsnO wr w.heap.size (.agg #[.slice F2 r.facts.length f2,.slice G2 r.atoms.length g2]) r)∧Blk wr (w.heap.size+1) tCt #[.slice B1 k.pre.facts.length d1,.slice B2 k.pre.atoms.length d2,.slice B3 k.post.facts.length d3,.slice B4 k.post.atoms.length d4,.slice B5 k.changes.length d5]∧Blk wr (w.heap.size+1+1) tAs #[.slice none 0 0,.slice none 0 0]∧Hid (BoolsO wr w.heap.size (.slice (some ⟨gB,0,none⟩) 9 cb) (flagsOf K))∧Hid (Below w.heap.size w wr)) (fun i _=>k.changes.length - (intOf i).toNat)
    case atStart=>exact ⟨0,⟨a.facts,M⟩,F1,f1,G,g,Nat.zero_le _,rfl,HFE,HR0,kz,HO,k4,k6,HBf,HBc⟩
    case round=>
     clear HFE HR0 kz HO k4 k6 HBf HBc qk4 rk4 lk4 qk6 rk6 lk6 qkz rkz lkz hB HBr HMr k3 k8
     obtain ⟨j,r,F2,f2,G2,g2,hj,rfl,HFE,HRV,kz,HO,k4,k6,HBf,hB⟩:=hrel
     replace hB:=hB.out
     (replace qkz:=kz.cell;replace rkz:=kz.frozen;replace lkz:=kz.lt;replace qk4:=k4.cell;replace rk4:=k4.frozen;replace lk4:=k4.lt;replace qk6:=k6.cell;replace rk6:=k6.frozen;replace lk6:=k6.lt)
     by_cases hlt:j<k.changes.length
     ·obtain ⟨b,off,rfl,c0⟩:=(P5.out.below hB).at hlt
      have hbl:=block_lt_of_cell c0
      have hji:(j:Int)<(k.changes.length:Int):=by omega
      have HXT:=Lib.hid (HX.out _ (List.getElem_mem hlt))
      have HST:=Lib.hid (forgetL_step (K:=K) hlt r)
      obtain ⟨x,hx⟩:∃ x,x=k.changes[j]:=⟨_,rfl⟩
      rw[←hx] at c0 HXT HST
      clear hx
      have pc:Pt wr ⟨b,off+j,none⟩ (.int .i64 x):=⟨c0,hbl⟩
      clear c0 hbl
      go_upto_region 16 with fail
      clear qk4 rk4 lk4 qk6 rk6 lk6 qkz rkz lkz
      go_cut [15,16,17] (fun s15 s16 s17 wc=>∃ (x5:Nat) (r2:Asn) (F3:Option Addr) (f3:Nat) (G3:Option Addr) (g3:Nat) (p:Int),s15=.pointer (some ⟨x5,0,none⟩)∧s17=.bool (forgetF r x K).isSome∧w.heap.size+1+1<x5∧x5≠z∧Blk wc x5 tAs #[.slice F3 r2.facts.length f3,.slice G3 r2.atoms.length g3]∧Hid (∀ q,forgetF r x K=some q→q=(r2,p))∧Hid (AsnO wc w.heap.size (.agg #[.slice F3 r2.facts.length f3,.slice G3 r2.atoms.length g3]) r2)∧Blk wc z tAs #[.slice F2 r.facts.length f2,.slice G2 r.atoms.length g2]∧Blk wc (w.heap.size+1) tCt #[.slice B1 k.pre.facts.length d1,.slice B2 k.pre.atoms.length d2,.slice B3 k.post.facts.length d3,.slice B4 k.post.atoms.length d4,.slice (some ⟨b,off,none⟩) k.changes.length d5]∧Blk wc (w.heap.size+1+1) tAs #[.slice none 0 0,.slice none 0 0]∧Hid (BoolsO wc w.heap.size (.slice (some ⟨gB,0,none⟩) 9 cb) (flagsOf K))∧Hid (Below w.heap.size w wc))
      case first=>
       (replace qkz:=kz.cell;replace rkz:=kz.frozen;replace lkz:=kz.lt;replace qk4:=k4.cell;replace rk4:=k4.frozen;replace lk4:=k4.lt;replace qk6:=k6.cell;replace rk6:=k6.frozen;replace lk6:=k6.lt)
       go_wp2_with fail
       clear qk4 rk4 lk4 qk6 rk6 lk6 qkz rkz lkz
       refine wp_region_noPanic ?_
       refine wp_region_held_drew (S:=(fun w'=>(∀ i,w'.cell? ⟨z,i,none⟩=#[.slice F2 r.facts.length f2,.slice G2 r.atoms.length g2][i]?)∧(∀ i,w'.cell? ⟨w.heap.size+1,i,none⟩=#[.slice B1 k.pre.facts.length d1,.slice B2 k.pre.atoms.length d2,.slice B3 k.post.facts.length d3,.slice B4 k.post.atoms.length d4,.slice (some ⟨b,off,none⟩) k.changes.length d5][i]?)∧(∀ i,w'.cell? ⟨w.heap.size+1+1,i,none⟩=#[.slice none 0 0,.slice none 0 0][i]?)∧w'.cell? ⟨b,off+j,none⟩=some (.int .i64 x))) (by kernel_rfl) (⟨kz.drew.cell,k4.drew.cell,k6.drew.cell,(pc.next (Below.refl _ _).drew).cell⟩) (fun hHeld=>?_)
       have hdr:Below wr.heap.size wr wr.drew:=(Below.refl _ _).drew
       replace kz:=kz.next hdr
       replace k4:=k4.next hdr
       replace k6:=k6.next hdr
       replace pc:=pc.next hdr
       replace HO:=Lib.hid (HO.out.below hdr)
       replace HBf:=Lib.hid (HBf.out.below hdr)
       replace hB:=bgo hB hdr
       clear hdr
       generalize wr.drew=V8 at *
       have hz7:=kz.lt
       have hz8:=k6.lt
       have hb8:b<V8.heap.size:=pc.lt
       refine tk 0 ?_ rfl (fun w hSw=>?_) hHeld ?_
       rotate_left
       ·((try dsimp only at hSw);go_split_ands;go_simp;(try with_reducible rfl))
       try simp only[Act.put,zA,zB,zC,zD,zE,zF]
       refine tk 1 ?_ rfl (fun w hSw=>?_) hHeld ?_
       rotate_left
       ·((try dsimp only at hSw);go_split_ands;go_simp;(try with_reducible rfl))
       try simp only[Act.put,zA,zB,zC,zD,zE,zF]
       refine tk 2 ?_ rfl (fun w hSw=>?_) hHeld ?_
       rotate_left
       ·((try dsimp only at hSw);go_split_ands;go_simp;(try with_reducible rfl))
       try simp only[Act.put,zA,zB,zC,zD,zE,zF]
       refine tk 3 ?_ rfl (fun w hSw=>?_) hHeld ?_
       rotate_left
       ·((try dsimp only at hSw);go_split_ands;go_simp;(try with_reducible rfl))
       try simp only[Act.put,zA,zB,zC,zD,zE,zF]
       refine tk 4 ?_ rfl (fun w hSw=>?_) hHeld ?_
       rotate_left
       ·((try dsimp only at hSw);go_split_ands;go_simp;(try with_reducible rfl))
       try simp only[Act.put,zA,zB,zC,zD,zE,zF]
       refine tk 5 ?_ rfl (fun w hSw=>?_) hHeld ?_
       rotate_left
       ·((try dsimp only at hSw);go_split_ands;go_simp;(try with_reducible rfl))
       try simp only[Act.put,zA,zB,zC,zD,zE,zF]
       refine tk 6 ?_ rfl (fun w hSw=>?_) hHeld ?_
       rotate_left
       ·((try dsimp only at hSw);go_split_ands;go_simp;(try with_reducible rfl))
       try simp only[Act.put,zA,zB,zC,zD,zE,zF]
       refine wpAnyH_ready (rs:=[7,12]) (by kernel_rfl) (by simp) (AllReadyH.cons rfl (fun K hK=>?_) (AllReadyH.cons rfl (fun K hK=>?_) AllReadyH.nil))
       ·try simp only[zA,zB,zC]
        (go_simp;refine (c_l10ForgetO _ r x (some ⟨gB,0,none⟩) cb _ _ HO.out hB.size HBf.out.readsI9 HRV.out HXT.out).mono ?_;rintro e w9 ⟨F3,f3,G3,g3,r2,p,rfl,o9,-,-,hq9,hq⟩;have HJ:=Lib.hid o9;have HQ9:=Lib.hid hq9;clear o9 hq9;have hs9:=hq.size;(try simp only[World.size_alloc] at hs9);replace kz:=kz.next hq;replace k4:=k4.next hq;replace k6:=k6.next hq;replace pc:=pc.next hq;replace HO:=Lib.hid (HO.out.below hq);replace HBf:=Lib.hid (HBf.out.below hq);replace hB:=bgo hB hq;clear hq)
        refine hK.out _ _ (⟨kz.cell,k4.cell,k6.cell,pc.cell⟩) ?_
        clear hHeld hK K
        intro hHeld
        try simp only[Act.put,zA,zB,zC,zD,zE,zF]
        refine tk 8 ?_ rfl (fun w hSw=>?_) hHeld ?_
        rotate_left
        ·((try dsimp only at hSw);go_split_ands;go_simp;(try with_reducible rfl))
        try simp only[Act.put,zA,zB,zC,zD,zE,zF]
        refine tk 9 ?_ rfl (fun w hSw=>?_) hHeld ?_
        rotate_left
        ·((try dsimp only at hSw);go_split_ands;go_simp;(try with_reducible rfl))
        try simp only[Act.put,zA,zB,zC,zD,zE,zF]
        refine tk 10 ?_ rfl (fun w hSw=>?_) hHeld ?_
        rotate_left
        ·((try dsimp only at hSw);go_split_ands;go_simp;(try with_reducible rfl))
        try simp only[Act.put,zA,zB,zC,zD,zE,zF]
        refine tk 11 ?_ rfl (fun w hSw=>?_) hHeld ?_
        rotate_left
        ·((try dsimp only at hSw);go_split_ands;go_simp;(try with_reducible rfl))
        try simp only[Act.put,zA,zB,zC,zD,zE,zF]
        refine rdc 12 rfl fun K hK=>?_
        try simp only[zA,zB,zC]
        go_simp
        refine hK.out _ _ (⟨(kz.alloc (.cells #[.slice none 0 0,.slice none 0 0] tAs)).cell,(k4.alloc (.cells #[.slice none 0 0,.slice none 0 0] tAs)).cell,(k6.alloc (.cells #[.slice none 0 0,.slice none 0 0] tAs)).cell,(pc.alloc (.cells #[.slice none 0 0,.slice none 0 0] tAs)).cell⟩) ?_
        clear hHeld hK K
        intro hHeld
        try simp only[Act.put,zA,zB,zC,zD,zE,zF]
        refine rdc 13 rfl fun K hK=>?_
        try simp only[zA,zB,zC]
        (go_simp;have hq:=bbox (Below.refl _ w9) (.cells #[.slice F3 r2.facts.length f3,.slice G3 r2.atoms.length g3] tAs);have kb:=Blk.new w9 tAs #[.slice F3 r2.facts.length f3,.slice G3 r2.atoms.length g3];replace kz:=kz.next hq;replace k4:=k4.next hq;replace k6:=k6.next hq;replace pc:=pc.next hq;replace HO:=Lib.hid (HO.out.below hq);replace HBf:=Lib.hid (HBf.out.below hq);replace HJ:=Lib.hid (HJ.out.below hq);replace hB:=bgo hB hq;clear hq)
        refine hK.out _ _ (⟨kz.cell,k4.cell,k6.cell,pc.cell⟩) ?_
        clear hHeld hK K
        intro hHeld
        try simp only[Act.put,zA,zB,zC,zD,zE,zF]
        refine tk 14 ?_ rfl (fun w hSw=>?_) hHeld ?_
        rotate_left
        ·((try dsimp only at hSw);go_split_ands;go_simp;(try with_reducible rfl))
        try simp only[Act.put,zA,zB,zC,zD,zE,zF]
        refine tk 15 ?_ rfl (fun w hSw=>?_) hHeld ?_
        rotate_left
        ·((try dsimp only at hSw);go_split_ands;go_simp;(try with_reducible rfl))
        try simp only[Act.put,zA,zB,zC,zD,zE,zF]
        refine wpAnyH_done (by kernel_rfl) ?_ _
        refine NoPanic.normal ?_
        go_wp2_with fail
        go_meet
        case rel=>exact ⟨w9.heap.size,r2,F3,f3,G3,g3,p,rfl,rfl,by omega,by omega,kb,HQ9,HJ,kz,k4,k6,HBf,Lib.hid hB⟩
       ·try simp only[zA,zB,zC]
        (go_simp;have hq:=bbox (Below.refl _ V8) (.cells #[.slice none 0 0,.slice none 0 0] tAs);replace kz:=kz.next hq;replace k4:=k4.next hq;replace k6:=k6.next hq;replace pc:=pc.next hq;replace HO:=Lib.hid (HO.out.below hq);replace HBf:=Lib.hid (HBf.out.below hq);replace hB:=bgo hB hq;clear hq)
        refine hK.out _ _ (⟨kz.cell,k4.cell,k6.cell,pc.cell⟩) ?_
        clear hHeld hK K
        intro hHeld
        try simp only[Act.put,zA,zB,zC,zD,zE,zF]
        have kb:=Blk.new V8 tAs #[.slice none 0 0,.slice none 0 0]
        have hlz:w.heap.size≤V8.heap.size:=by first|exact Nat.le_refl _|exact hB.size|(have:=hB.size;simp at this;omega)
        refine rdc 7 rfl fun K hK=>?_
        try simp only[zA,zB,zC]
        (go_simp;refine (c_l10ForgetO _ r x (some ⟨gB,0,none⟩) cb _ _ HO.out hB.size HBf.out.readsI9 HRV.out HXT.out).mono ?_;rintro e w9 ⟨F3,f3,G3,g3,r2,p,rfl,o9,-,-,hq9,hq⟩;have HJ:=Lib.hid o9;have HQ9:=Lib.hid hq9;clear o9 hq9;have hs9:=hq.size;(try simp only[World.size_alloc] at hs9);replace kz:=kz.next hq;replace k4:=k4.next hq;replace k6:=k6.next hq;replace pc:=pc.next hq;replace kb:=kb.next hq;replace HO:=Lib.hid (HO.out.below hq);replace HBf:=Lib.hid (HBf.out.below hq);replace hB:=bgo hB hq;clear hq)
        refine hK.out _ _ (⟨kz.cell,k4.cell,k6.cell,pc.cell⟩) ?_
        clear hHeld hK K
        intro hHeld
        try simp only[Act.put,zA,zB,zC,zD,zE,zF]
        refine tk 8 ?_ rfl (fun w hSw=>?_) hHeld ?_
        rotate_left
        ·((try dsimp only at hSw);go_split_ands;go_simp;(try with_reducible rfl))
        try simp only[Act.put,zA,zB,zC,zD,zE,zF]
        refine tk 9 ?_ rfl (fun w hSw=>?_) hHeld ?_
        rotate_left
        ·((try dsimp only at hSw);go_split_ands;go_simp;(try with_reducible rfl))
        try simp only[Act.put,zA,zB,zC,zD,zE,zF]
        refine tk 10 ?_ rfl (fun w hSw=>?_) hHeld ?_
        rotate_left
        ·((try dsimp only at hSw);go_split_ands;go_simp;(try with_reducible rfl))
        try simp only[Act.put,zA,zB,zC,zD,zE,zF]
        refine tk 11 ?_ rfl (fun w hSw=>?_) hHeld ?_
        rotate_left
        ·((try dsimp only at hSw);go_split_ands;go_simp;(try with_reducible rfl))
        try simp only[Act.put,zA,zB,zC,zD,zE,zF]
        have hlb:=kb.lt
        have ql:=kb.cell
        have rl:=kb.frozen
        have hn0:z≠V8.heap.size:=by omega
        have hn1:w.heap.size+1≠V8.heap.size:=by omega
        have hn2:w.heap.size+1+1≠V8.heap.size:=by omega
        have hn3:b≠V8.heap.size:=by omega
        refine rdc 13 rfl fun K hK=>?_
        try simp only[zA,zB,zC]
        (go_simp;replace kz:=(kz.far (p:=⟨V8.heap.size,0,none⟩) (fun e=>hn0 e) (.slice F3 r2.facts.length f3)).far (p:=⟨V8.heap.size,1,none⟩) (fun e=>hn0 e) (.slice G3 r2.atoms.length g3);replace k4:=(k4.far (p:=⟨V8.heap.size,0,none⟩) (fun e=>hn1 e) (.slice F3 r2.facts.length f3)).far (p:=⟨V8.heap.size,1,none⟩) (fun e=>hn1 e) (.slice G3 r2.atoms.length g3);replace k6:=(k6.far (p:=⟨V8.heap.size,0,none⟩) (fun e=>hn2 e) (.slice F3 r2.facts.length f3)).far (p:=⟨V8.heap.size,1,none⟩) (fun e=>hn2 e) (.slice G3 r2.atoms.length g3);replace pc:=(pc.far (p:=⟨V8.heap.size,0,none⟩) (fun e=>hn3 e) (.slice F3 r2.facts.length f3)).far (p:=⟨V8.heap.size,1,none⟩) (fun e=>hn3 e) (.slice G3 r2.atoms.length g3);replace hB:=(hB.setCell (p:=⟨V8.heap.size,0,none⟩) (by simp only;omega) (.slice F3 r2.facts.length f3)).setCell (p:=⟨V8.heap.size,1,none⟩) (by simp only;omega) (.slice G3 r2.atoms.length g3);replace HO:=Lib.hid (AsnO.setT2 HO.out kb (.slice F3 r2.facts.length f3) (.slice G3 r2.atoms.length g3));replace HJ:=Lib.hid (AsnO.setT2 HJ.out kb (.slice F3 r2.facts.length f3) (.slice G3 r2.atoms.length g3));replace HBf:=Lib.hid ((HBf.out.setT1 kb (by decide) 0 (.slice F3 r2.facts.length f3)).setT1 (kb.set_ 0 (.slice F3 r2.facts.length f3)) (by decide) 1 (.slice G3 r2.atoms.length g3));replace kb:=(kb.set_ 0 (.slice F3 r2.facts.length f3)).set_ 1 (.slice G3 r2.atoms.length g3))
        refine hK.out _ _ (⟨kz.cell,k4.cell,k6.cell,pc.cell⟩) ?_
        clear hHeld hK K
        intro hHeld
        try simp only[Act.put,zA,zB,zC,zD,zE,zF]
        refine tk 14 ?_ rfl (fun w hSw=>?_) hHeld ?_
        rotate_left
        ·((try dsimp only at hSw);go_split_ands;go_simp;(try with_reducible rfl))
        try simp only[Act.put,zA,zB,zC,zD,zE,zF]
        refine tk 15 ?_ rfl (fun w hSw=>?_) hHeld ?_
        rotate_left
        ·((try dsimp only at hSw);go_split_ands;go_simp;(try with_reducible rfl))
        try simp only[Act.put,zA,zB,zC,zD,zE,zF]
        refine wpAnyH_done (by kernel_rfl) ?_ _
        refine NoPanic.normal ?_
        go_wp2_with fail
        go_meet
        case rel=>exact ⟨V8.heap.size,r2,F3,f3,G3,g3,p,rfl,rfl,by omega,by omega,kb,HQ9,HJ,kz,k4,k6,HBf,Lib.hid hB⟩
      case rest=>
       obtain ⟨x5,r2,F3,f3,G3,g3,p,rfl,rfl,hx5,hx5z,k5,HQ9,HJ,kz,k4,k6,HBf,hBc⟩:=hcut
       clear hB HO pc
       (replace qkz:=kz.cell;replace rkz:=kz.frozen;replace lkz:=kz.lt;replace qk4:=k4.cell;replace rk4:=k4.frozen;replace lk4:=k4.lt;replace qk6:=k6.cell;replace rk6:=k6.frozen;replace lk6:=k6.lt;replace qk5:=k5.cell;replace rk5:=k5.frozen;replace lk5:=k5.lt)
       cases hf:forgetF r x K with
       | none=>
        have E2:Hid (callF a k ks=none):=Lib.hid (by rw[E.out,HFE.out,HST.out,hf];rfl)
        simp only[Option.isSome_none]
        clear hf HST HFE HQ9
        have hBx:=hBc.out
        go_wp2_with fail
        refine bodyPost_ret (v:=.tuple #[.agg #[.slice none 0 0,.slice none 0 0],.bool false]) (by simp[results,Tryz.results12,go_sem,qk6,lk6]) rfl ⟨_,by rw[E2.out];rfl,by rw[E2.out];exact AsnO.zero _ _,bel⟩
       | some q=>
        obtain rfl:=HQ9.out q hf
        have HF2:Hid (forgetL K k.changes ⟨a.facts,M⟩=forgetL K (k.changes.drop (j+1)) r2):=Lib.hid (by rw[HFE.out,HST.out,hf];rfl)
        have HRV2:=Lib.hid (forgetF_valid HRV.out hf)
        simp only[Option.isSome_some]
        clear hf HST HFE HQ9
        have hBx:=hBc.out
        go_wp2_with fail
        go_round
        case rel=>
         refine ⟨j+1,r2,F3,f3,G3,g3,by omega,by go_num,HF2,HRV2,by simpa using (kz.set_ 0 (.slice F3 r2.facts.length f3)).set_ 1 (.slice G3 r2.atoms.length g3),Lib.hid (AsnO.setT2 HJ.out kz _ _),(k4.far (by simp only;omega) _).far (by simp only;omega) _,(k6.far (by simp only;omega) _).far (by simp only;omega) _,Lib.hid ((HBf.out.setT1 kz (by decide) 0 _).setT1 (kz.set_ 0 _) (by decide) 1 _),Lib.hid ((hBx.setCell (p:=⟨z,0,none⟩) (by simp only;omega) _).setCell (p:=⟨z,1,none⟩) (by simp only;omega) _)⟩
        case measure=>simp[intOf];omega
     ·obtain rfl:j=k.changes.length:=by omega
      have E2:Hid (callF a k ks=okX (postX k r)):=Lib.hid (by rw[E.out,HFE.out,List.drop_length];rfl)
      have hrl:=valid_len HRV.out
      clear HFE HBf
      go_wp2_with fail
      refine (c_spec_l3Star _ (.agg #[.slice none 0 0,.slice none 0 0]) r ⟨[],[]⟩ _ HO.out.reads ⟨none,0,none,0,rfl,Rd.nil _ 0 0 _ _,Rd.nil _ 0 0 _ _⟩ (by simp;omega) (by simp;omega)).mono ?_
      rintro e w20 ⟨r20,rfl,o20,hB20⟩
      rw[show starA r ⟨[],[]⟩=r from by simp[starA]] at o20
      obtain ⟨F6,f6,G6,g6,rfl⟩:=o20.I.form
      have hs20:=hB20.size
      obtain ⟨of6,-⟩:=AsnO.pr o20
      obtain ⟨-,oa2⟩:=AsnO.pr HO.out
      have k18:=Blk.new w20 tAs #[.slice F6 r.facts.length f6,.slice G6 r.atoms.length g6]
      have hbx:=bbox (Below.refl _ w20) (.cells #[.slice F6 r.facts.length f6,.slice G6 r.atoms.length g6] tAs)
      have hBB:=bgo hB20 hbx
      have HAV:=Lib.hid (AtomsV.below (AtomsO.readsI oa2).2 hBB)
      go_upto_region 21 with fail
      obtain ⟨q8,hq8⟩:∃ q,q=w20.heap.size:=⟨_,rfl⟩
      have hne8:some q8=(Value.slice F6 r.facts.length f6).ownBlock→False:=fun e=>by have:=(of6.1.lt q8 e.symm).2;omega
      have HNE:=Lib.hid hne8
      have OF:=Lib.hid (of6.below hbx)
      have hq8b:wr.heap.size≤q8:=by omega
      have hw8:=hB.size
      have hz8:=k6.lt
      have hz9:=kz.lt
      rw[←hq8] at k18 ⊢
      clear hq8 o20 of6 oa2 hB20 hbx hne8 qk4 rk4 lk4 qk6 rk6 lk6 qkz rkz lkz HO
      replace k4:=k4.next hBB
      replace k6:=k6.next hBB
      replace kz:=kz.next hBB
      replace hB:=bgo hB hBB
      have hVW:=hBB.size
      generalize (w20.alloc (.cells #[.slice F6 r.facts.length f6,.slice G6 r.atoms.length g6] _))=VW at *
      have lz8:=k6.lt
      clear hBB
      (replace qk4:=k4.cell;replace rk4:=k4.frozen;replace lk4:=k4.lt;replace qk6:=k6.cell;replace rk6:=k6.frozen;replace lk6:=k6.lt;replace qkz:=kz.cell;replace rkz:=kz.frozen;replace lkz:=kz.lt;replace qk18:=k18.cell;replace rk18:=k18.frozen;replace lk18:=k18.lt)
      go_upto_region 22 with (at_builtin;refine appFL (xs:=r.facts) (ys:=k.post.facts) (base:=wr.heap.size) (v:=.slice F6 r.facts.length f6) rfl _ _ rfl rfl OF.out rfl (Q3.out.below hB) (by omega) hVW ?_;intro A7 d7 w21 o7 hg7 hB7;replace k18:=k18.apart hg7 HNE.out;replace k4:=k4.below hB7 (by omega);replace k6:=k6.below hB7 (by omega);replace kz:=kz.below hB7 (by omega);replace HAV:=Lib.hid (Rd.keepB HAV.out hB7 (Nat.le_refl _));replace hB:=hB.trans (hB7.mono (by omega));have O7:=Lib.hid o7;clear o7 hg7 HNE OF;(replace qk4:=k4.cell;replace rk4:=k4.frozen;replace lk4:=k4.lt;replace qk6:=k6.cell;replace rk6:=k6.frozen;replace lk6:=k6.lt;replace qkz:=kz.cell;replace rkz:=kz.frozen;replace lkz:=kz.lt;replace qk18:=k18.cell;replace rk18:=k18.frozen;replace lk18:=k18.lt))
      have hBs:Below wr.heap.size w21 (w21.setCell ⟨q8,0,none⟩ (.slice A7 (r.facts.length+k.post.facts.length) d7)):=(Below.refl _ _).setCell (p:=⟨q8,0,none⟩) hq8b _
      rw[List.length_append] at O7
      replace O7:=Lib.hid (O7.out.setT k18 (by decide) 0 (.slice A7 (r.facts.length+k.post.facts.length) d7))
      replace k18:=k18.set_ 0 (.slice A7 (r.facts.length+k.post.facts.length) d7)
      replace k4:=k4.below hBs (by omega)
      replace k6:=k6.below hBs (by omega)
      replace kz:=kz.below hBs (by omega)
      replace HAV:=Lib.hid (Rd.keepB HAV.out hBs (Nat.le_refl _))
      replace hB:=hB.trans (hBs.mono (by omega))
      have hzV:wr.heap.size≤w21.heap.size:=Nat.le_trans hVW hB7.size
      replace hzV:=Nat.le_trans hzV hBs.size
      clear hBs hB7 hVW qk4 rk4 lk4 qk6 rk6 lk6 qkz rkz lkz qk18 rk18 lk18
      generalize (w21.setCell ⟨q8,0,none⟩ (.slice A7 (r.facts.length+k.post.facts.length) d7))=VZ at *
      have hq8v:q8<VZ.heap.size:=k18.lt
      go_wp2_with fail
      refine wp_region_noPanic ?_
      refine wp_region_held_drew (S:=(fun w'=>(∀ i,w'.cell? ⟨w.heap.size+1,i,none⟩=#[.slice B1 k.pre.facts.length d1,.slice B2 k.pre.atoms.length d2,.slice B3 k.post.facts.length d3,.slice B4 k.post.atoms.length d4,.slice B5 k.changes.length d5][i]?)∧(∀ i,w'.cell? ⟨z,i,none⟩=#[.slice F2 r.facts.length f2,.slice G2 r.atoms.length g2][i]?))) (by kernel_rfl) (⟨k4.drew.cell,kz.drew.cell⟩) (fun hHeld=>?_)
      have HW:=Lib.hid ((Below.refl VZ.heap.size VZ).drew)
      generalize VZ.drew=wq at *
      refine tk 1 ?_ rfl (fun w hSw=>?_) hHeld ?_
      rotate_left
      ·((try dsimp only at hSw);go_split_ands;go_simp;(try with_reducible rfl))
      try simp only[Act.put,zA,zB,zC,zD,zE,zF]
      refine tk 2 ?_ rfl (fun w hSw=>?_) hHeld ?_
      rotate_left
      ·((try dsimp only at hSw);go_split_ands;go_simp;(try with_reducible rfl))
      try simp only[Act.put,zA,zB,zC,zD,zE,zF]
      refine tk 3 ?_ rfl (fun w hSw=>?_) hHeld ?_
      rotate_left
      ·((try dsimp only at hSw);go_split_ands;go_simp;(try with_reducible rfl))
      try simp only[Act.put,zA,zB,zC,zD,zE,zF]
      refine tk 5 ?_ rfl (fun w hSw=>?_) hHeld ?_
      rotate_left
      ·((try dsimp only at hSw);go_split_ands;go_simp;(try with_reducible rfl))
      try simp only[Act.put,zA,zB,zC,zD,zE,zF]
      refine tk 6 ?_ rfl (fun w hSw=>?_) hHeld ?_
      rotate_left
      ·((try dsimp only at hSw);go_split_ands;go_simp;(try with_reducible rfl))
      try simp only[Act.put,zA,zB,zC,zD,zE,zF]
      refine rdc 0 rfl fun K hK=>?_
      try simp only[zA,zB,zC]
      (go_simp;have hq:=bbox (Below.refl _ wq) (.cells #[] tA);have HX:=Lib.hid (bgo HW.out hq))
      refine hK.out _ _ (⟨(k4.next HX.out).cell,(kz.next HX.out).cell⟩) ?_
      clear hHeld hK K
      intro hHeld
      try simp only[Act.put,zA,zB,zC,zD,zE,zF]
      have kE:=Blk.new wq tA #[]
      obtain ⟨yE,hyE⟩:∃ y,y=wq.heap.size:=⟨_,rfl⟩
      have hyBE:VZ.heap.size≤yE:=by have:=HW.out.size;omega
      rw[←hyE] at kE ⊢
      have OI:Hid (AtomsO (wq.alloc (.cells #[] tA)) VZ.heap.size (.slice (some ⟨yE,0,none⟩) 0 0) []):=Lib.hid ⟨own_ofBlk kE hyBE,by simp[Lim]⟩
      replace HW:=HX
      clear kE HX hq hyE
      generalize wq.alloc (.cells #[] tA)=wq at *
      refine rdc 4 rfl fun K0 hK=>?_
      refine stepAL (base:=VZ.heap.size) (v:=.slice (some ⟨yE,0,none⟩) 0 0) (xs:=[]) (ys:=k.post.atoms) rfl _ _ rfl rfl OI.out rfl (AtomsV.below Q4.out (bgo hB HW.out)) (by simp<;>omega) HW.out.size ?_
      intro KB kb2 wq2 oN hg hq
      have HX:=Lib.hid (HW.out.trans hq)
      rw[List.nil_append] at oN ⊢
      replace OI:=Lib.hid oN
      replace HW:=HX
      clear HX oN hg hq
      refine hK.out _ _ ⟨(k4.next HW.out).cell,(kz.next HW.out).cell⟩ ?_
      clear hHeld hK K0
      intro hHeld
      try simp only[Act.put,zA,zB,zC,zD,zE,zF]
      generalize wq2=wq at *
      refine rdc 7 rfl fun K0 hK=>?_
      refine stepAL (base:=VZ.heap.size) (v:=.slice KB k.post.atoms.length kb2) (xs:=k.post.atoms) (ys:=r.atoms) rfl _ _ rfl rfl OI.out rfl (AtomsV.below HAV.out HW.out) (by omega) HW.out.size ?_
      intro KC kc2 wq2 oN hg hq
      have HX:=Lib.hid (HW.out.trans hq)
      rw[List.length_append] at oN ⊢
      replace OI:=Lib.hid oN
      replace HW:=HX
      clear HX oN hg hq
      refine hK.out _ _ ⟨(k4.next HW.out).cell,(kz.next HW.out).cell⟩ ?_
      clear hHeld hK K0
      intro hHeld
      try simp only[Act.put,zA,zB,zC,zD,zE,zF]
      generalize wq2=wq at *
      refine tk 8 ?_ rfl (fun w hSw=>?_) hHeld ?_
      rotate_left
      ·((try dsimp only at hSw);go_split_ands;go_simp;(try with_reducible rfl))
      try simp only[Act.put,zA,zB,zC,zD,zE,zF]
      have kq:=k18.next HW.out
      have lq:=kq.lt
      have qq:=kq.cell
      have rq:=kq.frozen
      have kw4:=(k4.next HW.out).far (p:=⟨q8,1,none⟩) (by simp only;omega) (.slice KC (k.post.atoms.length+r.atoms.length) kc2)
      have kwz:=(kz.next HW.out).far (p:=⟨q8,1,none⟩) (by simp only;omega) (.slice KC (k.post.atoms.length+r.atoms.length) kc2)
      refine rdc 9 rfl fun K hK=>?_
      try simp only[zA,zB,zC]
      (go_simp)
      refine hK.out _ _ (⟨kw4.cell,kwz.cell⟩) ?_
      clear hHeld hK K
      intro hHeld
      try simp only[Act.put,zA,zB,zC,zD,zE,zF]
      refine wpAnyH_done (by kernel_rfl) ?_ _
      refine NoPanic.normal ?_
      have kx:=kq.set_ 1 (.slice KC (k.post.atoms.length+r.atoms.length) kc2)
      have k6x:=(k6.next HW.out).far (p:=⟨q8,1,none⟩) (by simp only;omega) (.slice KC (k.post.atoms.length+r.atoms.length) kc2)
      have HX9:Hid (AsnO (wq.setCell ⟨q8,1,none⟩ (.slice KC (k.post.atoms.length+r.atoms.length) kc2)) w.heap.size (.agg #[.slice A7 (r.facts.length+k.post.facts.length) d7,.slice KC (k.post.atoms.length+r.atoms.length) kc2]) (postX k r)):=Lib.hid ⟨_,_,rfl,((O7.out.below HW.out).setT kq (by decide) 1 _).lower (by omega),(OI.out.setT kq (by decide) 1 _).lower (by omega)⟩
      have HBx:=Lib.hid ((bgo hB HW.out).setCell (p:=⟨q8,1,none⟩) (by simp only;omega) (.slice KC (k.post.atoms.length+r.atoms.length) kc2))
      clear hB k4 k6 kz k18 kq lq qq rq kw4 kwz OI O7 HAV hHeld HW
      replace kx:Blk (wq.setCell ⟨q8,1,none⟩ (.slice KC (k.post.atoms.length+r.atoms.length) kc2)) q8 tAs #[.slice A7 (r.facts.length+k.post.facts.length) d7,.slice KC (k.post.atoms.length+r.atoms.length) kc2]:=kx
      generalize (wq.setCell ⟨q8,1,none⟩ (.slice KC (k.post.atoms.length+r.atoms.length) kc2))=WX at *
      have e1:r.facts.length+k.post.facts.length=(postX k r).facts.length:=by simp[postX]
      have e2:k.post.atoms.length+r.atoms.length=(postX k r).atoms.length:=by simp[postX]
      rw[e1,e2] at kx HX9
      clear e1 e2
      generalize postX k r=R at *
      (replace qkx:=kx.cell;replace rkx:=kx.frozen;replace lkx:=kx.lt;replace qk6x:=k6x.cell;replace rk6x:=k6x.frozen;replace lk6x:=k6x.lt)
      go_wp2_with fail
      refine (c_spec_AssertionValid _ R _ HX9.out.reads).mono ?_
      rintro e w30 ⟨rfl,hB30⟩
      have hBw:=bgo HBx.out hB30
      have HX30:=Lib.hid (HX9.out.below hB30)
      have kx10:=kx.next hB30
      have k610:=k6x.next hB30
      clear hB30 kx k6x qkx rkx lkx qk6x rk6x lk6x
      (replace qkx10:=kx10.cell;replace rkx10:=kx10.frozen;replace lkx10:=kx10.lt;replace qk610:=k610.cell;replace rk610:=k610.frozen;replace lk610:=k610.lt)
      cases hrv:R.valid
      ·have E3:Hid (callF a k ks=none):=Lib.hid (by rw[E2.out];unfold okX;rw[hrv];rfl)
       clear hrv
       go_wp2_with fail
       refine bodyPost_ret (v:=.tuple #[.agg #[.slice none 0 0,.slice none 0 0],.bool false]) (by simp[results,Tryz.results12,go_sem,qk610,lk610]) rfl ⟨_,by rw[E3.out];rfl,by rw[E3.out];exact AsnO.zero _ _,bel⟩
      ·have E3:Hid (callF a k ks=some R):=Lib.hid (by rw[E2.out];unfold okX;rw[hrv];rfl)
       clear hrv
       go_wp2_with fail
       refine bodyPost_ret (v:=.tuple #[.agg #[.slice A7 R.facts.length d7,.slice KC R.atoms.length kc2],.bool true]) (by simp[results,Tryz.results12,go_sem,qk610,lk610]) rfl ⟨_,by rw[E3.out];rfl,?_,bel⟩
       rw[E3.out]
       exact AsnO.setW HX30.out k610 _ _
end Go.Proofs.YtjjokmlmknllhaaGreat
