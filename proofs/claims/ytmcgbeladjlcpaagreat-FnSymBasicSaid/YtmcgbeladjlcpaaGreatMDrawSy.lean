/- Symbolic execution: spec.SymBasic. Printed by genSymU.py. -/
import Derived.Test.YtmcgbeladjlcpaaGreatMSymM
import Derived.Test.YtmcgbeladjlcpaaGreatMModO
import Derived.Deep.DeepCutAuto
import Derived.Test.YtmcgbeladjlcpaaGreatDrawQ
set_option linter.unusedSimpArgs false
set_option linter.unusedVariables false
set_option maxRecDepth 100000
set_option maxHeartbeats 25600000
namespace Go.Proofs.YtmcgbeladjlcpaaGreat
section
open Go Go.RowKit Go.Proofs
attribute [local go_sem ↓] Go.wp_at_zero Go.wp_at_succ
theorem IntsV.two {w:World} {g:Nat} {a b:Int} (h:Blk w g tI #[.int .i64 a,.int .i64 b]):IntsV w g (g+1) (some ⟨g,0,none⟩) [a,b]:=
 ⟨⟨by simp[encI],fun _=>⟨g,0,rfl,Nat.le_refl _,Nat.lt_succ_self _,fun j u hu=>by rw[Nat.zero_add,h.cell];simpa [encI] using hu⟩⟩,by simp[Lim]⟩
theorem keep_tset (ks:List Int) (A B:Int):tset (ks++[A,B])=keepK (tset ks) A B:=by
 unfold keepK tset
 rw[List.foldl_append];rfl
theorem keep_idem {S:Nat} {A B T:Int} (h:T=A∨T=B):tins (keepK S A B) T=keepK S A B:=by
 refine Nat.eq_of_testBit_eq fun n=>?_
 unfold keepK
 rw[tins_bit,tins_bit,tins_bit]
 rcases h with rfl|rfl
 ·generalize decide (isTermB T=true∧T=(n:Int))=x
  cases S.testBit n<;>cases x<;>simp
 ·generalize decide (isTermB T=true∧T=(n:Int))=x
  cases S.testBit n<;>cases x<;>simp
section
variable {w w':World} {b b':Nat} {v v':Value} {vs vs':List Value} {ss ss':List Asn}
theorem A2O.other (h:A2O w b v vs ss) (h':A2O w b' v' vs' ss') (hg:w.grownBy w' v'.ownBlock) (hne:∀ g,v'.ownBlock=some g→v.ownBlock≠some g):A2O w' b v vs ss:=by
 refine ⟨?_,h.lim,h.els.grown h'.row hg (by decide) (by decide)⟩
 rcases h.row.2 with h1|⟨g,cap,cur,rfl,hb,hk,hr⟩
 ·exact ⟨h.row.1,.inl h1⟩
 ·exact ⟨h.row.1,.inr ⟨g,cap,cur,rfl,hb,(hg.block g (Array.getElem?_eq_some_iff.1 hk).1 (fun e=>hne g e.symm rfl)).trans hk,hr⟩⟩
end
theorem own_new {R V V':Value} {n m:Nat} (h:∀ g,V.ownBlock=some g→R.ownBlock≠some g) (hR:∀ g,R.ownBlock=some g→g<n) (hv:V'.ownBlock=V.ownBlock∨V'.ownBlock=some m) (hm:n≤m):∀ g,V'.ownBlock=some g→R.ownBlock≠some g:=fun g hg hr=>by
 rcases hv with e|e
 ·exact h g (e.symm.trans hg) hr
 ·have e2:m=g:=Option.some.inj (e.symm.trans hg)
  have:=hR g hr
  omega
theorem Blk.apart {w w':World} {g:Nat} {t:TypeId} {cs:Array Value} {row:Option Nat} (h:Blk w g t cs) (hg:w.grownBy w' row) (hne:some g=row→False):Blk w' g t cs:=(hg.block g h.lt hne).trans h
theorem stepIL2 {ops:Array Oper} {o:Oper} {a:Act} {K:Act→World→Prop} {Q:Exit→Act→World→Prop} {E:Prop} {w:World} {base lo hi c:Nat} {v:Value} {A:Option Addr} (hgd:o.guard=none) (s x:Operand) (ho:o.op=.call { callee:=.builtin .append,args:=#[s,x],argTypes:=#[32,32] })
  {xs ys:List Int} (hs:a.eval s=v) (hown:IntsO w base v xs) (hx:a.eval x=.slice A ys.length c) (hR:IntsV w lo hi A ys) (hn:xs.length+ys.length≤1049600) (hb:base≤w.heap.size)
  (h:∀ A' c' w',IntsO w' base (.slice A' (xs++ys).length c') (xs++ys)→w.grownBy w' v.ownBlock→Below base w w'→K (a.put o.dst (.slice A' (xs++ys).length c')) w'):if Region.wanted o (yielded ops a.tmps)=true then Oper.wp Tryz.prog o a w K Q else E:=by
 have hw:Region.wanted o (yielded ops a.tmps)=true:=by simp[Region.wanted,hgd]
 rw[if_pos hw]
 refine wp_appL s x 32 ho Tryz.underlying32 infoI rfl (by decide) (by decide) hs hown.1 hx hR.raw (encI_one _) hn hb ?_
 intro v' w' h1 h2 h3
 have hO:IntsO w' base v' (xs++ys):=⟨by rw[List.length_append,show encI (xs++ys)=encI xs++encI ys from List.map_append];exact h1,by simp[Lim];omega⟩
 obtain ⟨A',c',rfl,-⟩:=hO.reads
 exact h A' c' w' hO h2 h3
section
variable {ops:Array Oper} {rest:List Oper} {o:Oper} {a:Act} {Q:Exit→Act→World→Prop} {w w0:World} {base mid:Nat} {v v2:Value} {vs vs2:List Value} {ss ss2:List Asn}
theorem appA2X (hgd:o.guard=none) (s x:Operand) (ho:o.op=.call { callee:=.builtin .append,args:=#[s,x],argTypes:=#[35,35] })
  (hs:a.eval s=v) (h0:A2O w0 base v vs ss) (hb0:Below w0.heap.size w0 w) (hbase:base≤w0.heap.size) (h2:A2O w mid v2 vs2 ss2) (hm:w0.heap.size≤mid) (hx:a.eval x=v2) (hl:ss.length+ss2.length≤1049600)
  (h:∀ A' c' w',A2O w' base (.slice A' (ss.length+ss2.length) c') (vs++vs2) (ss++ss2)→w.grownBy w' v.ownBlock→Below base w w'→((Value.slice A' (ss.length+ss2.length) c').ownBlock=v.ownBlock∨(Value.slice A' (ss.length+ss2.length) c').ownBlock=some w.heap.size)→wpList Tryz.prog ops Q rest (a.put o.dst (.slice A' (ss.length+ss2.length) c')) w'):wpList Tryz.prog ops Q (o :: rest) a w:=by
 obtain ⟨A,c,rfl⟩:=h2.form
 unfold wpList
 rw[if_pos (show Region.wanted o (yielded ops a.tmps)=true by simp[Region.wanted,hgd])]
 refine Or.inl (wp_appLX s x 35 ho Tryz.underlying35 infoAs2 rfl (by decide) (by decide) hs (own_below h0.row hb0) hx h2.rd.raw h2.els.one_cell hl (Nat.le_trans hbase hb0.size) ?_)
 intro v' w' hO hg hB hv
 have hC:=h0.cat hb0 h2 (Nat.le_trans hbase hm) hm hl hg hO
 obtain ⟨A',d,rfl,-⟩:=own_reads hO hl
 exact h A' d w' hC hg hB hv
end
theorem c_l10Plain {lo hi lo' hi':Nat} (v:Value) (a:Asn) (k A B:Int) (t:Fct) (X1 X2 X3 X4:Option Addr) (n1 n2 n3 n4 d1 d2 d3 d4:Nat) (Bf:Option Addr) (cf K0:Nat) (w:World) (h:AsnC w lo hi v a) (hhi:hi≤w.heap.size) (hv:a.valid=true) (h':BoolsV w lo' hi' Bf (flagsOf K0)) (hA:isTermB A=true) (hk:k=1∨k=4) :
  Calls Tryz.prog 70 #[v,.agg #[.int .i64 k,.int .i64 A,.int .i64 B,.bool t.eq,.int .i64 t.a,.int .i64 t.b,.slice X1 n1 d1,.slice X2 n2 d2,.slice X3 n3 d3,.slice X4 n4 d4],.slice Bf 9 cf] w fun e w'=>∃ F f G g b q,e=.returned (.tuple #[.agg #[.slice F b.facts.length f,.slice G b.atoms.length g],.bool q])∧AsnO w' w.heap.size (.agg #[.slice F b.facts.length f,.slice G b.atoms.length g]) b∧b.facts.length≤1000∧b.atoms.length≤1000∧symB a k A B K0=((okQ q b).map fun x=>[x])∧Below w.heap.size w w':=by
 rcases hk with rfl|rfl
 ·by_cases hAB:A=B
  ·subst hAB
   exact c_pl1e v a A t X1 X2 X3 X4 n1 n2 n3 n4 d1 d2 d3 d4 Bf cf K0 w h hhi hv h' hA
  ·exact c_pl1 v a A B t X1 X2 X3 X4 n1 n2 n3 n4 d1 d2 d3 d4 Bf cf K0 w h hhi hv h' hA hAB
 ·exact c_pl4 v a A B t X1 X2 X3 X4 n1 n2 n3 n4 d1 d2 d3 d4 Bf cf K0 w h hhi hv h' hA
theorem c_busyN {base:Nat} (A:Option Addr) (c:Nat) (xs:List Int) (n:Nat) (w:World) (h:IntsO w base (.slice A xs.length c) xs) (hn:n=xs.length):Calls Tryz.prog 69 #[.slice A n c] w fun e w'=>∃ Bf cf,e=.returned (.slice Bf 9 cf)∧BoolsO w' w.heap.size (.slice Bf 9 cf) (flagsOf (tset xs))∧Below w.heap.size w w':=by
 obtain ⟨A',c',e,fX⟩:=h.reads
 injection e with e1 e2 e3
 subst e1 e3
 rw[hn]
 refine (c_spec_l10Busy A c xs w fX).mono ?_
 rintro e w' ⟨r,rfl,o,hB⟩
 obtain ⟨Bf,cf,rfl,-⟩:=o.reads
 rw[flagsOf_length] at o ⊢
 exact ⟨Bf,cf,rfl,o,hB⟩
theorem c_spec_SymBasic {lo hi loi hii lo' hi':Nat} (v:Value) (a:Asn) (k A B:Int) (t:Fct) (i:Asn) (body els:Cms) (X1 X2 X3 X4:Option Addr) (d1 d2 d3 d4:Nat) (Ak:Option Addr) (ck:Nat) (ks:List Int) (w:World) (h:AsnC w lo hi v a) (hhi:hi≤w.heap.size)
  (hI:AsnV w loi hii (.agg #[.slice X1 i.facts.length d1,.slice X2 i.atoms.length d2]) i) (h3:body.len≤1049600) (h4:els.len≤1049600) (hk:IntsV w lo' hi' Ak ks) (hkl:ks.length≤1049000) :
  Calls Tryz.prog 13 #[v,.agg #[.int .i64 k,.int .i64 A,.int .i64 B,.bool t.eq,.int .i64 t.a,.int .i64 t.b,.slice X1 i.facts.length d1,.slice X2 i.atoms.length d2,.slice X3 body.len d3,.slice X4 els.len d4],.slice Ak ks.length ck] w fun e w'=>∃ r,e=.returned (.tuple #[r,.bool (symR a (okC k A B t i body els) k A B ks).isSome])∧AsnsR w' w.heap.size r ((symR a (okC k A B t i body els) k A B ks).getD [])∧Below w.heap.size w w':=by
 have hV:=Lib.hid h
 obtain ⟨A1,c1,A2,c2,rfl,-⟩:=h
 have HI:=Lib.hid hI
 have HK:=Lib.hid hk
 have HOK:=Lib.hid (symR_ok (a:=a) (ok:=okC k A B t i body els) (k:=k) (A:=A) (B:=B) (ks:=ks) fun e _=>(okC_term e).2.1)
 have HT:=Lib.hid (fun e=>(okC_term (k:=k) (A:=A) (B:=B) (t:=t) (i:=i) (body:=body) (els:=els) e))
 have HD:Hid (symR a (okC k A B t i body els) k A B ks=if a.valid&&okC k A B t i body els then symB a k A B (keepK (tset ks) A B) else none):=Lib.hid rfl
 have HQ:Hid (okC k A B t i body els=(plainB t i body els&&fieldsB k A B)):=Lib.hid rfl
 have HE0:Hid (totA []≤16777216):=Lib.hid (by simp[totA,totR,rowsA])
 have hi1:i.facts.length≤1049600:=by obtain ⟨_,_,_,_,e,q1,q2⟩:=hI;exact q1.le
 have hi2:i.atoms.length≤1049600:=by obtain ⟨_,_,_,_,e,q1,q2⟩:=hI;exact q2.le
 clear hk hI
 generalize okC k A B t i body els=ok at HOK HT HD HQ ⊢
 go_enter Tryz.func13,Tryz.ntmps13
 have k3:Blk (((w.alloc (.cells #[.slice A1 a.facts.length c1,.slice A2 a.atoms.length c2] tAs)).alloc (.cells #[.int .i64 k,.int .i64 A,.int .i64 B,.bool t.eq,.int .i64 t.a,.int .i64 t.b,.slice X1 i.facts.length d1,.slice X2 i.atoms.length d2,.slice X3 body.len d3,.slice X4 els.len d4] tC)).alloc (.cells #[] tAs)) w.heap.size tAs #[.slice A1 a.facts.length c1,.slice A2 a.atoms.length c2]:=blks
 have k4:Blk (((w.alloc (.cells #[.slice A1 a.facts.length c1,.slice A2 a.atoms.length c2] tAs)).alloc (.cells #[.int .i64 k,.int .i64 A,.int .i64 B,.bool t.eq,.int .i64 t.a,.int .i64 t.b,.slice X1 i.facts.length d1,.slice X2 i.atoms.length d2,.slice X3 body.len d3,.slice X4 els.len d4] tC)).alloc (.cells #[] tAs)) (w.heap.size+1) tC #[.int .i64 k,.int .i64 A,.int .i64 B,.bool t.eq,.int .i64 t.a,.int .i64 t.b,.slice X1 i.facts.length d1,.slice X2 i.atoms.length d2,.slice X3 body.len d3,.slice X4 els.len d4]:=blks
 have k8:Blk (((w.alloc (.cells #[.slice A1 a.facts.length c1,.slice A2 a.atoms.length c2] tAs)).alloc (.cells #[.int .i64 k,.int .i64 A,.int .i64 B,.bool t.eq,.int .i64 t.a,.int .i64 t.b,.slice X1 i.facts.length d1,.slice X2 i.atoms.length d2,.slice X3 body.len d3,.slice X4 els.len d4] tC)).alloc (.cells #[] tAs)) (w.heap.size+1+1) tAs #[]:=blks
 go_wp2_with fail
 refine (c_spec_AssertionValid _ a _ (hV.out.V.below bel)).mono ?_
 rintro e w1 ⟨rfl,hB1⟩
 have hB:=bgo (w:=w) bel hB1
 replace k3:=k3.next hB1
 replace k4:=k4.next hB1
 replace k8:=k8.next hB1
 have hz1:=hB1.size
 simp only[World.size_alloc] at hz1
 clear hB1
 cases hv:a.valid
 ·have E:Hid (symR a ok k A B ks=none):=Lib.hid (by rw[HD.out,hv];rfl)
  clear hv
  go_wp2_with fail
  go_ret2
  exact ⟨_,by rw[E.out];rfl,by rw[E.out];exact ⟨⟨[],A2O.ofBlk k8 (by omega)⟩,HE0.out⟩,hB⟩
 have HV:=Lib.hid hv
 have hvl:=valid_len hv
 clear hv
 (replace qk3:=k3.cell;replace rk3:=k3.frozen;replace lk3:=k3.lt;replace qk4:=k4.cell;replace rk4:=k4.frozen;replace lk4:=k4.lt)
 go_wp2_with fail
 refine (c_spec_l8Basic k A B t i X1 X2 X3 X4 d1 d2 d3 d4 body els _ hi1 hi2 h3 h4).mono ?_
 rintro e w2 ⟨rfl,hB2⟩
 rw[←HQ.out]
 (replace hB:=bgo hB hB2;replace k3:=k3.next hB2;replace qk3:=k3.cell;replace rk3:=k3.frozen;replace lk3:=k3.lt;replace k4:=k4.next hB2;replace qk4:=k4.cell;replace rk4:=k4.frozen;replace lk4:=k4.lt;replace k8:=k8.next hB2)
 have hz2:=hB2.size
 clear hB2
 cases ok
 ·have E:Hid (symR a false k A B ks=none):=Lib.hid (by rw[HD.out,Bool.and_false];rfl)
  go_wp2_with fail
  go_ret2
  exact ⟨_,by rw[E.out];rfl,by rw[E.out];exact ⟨⟨[],A2O.ofBlk k8 (by omega)⟩,HE0.out⟩,hB⟩
 have E:Hid (symR a true k A B ks=symB a k A B (keepK (tset ks) A B)):=Lib.hid (by rw[HD.out,HV.out];rfl)
 obtain ⟨hA,hBt,hk15⟩:=HT.out rfl
 clear HD HT HQ
 rw[E.out] at HOK
 have HB:=Lib.hid hB
 clear hB
 go_upto_region 4 with fail
 go_cut [9] (fun s9 wc=>∃ (Bf:Option Addr) (cf:Nat),s9=.slice Bf 9 cf∧Hid (BoolsO wc w.heap.size (.slice Bf 9 cf) (flagsOf (keepK (tset ks) A B)))∧Blk wc w.heap.size tAs #[.slice A1 a.facts.length c1,.slice A2 a.atoms.length c2]∧Blk wc (w.heap.size+1) tC #[.int .i64 k,.int .i64 A,.int .i64 B,.bool t.eq,.int .i64 t.a,.int .i64 t.b,.slice X1 i.facts.length d1,.slice X2 i.atoms.length d2,.slice X3 body.len d3,.slice X4 els.len d4]∧Blk wc (w.heap.size+1+1) tAs #[]∧Hid (Below w.heap.size w wc)∧w.heap.size+3≤wc.heap.size)
 case first=>
  clear qk3 rk3 lk3 qk4 rk4 lk4
  go_wp2_with fail
  refine wp_region_noPanic ?_
  refine wp_region_held_drew (S:=(fun w'=>(∀ j,w'.cell? ⟨w.heap.size,j,none⟩=#[.slice A1 a.facts.length c1,.slice A2 a.atoms.length c2][j]?)∧(∀ j,w'.cell? ⟨w.heap.size+1,j,none⟩=#[.int .i64 k,.int .i64 A,.int .i64 B,.bool t.eq,.int .i64 t.a,.int .i64 t.b,.slice X1 i.facts.length d1,.slice X2 i.atoms.length d2,.slice X3 body.len d3,.slice X4 els.len d4][j]?))) (by kernel_rfl) (⟨k3.drew.cell,k4.drew.cell⟩) (fun hHeld=>?_)
  replace k3:=k3.drew
  replace k4:=k4.drew
  replace k8:=k8.drew
  replace HB:=Lib.hid HB.out.drew
  have hzq:w2.heap.size≤w2.drew.heap.size:=Nat.le_refl _
  generalize w2.drew=wq at k3 k4 k8 HB hzq hHeld ⊢
  refine tk2 1 rfl hHeld ?_
  try simp only[zz]
  refine tk2 3 rfl hHeld ?_
  try simp only[zz]
  refine tk2 4 rfl hHeld ?_
  try simp only[zz]
  refine tk2 5 rfl hHeld ?_
  try simp only[zz]
  refine tk2 6 rfl hHeld ?_
  try simp only[zz]
  refine wpAnyH_ready (rs:=[0,7]) (by kernel_rfl) (by simp) ?_
  refine AllReadyH.cons rfl (fun K hK=>?_) (AllReadyH.cons rfl (fun K hK=>?_) (AllReadyH.nil))
  ·skip
   try simp only[zz]
   go_simp
   refine hK.out _ _ ⟨rowC_ (bbox (Below.refl _ _) _) k3.lt k3.cell,rowC_ (bbox (Below.refl _ _) _) k4.lt k4.cell⟩ (fun hHeldN=>?_)
   clear hHeld hK K
   have hHeld:=hHeldN
   clear hHeldN
   try simp only[zz]
   have hBq:Below wq.heap.size wq (wq.alloc (.cells #[] tI)):=bbox (Below.refl _ _) _
   have kN:Blk (wq.alloc (.cells #[] tI)) wq.heap.size tI #[]:=Blk.new _ _ _
   have hltN:wq.heap.size<(wq.alloc (.cells #[] tI)).heap.size:=by simp
   obtain ⟨y0,hy0⟩:∃ y,y=wq.heap.size:=⟨_,rfl⟩
   have hy0B:w.heap.size≤y0:=by omega
   have hne07:∀ y,y<wq.heap.size→y≠y0:=fun y h=>by omega
   replace k3:=k3.next hBq
   replace k4:=k4.next hBq
   replace k8:=k8.next hBq
   try replace OI:=Lib.hid (OI.out.below hBq)
   try replace kL:=kL.next hBq
   replace HB:=Lib.hid (bgo HB.out hBq)
   replace hzq:=Nat.le_trans hzq hBq.size
   rw[←hy0] at kN hltN ⊢
   have OI:Hid (IntsO (wq.alloc (.cells #[] tI)) w.heap.size (.slice (some ⟨y0,0,none⟩) 0 0) []):=Lib.hid ⟨own_ofBlk kN hy0B,by simp[Lim]⟩
   have hl0:=hltN
   try have h70:y7≠y0:=hne07 y7 hl7
   clear hltN hne07 hy0B
   clear hBq hy0 kN
   generalize wq.alloc (.cells #[] tI)=wq at *
   refine wpAnyH_ready (rs:=[2,7]) (by kernel_rfl) (by simp) ?_
   refine AllReadyH.cons rfl (fun K hK=>?_) (AllReadyH.cons rfl (fun K hK=>?_) (AllReadyH.nil))
   ·skip
    refine stepIL2 (base:=w.heap.size) (xs:=[]) (ys:=ks) rfl _ _ rfl rfl OI.out rfl (HK.out.below HB.out) (by simp<;>omega) (by omega) ?_
    intro KA kc wq' oN hg hBq
    replace k3:=Blk.grownO k3 OI.out.1 hg (by decide)
    replace k4:=Blk.grownO k4 OI.out.1 hg (by decide)
    replace k8:=Blk.grownO k8 OI.out.1 hg (by decide)
    replace HB:=Lib.hid (HB.out.trans hBq)
    replace hzq:=Nat.le_trans hzq hBq.size
    rw[List.nil_append] at oN ⊢
    replace OI:=Lib.hid oN
    clear oN hg hBq
    refine hK.out _ _ ⟨k3.cell,k4.cell⟩ (fun hHeldN=>?_)
    clear hHeld hK K
    have hHeld:=hHeldN
    clear hHeldN
    try simp only[zz]
    generalize wq'=wq at *
    refine wpAnyH_ready (rs:=[7]) (by kernel_rfl) (by simp) ?_
    refine AllReadyH.cons rfl (fun K hK=>?_) AllReadyH.nil
    try simp only[zz]
    go_simp
    refine hK.out _ _ ⟨rowC_ (bbox (Below.refl _ _) _) k3.lt k3.cell,rowC_ (bbox (Below.refl _ _) _) k4.lt k4.cell⟩ (fun hHeldN=>?_)
    clear hHeld hK K
    have hHeld:=hHeldN
    clear hHeldN
    try simp only[zz]
    have hBq:Below wq.heap.size wq (wq.alloc (.cells #[.int .i64 A,.int .i64 B] tI)):=bbox (Below.refl _ _) _
    have kN:Blk (wq.alloc (.cells #[.int .i64 A,.int .i64 B] tI)) wq.heap.size tI #[.int .i64 A,.int .i64 B]:=Blk.new _ _ _
    have hltN:wq.heap.size<(wq.alloc (.cells #[.int .i64 A,.int .i64 B] tI)).heap.size:=by simp
    obtain ⟨y7,hy7⟩:∃ y,y=wq.heap.size:=⟨_,rfl⟩
    have hy7B:w.heap.size≤y7:=by omega
    have hne07:∀ y,y<wq.heap.size→y≠y7:=fun y h=>by omega
    replace k3:=k3.next hBq
    replace k4:=k4.next hBq
    replace k8:=k8.next hBq
    try replace OI:=Lib.hid (OI.out.below hBq)
    try replace kL:=kL.next hBq
    replace HB:=Lib.hid (bgo HB.out hBq)
    replace hzq:=Nat.le_trans hzq hBq.size
    rw[←hy7] at kN hltN ⊢
    have kL:=kN
    have hl7:=hltN
    try have h70:y7≠y0:=(hne07 y0 hl0).symm
    clear hltN hne07 hy7B
    clear hBq hy7 kN
    generalize wq.alloc (.cells #[.int .i64 A,.int .i64 B] tI)=wq at *
    refine wpAnyH_ready (rs:=[8]) (by kernel_rfl) (by simp) ?_
    refine AllReadyH.cons rfl (fun K hK=>?_) AllReadyH.nil
    refine stepIL2 (base:=w.heap.size) (xs:=ks) (ys:=[A,B]) rfl _ _ rfl rfl OI.out rfl (IntsV.two kL) (by simp<;>omega) (by omega) ?_
    intro KA kc wq' oN hg hBq
    replace k3:=Blk.grownO k3 OI.out.1 hg (by decide)
    replace k4:=Blk.grownO k4 OI.out.1 hg (by decide)
    replace k8:=Blk.grownO k8 OI.out.1 hg (by decide)
    replace HB:=Lib.hid (HB.out.trans hBq)
    replace hzq:=Nat.le_trans hzq hBq.size
    replace OI:=Lib.hid oN
    clear oN hg hBq
    refine hK.out _ _ ⟨k3.cell,k4.cell⟩ (fun hHeldN=>?_)
    clear hHeld hK K
    have hHeld:=hHeldN
    clear hHeldN
    try simp only[zz]
    generalize wq'=wq at *
    refine rdc 9 rfl fun K hK=>?_
    try simp only[zz]
    (go_simp;refine (c_busyN KA kc (ks++[A,B]) _ _ OI.out (by simp)).mono ?_;rintro e w5 ⟨Bf,cf,rfl,oT,hB5⟩;rw[keep_tset] at oT;replace k3:=k3.next hB5;replace k4:=k4.next hB5;replace k8:=k8.next hB5;have OT:=Lib.hid (oT.lower (base':=w.heap.size) (by omega));have HB5:=Lib.hid (bgo HB.out hB5);have hz5:=hB5.size;clear hB5 oT)
    refine hK.out _ _ (⟨k3.cell,k4.cell⟩) ?_
    clear hHeld hK K
    intro hHeld
    try simp only[zz]
    refine tk2 10 rfl hHeld ?_
    try simp only[zz]
    refine wpAnyH_done (by kernel_rfl) ?_ _
    refine NoPanic.normal ?_
    go_wp2_with fail
    go_meet
    case rel=>exact ⟨Bf,cf,rfl,OT,k3,k4,k8,HB5,by omega⟩
   ·skip
    try simp only[zz]
    go_simp
    refine hK.out _ _ ⟨rowC_ (bbox (Below.refl _ _) _) k3.lt k3.cell,rowC_ (bbox (Below.refl _ _) _) k4.lt k4.cell⟩ (fun hHeldN=>?_)
    clear hHeld hK K
    have hHeld:=hHeldN
    clear hHeldN
    try simp only[zz]
    have hBq:Below wq.heap.size wq (wq.alloc (.cells #[.int .i64 A,.int .i64 B] tI)):=bbox (Below.refl _ _) _
    have kN:Blk (wq.alloc (.cells #[.int .i64 A,.int .i64 B] tI)) wq.heap.size tI #[.int .i64 A,.int .i64 B]:=Blk.new _ _ _
    have hltN:wq.heap.size<(wq.alloc (.cells #[.int .i64 A,.int .i64 B] tI)).heap.size:=by simp
    obtain ⟨y7,hy7⟩:∃ y,y=wq.heap.size:=⟨_,rfl⟩
    have hy7B:w.heap.size≤y7:=by omega
    have hne07:∀ y,y<wq.heap.size→y≠y7:=fun y h=>by omega
    replace k3:=k3.next hBq
    replace k4:=k4.next hBq
    replace k8:=k8.next hBq
    try replace OI:=Lib.hid (OI.out.below hBq)
    try replace kL:=kL.next hBq
    replace HB:=Lib.hid (bgo HB.out hBq)
    replace hzq:=Nat.le_trans hzq hBq.size
    rw[←hy7] at kN hltN ⊢
    have kL:=kN
    have hl7:=hltN
    try have h70:y7≠y0:=(hne07 y0 hl0).symm
    clear hltN hne07 hy7B
    clear hBq hy7 kN
    generalize wq.alloc (.cells #[.int .i64 A,.int .i64 B] tI)=wq at *
    refine wpAnyH_ready (rs:=[2]) (by kernel_rfl) (by simp) ?_
    refine AllReadyH.cons rfl (fun K hK=>?_) AllReadyH.nil
    refine stepIL2 (base:=w.heap.size) (xs:=[]) (ys:=ks) rfl _ _ rfl rfl OI.out rfl (HK.out.below HB.out) (by simp<;>omega) (by omega) ?_
    intro KA kc wq' oN hg hBq
    replace k3:=Blk.grownO k3 OI.out.1 hg (by decide)
    replace k4:=Blk.grownO k4 OI.out.1 hg (by decide)
    replace k8:=Blk.grownO k8 OI.out.1 hg (by decide)
    replace kL:=kL.apart hg (fun e=>by injection e with e;exact h70 e)
    replace HB:=Lib.hid (HB.out.trans hBq)
    replace hzq:=Nat.le_trans hzq hBq.size
    rw[List.nil_append] at oN ⊢
    replace OI:=Lib.hid oN
    clear oN hg hBq
    refine hK.out _ _ ⟨k3.cell,k4.cell⟩ (fun hHeldN=>?_)
    clear hHeld hK K
    have hHeld:=hHeldN
    clear hHeldN
    try simp only[zz]
    generalize wq'=wq at *
    refine wpAnyH_ready (rs:=[8]) (by kernel_rfl) (by simp) ?_
    refine AllReadyH.cons rfl (fun K hK=>?_) AllReadyH.nil
    refine stepIL2 (base:=w.heap.size) (xs:=ks) (ys:=[A,B]) rfl _ _ rfl rfl OI.out rfl (IntsV.two kL) (by simp<;>omega) (by omega) ?_
    intro KA kc wq' oN hg hBq
    replace k3:=Blk.grownO k3 OI.out.1 hg (by decide)
    replace k4:=Blk.grownO k4 OI.out.1 hg (by decide)
    replace k8:=Blk.grownO k8 OI.out.1 hg (by decide)
    replace HB:=Lib.hid (HB.out.trans hBq)
    replace hzq:=Nat.le_trans hzq hBq.size
    replace OI:=Lib.hid oN
    clear oN hg hBq
    refine hK.out _ _ ⟨k3.cell,k4.cell⟩ (fun hHeldN=>?_)
    clear hHeld hK K
    have hHeld:=hHeldN
    clear hHeldN
    try simp only[zz]
    generalize wq'=wq at *
    refine rdc 9 rfl fun K hK=>?_
    try simp only[zz]
    (go_simp;refine (c_busyN KA kc (ks++[A,B]) _ _ OI.out (by simp)).mono ?_;rintro e w5 ⟨Bf,cf,rfl,oT,hB5⟩;rw[keep_tset] at oT;replace k3:=k3.next hB5;replace k4:=k4.next hB5;replace k8:=k8.next hB5;have OT:=Lib.hid (oT.lower (base':=w.heap.size) (by omega));have HB5:=Lib.hid (bgo HB.out hB5);have hz5:=hB5.size;clear hB5 oT)
    refine hK.out _ _ (⟨k3.cell,k4.cell⟩) ?_
    clear hHeld hK K
    intro hHeld
    try simp only[zz]
    refine tk2 10 rfl hHeld ?_
    try simp only[zz]
    refine wpAnyH_done (by kernel_rfl) ?_ _
    refine NoPanic.normal ?_
    go_wp2_with fail
    go_meet
    case rel=>exact ⟨Bf,cf,rfl,OT,k3,k4,k8,HB5,by omega⟩
  ·skip
   try simp only[zz]
   go_simp
   refine hK.out _ _ ⟨rowC_ (bbox (Below.refl _ _) _) k3.lt k3.cell,rowC_ (bbox (Below.refl _ _) _) k4.lt k4.cell⟩ (fun hHeldN=>?_)
   clear hHeld hK K
   have hHeld:=hHeldN
   clear hHeldN
   try simp only[zz]
   have hBq:Below wq.heap.size wq (wq.alloc (.cells #[.int .i64 A,.int .i64 B] tI)):=bbox (Below.refl _ _) _
   have kN:Blk (wq.alloc (.cells #[.int .i64 A,.int .i64 B] tI)) wq.heap.size tI #[.int .i64 A,.int .i64 B]:=Blk.new _ _ _
   have hltN:wq.heap.size<(wq.alloc (.cells #[.int .i64 A,.int .i64 B] tI)).heap.size:=by simp
   obtain ⟨y7,hy7⟩:∃ y,y=wq.heap.size:=⟨_,rfl⟩
   have hy7B:w.heap.size≤y7:=by omega
   have hne07:∀ y,y<wq.heap.size→y≠y7:=fun y h=>by omega
   replace k3:=k3.next hBq
   replace k4:=k4.next hBq
   replace k8:=k8.next hBq
   try replace OI:=Lib.hid (OI.out.below hBq)
   try replace kL:=kL.next hBq
   replace HB:=Lib.hid (bgo HB.out hBq)
   replace hzq:=Nat.le_trans hzq hBq.size
   rw[←hy7] at kN hltN ⊢
   have kL:=kN
   have hl7:=hltN
   try have h70:y7≠y0:=(hne07 y0 hl0).symm
   clear hltN hne07 hy7B
   clear hBq hy7 kN
   generalize wq.alloc (.cells #[.int .i64 A,.int .i64 B] tI)=wq at *
   refine wpAnyH_ready (rs:=[0]) (by kernel_rfl) (by simp) ?_
   refine AllReadyH.cons rfl (fun K hK=>?_) AllReadyH.nil
   try simp only[zz]
   go_simp
   refine hK.out _ _ ⟨rowC_ (bbox (Below.refl _ _) _) k3.lt k3.cell,rowC_ (bbox (Below.refl _ _) _) k4.lt k4.cell⟩ (fun hHeldN=>?_)
   clear hHeld hK K
   have hHeld:=hHeldN
   clear hHeldN
   try simp only[zz]
   have hBq:Below wq.heap.size wq (wq.alloc (.cells #[] tI)):=bbox (Below.refl _ _) _
   have kN:Blk (wq.alloc (.cells #[] tI)) wq.heap.size tI #[]:=Blk.new _ _ _
   have hltN:wq.heap.size<(wq.alloc (.cells #[] tI)).heap.size:=by simp
   obtain ⟨y0,hy0⟩:∃ y,y=wq.heap.size:=⟨_,rfl⟩
   have hy0B:w.heap.size≤y0:=by omega
   have hne07:∀ y,y<wq.heap.size→y≠y0:=fun y h=>by omega
   replace k3:=k3.next hBq
   replace k4:=k4.next hBq
   replace k8:=k8.next hBq
   try replace OI:=Lib.hid (OI.out.below hBq)
   try replace kL:=kL.next hBq
   replace HB:=Lib.hid (bgo HB.out hBq)
   replace hzq:=Nat.le_trans hzq hBq.size
   rw[←hy0] at kN hltN ⊢
   have OI:Hid (IntsO (wq.alloc (.cells #[] tI)) w.heap.size (.slice (some ⟨y0,0,none⟩) 0 0) []):=Lib.hid ⟨own_ofBlk kN hy0B,by simp[Lim]⟩
   have hl0:=hltN
   try have h70:y7≠y0:=hne07 y7 hl7
   clear hltN hne07 hy0B
   clear hBq hy0 kN
   generalize wq.alloc (.cells #[] tI)=wq at *
   refine wpAnyH_ready (rs:=[2]) (by kernel_rfl) (by simp) ?_
   refine AllReadyH.cons rfl (fun K hK=>?_) AllReadyH.nil
   refine stepIL2 (base:=w.heap.size) (xs:=[]) (ys:=ks) rfl _ _ rfl rfl OI.out rfl (HK.out.below HB.out) (by simp<;>omega) (by omega) ?_
   intro KA kc wq' oN hg hBq
   replace k3:=Blk.grownO k3 OI.out.1 hg (by decide)
   replace k4:=Blk.grownO k4 OI.out.1 hg (by decide)
   replace k8:=Blk.grownO k8 OI.out.1 hg (by decide)
   replace kL:=kL.apart hg (fun e=>by injection e with e;exact h70 e)
   replace HB:=Lib.hid (HB.out.trans hBq)
   replace hzq:=Nat.le_trans hzq hBq.size
   rw[List.nil_append] at oN ⊢
   replace OI:=Lib.hid oN
   clear oN hg hBq
   refine hK.out _ _ ⟨k3.cell,k4.cell⟩ (fun hHeldN=>?_)
   clear hHeld hK K
   have hHeld:=hHeldN
   clear hHeldN
   try simp only[zz]
   generalize wq'=wq at *
   refine wpAnyH_ready (rs:=[8]) (by kernel_rfl) (by simp) ?_
   refine AllReadyH.cons rfl (fun K hK=>?_) AllReadyH.nil
   refine stepIL2 (base:=w.heap.size) (xs:=ks) (ys:=[A,B]) rfl _ _ rfl rfl OI.out rfl (IntsV.two kL) (by simp<;>omega) (by omega) ?_
   intro KA kc wq' oN hg hBq
   replace k3:=Blk.grownO k3 OI.out.1 hg (by decide)
   replace k4:=Blk.grownO k4 OI.out.1 hg (by decide)
   replace k8:=Blk.grownO k8 OI.out.1 hg (by decide)
   replace HB:=Lib.hid (HB.out.trans hBq)
   replace hzq:=Nat.le_trans hzq hBq.size
   replace OI:=Lib.hid oN
   clear oN hg hBq
   refine hK.out _ _ ⟨k3.cell,k4.cell⟩ (fun hHeldN=>?_)
   clear hHeld hK K
   have hHeld:=hHeldN
   clear hHeldN
   try simp only[zz]
   generalize wq'=wq at *
   refine rdc 9 rfl fun K hK=>?_
   try simp only[zz]
   (go_simp;refine (c_busyN KA kc (ks++[A,B]) _ _ OI.out (by simp)).mono ?_;rintro e w5 ⟨Bf,cf,rfl,oT,hB5⟩;rw[keep_tset] at oT;replace k3:=k3.next hB5;replace k4:=k4.next hB5;replace k8:=k8.next hB5;have OT:=Lib.hid (oT.lower (base':=w.heap.size) (by omega));have HB5:=Lib.hid (bgo HB.out hB5);have hz5:=hB5.size;clear hB5 oT)
   refine hK.out _ _ (⟨k3.cell,k4.cell⟩) ?_
   clear hHeld hK K
   intro hHeld
   try simp only[zz]
   refine tk2 10 rfl hHeld ?_
   try simp only[zz]
   refine wpAnyH_done (by kernel_rfl) ?_ _
   refine NoPanic.normal ?_
   go_wp2_with fail
   go_meet
   case rel=>exact ⟨Bf,cf,rfl,OT,k3,k4,k8,HB5,by omega⟩
 case rest=>
  clear HB k3 k4 k8 qk3 rk3 lk3 qk4 rk4 lk4 HK HI
  obtain ⟨Bf,cf,rfl,OT,k3,k4,k8,HB,hzc⟩:=hcut
  obtain ⟨K2,hK2⟩:∃ x,x=keepK (tset ks) A B:=⟨_,rfl⟩
  have HKI:Hid (∀ T,T=A∨T=B→tins K2 T=K2):=Lib.hid fun T hT=>by rw[hK2];exact keep_idem hT
  rw[←hK2] at OT E HOK
  clear hK2
  have HFL:=Lib.hid OT.out.readsI9
  have hone:∀ b:Asn,[b].length=1:=fun _=>rfl
  by_cases hk14:k=1∨k=4
  ·have O8:Hid (A2O wc w.heap.size (.slice (some ⟨w.heap.size+1+1,0,none⟩) 0 0) [] []):=Lib.hid (A2O.ofBlk k8 (by omega))
   clear HKI
   rcases hk14 with rfl|rfl
   all_goals
    (replace qk3:=k3.cell;replace rk3:=k3.frozen;replace lk3:=k3.lt;replace qk4:=k4.cell;replace rk4:=k4.frozen;replace lk4:=k4.lt)
    go_wp2_with fail
    refine (c_l10Plain _ a _ A B t X1 X2 X3 X4 _ _ _ _ d1 d2 d3 d4 Bf cf K2 _ (hV.out.below HB.out) (by omega) HV.out HFL.out hA (by simp)).mono ?_
    rintro e w3 ⟨F,f,G,g,b,q,rfl,oX,hl1,hl2,hE,hB3⟩
    have E2:=Lib.hid (E.out.trans hE)
    rw[hE] at HOK
    have OX:=Lib.hid oX
    have k83:=k8.next hB3
    have HB3':=Lib.hid hB3
    have HB3:=Lib.hid (bgo HB.out hB3)
    have hz3:=hB3.size
    clear hB3 oX hE k3 k4 qk3 rk3 lk3 qk4 rk4 lk4 k8 E HB
    cases q
    ·have E3:Hid (symR a true _ A B ks=none):=Lib.hid (by rw[E2.out];rfl)
     go_wp2_with fail
     go_ret2
     exact ⟨_,by rw[E3.out];rfl,by rw[E3.out];exact ⟨⟨[],A2O.ofBlk (k83.alloc _) (by omega)⟩,HE0.out⟩,bbox HB3.out _⟩
    ·go_wp2_with fail
     refine (c_spec_AssertionValid _ b _ (OX.out.reads.below bel)).mono ?_
     rintro e w4 ⟨rfl,hB4⟩
     have hbx:Below w3.heap.size w3 (w3.alloc (.cells #[.slice F b.facts.length f,.slice G b.atoms.length g] tAs)):=bbox (Below.refl _ _) _
     have kx:Blk (w3.alloc (.cells #[.slice F b.facts.length f,.slice G b.atoms.length g] tAs)) w3.heap.size tAs #[.slice F b.facts.length f,.slice G b.atoms.length g]:=Blk.new _ _ _
     replace kx:=kx.next hB4
     have HB4':=Lib.hid (HB3'.out.trans ((hbx.trans (hB4.mono hbx.size)).mono hz3))
     have HB4:=Lib.hid (HB3.out.trans ((hbx.trans (hB4.mono hbx.size)).mono (by omega)))
     have k84:=k83.next (hbx.trans (hB4.mono hbx.size))
     replace OX:=Lib.hid (OX.out.below (hbx.trans (hB4.mono hbx.size)))
     have hz4:=HB4'.out.size
     clear hB4 hbx HB3 HB3' k83
     cases hbv:b.valid
     ·have E3:Hid (symR a true _ A B ks=none):=Lib.hid (by rw[E2.out];unfold okQ;rw[hbv];rfl)
      clear hbv
      go_wp2_with fail
      go_ret2
      exact ⟨_,by rw[E3.out];rfl,by rw[E3.out];exact ⟨⟨[],A2O.ofBlk k84 (by omega)⟩,HE0.out⟩,HB4.out⟩
     ·have E3:Hid (symR a true _ A B ks=some [b]):=Lib.hid (by rw[E2.out,okQ_true hbv];rfl)
      have HTOT:Hid (totA [b]≤16777216):=Lib.hid (by have:=HOK.out.2;rw[okQ_true hbv] at this;exact this)
      clear hbv
      (replace qkx:=kx.cell;replace rkx:=kx.frozen;replace lkx:=kx.lt)
      go_wp2_with (at_builtin;refine appA2 (w0:=wc) (base:=w.heap.size) (mid:=wc.heap.size) (ss:=[]) (ss2:=[b]) rfl _ _ rfl rfl O8.out (bbox HB4'.out _) (by omega) (A2O.one (g:=w4.heap.size) (Blk.newE rfl) (by omega) (AsnO.below OX.out (bbox (Below.refl _ _) _))) (Nat.le_refl _) rfl (by simp) ?_;intro A5 c5 w5 hO5 hg5 hB5;have O5:=Lib.hid hO5;have HB5:=Lib.hid ((bbox HB4.out (.cells #[.slice F b.facts.length f,.slice G b.atoms.length g] tAs)).trans hB5);clear hO5 hg5 hB5)
      go_ret2
      exact ⟨_,by rw[E3.out];rfl,by rw[E3.out];exact ⟨⟨_,O5.out⟩,HTOT.out⟩,HB5.out⟩
  ·have hk1:¬k=1:=fun e=>hk14 (.inl e)
   have hk4:¬k=4:=fun e=>hk14 (.inr e)
   have hk235:k=2∨k=3∨k=5:=by omega
   have EA:=Lib.hid (E.out.trans (symB_acc hk1 hk4))
   have b1:(k == 1)=false:=beq_false_of_ne hk1
   have b4:(k == 4)=false:=beq_false_of_ne hk4
   obtain ⟨T,hT⟩:∃ x,x=symT k A B:=⟨_,rfl⟩
   have hTAB:Hid (T=A∨T=B):=Lib.hid (by rw[hT];unfold symT;split;exact .inr rfl;exact .inl rfl)
   rw[←hT] at EA
   rw[←E.out] at HOK
   replace hT:=Lib.hid hT
   have HKK:=Lib.hid hk235
   obtain ⟨S,hS⟩:∃ x,x=symR a true k A B ks:=⟨_,rfl⟩
   rw[←hS] at EA HOK
   replace hS:=Lib.hid hS
   have HOKS:Hid (totA (S.getD [])≤16777216):=Lib.hid HOK.out.2
   clear hk1 hk4 hk14 hk235 E HOK hk15
   (replace qk3:=k3.cell;replace rk3:=k3.frozen;replace lk3:=k3.lt;replace qk4:=k4.cell;replace rk4:=k4.frozen;replace lk4:=k4.lt)
   go_upto_if 69 with fail
   go_cut [12] (fun s12 wd=>s12=.int .i64 T∧wd=wc)
   case first=>
    by_cases hk2:k=2
    ·have eT:Hid (T=B):=Lib.hid (by rw[hT.out,symT,if_pos hk2])
     subst hk2
     clear hT
     go_wp2_with fail
     go_meet
     case rel=>exact ⟨by rw[eT.out],rfl⟩
    ·have eT:Hid (T=A):=Lib.hid (by rw[hT.out,symT,if_neg hk2])
     have b2:(k == 2)=false:=beq_false_of_ne hk2
     clear hT hk2
     go_wp2_with fail
     go_meet
     case rel=>exact ⟨by rw[eT.out],rfl⟩
   case rest=>
    obtain ⟨rfl,hwd⟩:=hcut
    subst hwd
    clear hT
    go_wp2_with fail
    refine (c_l10Open 7 (Nat.le_refl _) a T K2 lo hi _ _ _ _ cf _ (hV.out.below HB.out) (by rw[HKI.out T hTAB.out];exact HFL.out) (by omega) (by omega)).mono ?_
    rintro e w3 ⟨r,vs,l,rfl,oR,hll,hRR,hB3⟩
    obtain ⟨R,rc,rfl⟩:=oR.form
    obtain ⟨ok0,hok0⟩:∃ x,x=(exposeF 7 a T K2).isSome:=⟨_,rfl⟩
    rw[←hok0]
    have HS0:Hid (ok0=false→S=none):=Lib.hid fun e=>by
     rw[EA.out]
     rcases hRR with h|h
     ·rw[h];rfl
     ·rw[h] at hok0;rw[hok0] at e;cases e
    have HS1:Hid (ok0=true→S=mapF (fun x=>accF k A B x K2) l∧exposeF 7 a T K2=some l):=Lib.hid fun e=>by
     rcases hRR with h|h
     ·rw[h] at hok0;rw[hok0] at e;cases e
     ·exact ⟨by rw[EA.out,h];rfl,h⟩
    have hll2:l.length≤128:=hll
    have OR:=Lib.hid oR
    have O8:Hid (A2O w3 w.heap.size (.slice (some ⟨w.heap.size+1+1,0,none⟩) 0 0) [] []):=Lib.hid (A2O.ofBlk (k8.next hB3) (by omega))
    have HOW0:Hid (∀ g,(Value.slice (some ⟨w.heap.size+1+1,0,none⟩) 0 0).ownBlock=some g→(Value.slice R l.length rc).ownBlock≠some g):=Lib.hid fun g hg hg2=>by
     have hg':w.heap.size+1+1=g:=by simpa [Value.ownBlock] using hg
     have:=(oR.row.lt g hg2).1
     omega
    have k43:=k4.next hB3
    have OT3:=Lib.hid (OT.out.below hB3)
    have HB3:=Lib.hid (bgo HB.out hB3)
    have hz3:=hB3.size
    obtain ⟨z3,hz3e⟩:∃ z,z=wc.heap.size:=⟨_,rfl⟩
    rw[←hz3e] at OR
    clear hok0 hRR hll oR hB3 EA k3 k4 qk3 rk3 lk3 qk4 rk4 lk4 k8 HB OT HFL hz3e
    go_wp2_with fail
    go_loopg [8,14,15] (l.length+1) (fun gh s8 s14 s15 wr=>∃ (j:Nat) (R2:Option Addr) (r2:Nat) (ys:List Asn) (us:List Value) (okb:Bool),j≤l.length∧ys.length=j∧l.length+1≤gh+j∧s8=.slice R2 j r2∧s14=.bool okb∧s15=.int .i64 j∧Hid (okb=false→S=none)∧Hid (okb=true→(S=mapF (fun x=>accF k A B x K2) l∧exposeF 7 a T K2=some l)∧∀ (q:Nat) (h1:q<ys.length) (h2:q<l.length),accF k A B l[q] K2=some ys[q])∧Hid (A2O wr w.heap.size (.slice R2 j r2) us ys)∧Hid (∀ g,(Value.slice R2 j r2).ownBlock=some g→(Value.slice R l.length rc).ownBlock≠some g)∧Hid (A2O wr z3 (.slice R l.length rc) vs l)∧Hid (BoolsO wr w.heap.size (.slice Bf 9 cf) (flagsOf K2))∧Blk wr (w.heap.size+1) tC #[.int .i64 k,.int .i64 A,.int .i64 B,.bool t.eq,.int .i64 t.a,.int .i64 t.b,.slice X1 i.facts.length d1,.slice X2 i.atoms.length d2,.slice X3 body.len d3,.slice X4 els.len d4]∧Hid (Below w.heap.size w wr)∧w.heap.size+3≤wr.heap.size)
    case atStart=>exact ⟨0,some ⟨w.heap.size+1+1,0,none⟩,0,[],[],ok0,Nat.zero_le _,rfl,by omega,rfl,rfl,rfl,HS0,Lib.hid fun e=>⟨HS1.out e,fun q h1=>absurd h1 (by simp)⟩,O8,HOW0,OR,OT3,k43,HB3,by omega⟩
    case round=>
     clear HS0 HS1 O8 HOW0 OR OT3 k43 HB3
     obtain ⟨j,R2,r2,ys,us,okb,hj,hyl,hgh,rfl,rfl,rfl,HS0,HS1,OY,HOW,OR,OT,k4,HB,hzr⟩:=hrel
     have HL:Hid (ys.length=j):=Lib.hid hyl
     clear hyl
     cases okb
     ·have E3:=Lib.hid (HS0.out rfl)
      clear HS0 HS1
      by_cases hlt:j<l.length
      all_goals
       have hji:(j:Int)<(l.length:Int)∨¬(j:Int)<(l.length:Int):=by omega
       first|(have hjc:(j:Int)<(l.length:Int):=by omega)|(have hjc:¬(j:Int)<(l.length:Int):=by omega)
       clear hji
       go_wp2_with fail
       go_ret2
       exact ⟨_,by rw[←hS.out,E3.out];rfl,by rw[←hS.out,E3.out];exact ⟨⟨[],(A2O.empty wr rfl).lower (by omega)⟩,HE0.out⟩,bbox HB.out _⟩
     ·by_cases hlt:j<l.length
      ·have hji:(j:Int)<(l.length:Int):=by omega
       obtain ⟨gb,go,P,p,Q,q,rfl,hgb,q0,q1,hC⟩:=OR.out.atC hlt
       obtain ⟨⟨hSm,hex⟩,HY⟩:=HS1.out rfl
       obtain ⟨x,hx⟩:∃ x,x=l[j]:=⟨_,rfl⟩
       rw[←hx] at q0 q1 hC
       obtain ⟨hxv,-,xb,xr,hxa⟩:=expose_ent _ _ _ _ _ hex x (by rw[hx];exact List.getElem_mem hlt)
       have hx0:0<x.atoms.length:=by rw[hxa];simp
       have HC:=Lib.hid hC
       have HXV:=Lib.hid hxv
       have HN0:Hid (accF k A B x K2=none→S=none):=Lib.hid fun h=>by rw[hSm];exact mapF_none hlt (by rw[←hx];exact h)
       have HN1:Hid (∀ b,accF k A B x K2=some b→∀ (q:Nat) (h1:q<(ys++[b]).length) (h2:q<l.length),accF k A B l[q] K2=some (ys++[b])[q]):=Lib.hid fun b hb q h1 h2=>by
        have hl:=HL.out
        by_cases e:q<ys.length
        ·rw[List.getElem_append_left e];exact HY q e h2
        ·have eq:q=j:=by simp at h1;omega
         subst eq
         rw[List.getElem_append_right (by omega)]
         simp only[hl,Nat.sub_self,List.getElem_cons_zero]
         rw[←hx];exact hb
       have HSM:=Lib.hid (And.intro hSm hex)
       clear hx hxv hxa hC hSm hex HY HS0 HS1
       (replace qk4:=k4.cell;replace rk4:=k4.frozen;replace lk4:=k4.lt)
       go_upto_region 17 with fail
       clear qk4 rk4 lk4
       go_cut [16,17] (fun s16 s17 wn=>∃ (y:Nat) (F:Option Addr) (f:Nat) (G:Option Addr) (g:Nat) (b:Asn) (q:Bool),s16=.pointer (some ⟨y,0,none⟩)∧s17=.bool q∧Blk wn y tAs #[.slice F b.facts.length f,.slice G b.atoms.length g]∧Hid (AsnO wn wr.heap.size (.agg #[.slice F b.facts.length f,.slice G b.atoms.length g]) b)∧Hid (accF k A B x K2=okQ q b)∧Hid (Below wr.heap.size wr wn))
       case first=>
        go_wp2_with fail
        refine wp_region_noPanic ?_
        refine wp_region_held_drew (S:=(fun w'=>(∀ i',w'.cell? ⟨w.heap.size+1,i',none⟩=#[.int .i64 k,.int .i64 A,.int .i64 B,.bool t.eq,.int .i64 t.a,.int .i64 t.b,.slice X1 i.facts.length d1,.slice X2 i.atoms.length d2,.slice X3 body.len d3,.slice X4 els.len d4][i']?)∧w'.cell? ⟨gb,go+j*2,none⟩=some (.slice P x.facts.length p)∧w'.cell? ⟨gb,go+j*2+1,none⟩=some (.slice Q x.atoms.length q))) (by kernel_rfl) (⟨k4.drew.cell,q0,q1⟩) (fun hHeld=>?_)
        have HBr:=Lib.hid (Below.refl wr.heap.size wr).drew
        have hzq:wr.heap.size≤wr.drew.heap.size:=Nat.le_refl _
        generalize wr.drew=wq at HBr hzq hHeld ⊢
        refine tk2 0 rfl hHeld ?_
        try simp only[zz]
        refine tk2 1 rfl hHeld ?_
        try simp only[zz]
        refine tk2 2 rfl hHeld ?_
        try simp only[zz]
        refine tk2 3 rfl hHeld ?_
        try simp only[zz]
        refine tk2 4 rfl hHeld ?_
        try simp only[zz]
        refine tk2 5 rfl hHeld ?_
        try simp only[zz]
        refine wpAnyH_ready (rs:=[6,10]) (by kernel_rfl) (by simp) ?_
        refine AllReadyH.cons rfl (fun K hK=>?_) (AllReadyH.cons rfl (fun K hK=>?_) (AllReadyH.nil))
        ·skip
         try simp only[zz]
         go_simp
         refine (c_l10After _ x k A B t X1 X2 X3 X4 _ _ _ _ d1 d2 d3 d4 Bf cf K2 _ (HC.out.below HBr.out) hzq HXV.out (OT.out.readsI9.below HBr.out) hA hBt hx0 HKK.out).mono ?_
         rintro e wq ⟨F,f,G,g,b,qb,rfl,oX,hl1,hl2,hE,hBq⟩
         have OX:=Lib.hid (oX.lower (base':=wr.heap.size) hzq)
         replace hE:=Lib.hid hE
         replace HBr:=Lib.hid (HBr.out.trans (hBq.mono hzq))
         replace hzq:=Nat.le_trans hzq hBq.size
         try replace kBox:=kBox.next hBq
         clear hBq oX hl1 hl2
         refine hK.out _ _ ⟨(k4.next HBr.out).cell,(HBr.out.cell (p:=⟨gb,go+j*2,none⟩) hgb).trans q0,(HBr.out.cell (p:=⟨gb,go+j*2+1,none⟩) hgb).trans q1⟩ (fun hHeldN=>?_)
         clear hHeld hK K
         have hHeld:=hHeldN
         clear hHeldN
         try simp only[zz]
         refine tk2 7 rfl hHeld ?_
         try simp only[zz]
         refine tk2 8 rfl hHeld ?_
         try simp only[zz]
         refine tk2 9 rfl hHeld ?_
         try simp only[zz]
         refine wpAnyH_ready (rs:=[10]) (by kernel_rfl) (by simp) ?_
         refine AllReadyH.cons rfl (fun K hK=>?_) AllReadyH.nil
         try simp only[zz]
         go_simp
         have hBq:Below wq.heap.size wq (wq.alloc (.cells #[.slice none 0 0,.slice none 0 0] tAs)):=bbox (Below.refl _ _) _
         replace HBr:=Lib.hid (HBr.out.trans (hBq.mono hzq))
         refine hK.out _ _ ⟨(k4.next HBr.out).cell,(HBr.out.cell (p:=⟨gb,go+j*2,none⟩) hgb).trans q0,(HBr.out.cell (p:=⟨gb,go+j*2+1,none⟩) hgb).trans q1⟩ (fun hHeldN=>?_)
         clear hHeld hK K
         have hHeld:=hHeldN
         clear hHeldN
         try simp only[zz]
         have kBox:Blk (wq.alloc (.cells #[.slice none 0 0,.slice none 0 0] tAs)) wq.heap.size tAs #[.slice none 0 0,.slice none 0 0]:=Blk.new _ _ _
         obtain ⟨y,hy⟩:∃ y,y=wq.heap.size:=⟨_,rfl⟩
         have hyr:wr.heap.size≤y:=by omega
         try replace OX:=Lib.hid (OX.out.below hBq)
         replace hzq:=Nat.le_trans hzq hBq.size
         rw[←hy] at kBox ⊢
         clear hBq hy
         generalize wq.alloc (.cells #[.slice none 0 0,.slice none 0 0] tAs)=wq at *
         have lb:=kBox.lt
         have qB:=kBox.cell
         have rB:=kBox.frozen
         have HBe:=Lib.hid ((HBr.out.setCell (p:=⟨y,0,none⟩) hyr (.slice F b.facts.length f)).setCell (p:=⟨y,1,none⟩) hyr (.slice G b.atoms.length g))
         refine rdc 11 rfl fun K hK=>?_
         try simp only[zz]
         go_simp
         refine hK.out _ _ (⟨(k4.next HBe.out).cell,(HBe.out.cell (p:=⟨gb,go+j*2,none⟩) hgb).trans q0,(HBe.out.cell (p:=⟨gb,go+j*2+1,none⟩) hgb).trans q1⟩) ?_
         clear hHeld hK K
         intro hHeld
         try simp only[zz]
         refine tk2 12 rfl hHeld ?_
         try simp only[zz]
         refine wpAnyH_done (by kernel_rfl) ?_ _
         refine NoPanic.normal ?_
         go_wp2_with fail
         go_meet
         case rel=>
          refine ⟨y,F,f,G,g,b,qb,rfl,rfl,?_,Lib.hid (AsnO.setT2 OX.out kBox _ _),hE,HBe⟩
          have:=(kBox.set_ 0 (.slice F b.facts.length f)).set_ 1 (.slice G b.atoms.length g)
          simpa using this
        ·skip
         try simp only[zz]
         go_simp
         have hBq:Below wq.heap.size wq (wq.alloc (.cells #[.slice none 0 0,.slice none 0 0] tAs)):=bbox (Below.refl _ _) _
         replace HBr:=Lib.hid (HBr.out.trans (hBq.mono hzq))
         refine hK.out _ _ ⟨(k4.next HBr.out).cell,(HBr.out.cell (p:=⟨gb,go+j*2,none⟩) hgb).trans q0,(HBr.out.cell (p:=⟨gb,go+j*2+1,none⟩) hgb).trans q1⟩ (fun hHeldN=>?_)
         clear hHeld hK K
         have hHeld:=hHeldN
         clear hHeldN
         try simp only[zz]
         have kBox:Blk (wq.alloc (.cells #[.slice none 0 0,.slice none 0 0] tAs)) wq.heap.size tAs #[.slice none 0 0,.slice none 0 0]:=Blk.new _ _ _
         obtain ⟨y,hy⟩:∃ y,y=wq.heap.size:=⟨_,rfl⟩
         have hyr:wr.heap.size≤y:=by omega
         try replace OX:=Lib.hid (OX.out.below hBq)
         replace hzq:=Nat.le_trans hzq hBq.size
         rw[←hy] at kBox ⊢
         clear hBq hy
         generalize wq.alloc (.cells #[.slice none 0 0,.slice none 0 0] tAs)=wq at *
         refine wpAnyH_ready (rs:=[6]) (by kernel_rfl) (by simp) ?_
         refine AllReadyH.cons rfl (fun K hK=>?_) AllReadyH.nil
         try simp only[zz]
         go_simp
         refine (c_l10After _ x k A B t X1 X2 X3 X4 _ _ _ _ d1 d2 d3 d4 Bf cf K2 _ (HC.out.below HBr.out) hzq HXV.out (OT.out.readsI9.below HBr.out) hA hBt hx0 HKK.out).mono ?_
         rintro e wq ⟨F,f,G,g,b,qb,rfl,oX,hl1,hl2,hE,hBq⟩
         have OX:=Lib.hid (oX.lower (base':=wr.heap.size) hzq)
         replace hE:=Lib.hid hE
         replace HBr:=Lib.hid (HBr.out.trans (hBq.mono hzq))
         replace hzq:=Nat.le_trans hzq hBq.size
         try replace kBox:=kBox.next hBq
         clear hBq oX hl1 hl2
         refine hK.out _ _ ⟨(k4.next HBr.out).cell,(HBr.out.cell (p:=⟨gb,go+j*2,none⟩) hgb).trans q0,(HBr.out.cell (p:=⟨gb,go+j*2+1,none⟩) hgb).trans q1⟩ (fun hHeldN=>?_)
         clear hHeld hK K
         have hHeld:=hHeldN
         clear hHeldN
         try simp only[zz]
         refine tk2 7 rfl hHeld ?_
         try simp only[zz]
         refine tk2 8 rfl hHeld ?_
         try simp only[zz]
         refine tk2 9 rfl hHeld ?_
         try simp only[zz]
         have lb:=kBox.lt
         have qB:=kBox.cell
         have rB:=kBox.frozen
         have HBe:=Lib.hid ((HBr.out.setCell (p:=⟨y,0,none⟩) hyr (.slice F b.facts.length f)).setCell (p:=⟨y,1,none⟩) hyr (.slice G b.atoms.length g))
         refine rdc 11 rfl fun K hK=>?_
         try simp only[zz]
         go_simp
         refine hK.out _ _ (⟨(k4.next HBe.out).cell,(HBe.out.cell (p:=⟨gb,go+j*2,none⟩) hgb).trans q0,(HBe.out.cell (p:=⟨gb,go+j*2+1,none⟩) hgb).trans q1⟩) ?_
         clear hHeld hK K
         intro hHeld
         try simp only[zz]
         refine tk2 12 rfl hHeld ?_
         try simp only[zz]
         refine wpAnyH_done (by kernel_rfl) ?_ _
         refine NoPanic.normal ?_
         go_wp2_with fail
         go_meet
         case rel=>
          refine ⟨y,F,f,G,g,b,qb,rfl,rfl,?_,Lib.hid (AsnO.setT2 OX.out kBox _ _),hE,HBe⟩
          have:=(kBox.set_ 0 (.slice F b.facts.length f)).set_ 1 (.slice G b.atoms.length g)
          simpa using this
       case rest=>
        obtain ⟨y,F,f,G,g,b,qb,rfl,rfl,kx,OX,hE,HBr⟩:=hcut
        have hzn:=HBr.out.size
        have hyz:=kx.lt
        cases qb
        ·have HF:=Lib.hid (HN0.out (by rw[hE.out];rfl))
         clear HN0 HN1 hE HSM
         (replace qkx:=kx.cell;replace rkx:=kx.frozen;replace lkx:=kx.lt)
         have HBw:=Lib.hid (bbox HBr.out (.cells #[.slice F b.facts.length f,.slice G b.atoms.length g] tAs))
         have OYw:=Lib.hid (OY.out.below HBw.out)
         have ORw:=Lib.hid (OR.out.below HBw.out)
         have OTw:=Lib.hid (OT.out.below HBw.out)
         have k4w:=k4.next HBw.out
         have HBWw:=Lib.hid (bgo HB.out HBw.out)
         have hRu:Hid (∀ g,(Value.slice (some ⟨gb,go,none⟩) l.length rc).ownBlock=some g→g<wc.heap.size):=Lib.hid fun g hg=>Nat.lt_of_lt_of_le (OR.out.row.lt g hg).2 (by omega)
         have hjl:Hid (ys.length+1≤1049600):=Lib.hid (by have:=HL.out;omega)
         go_wp2_with (at_builtin;refine appA2X (w0:=wr) (base:=w.heap.size) (mid:=wr.heap.size) (ss2:=[b]) rfl _ _ rfl rfl OY.out HBw.out (by omega) (A2O.one (g:=wc.heap.size) (Blk.newE rfl) (by omega) (AsnO.below OX.out (bbox (Below.refl _ _) _))) (Nat.le_refl _) rfl hjl.out ?_;intro A6 c6 w6 hO6 hg6 hB6 hv6;have O6:=Lib.hid hO6;have OR6:=Lib.hid (ORw.out.other OYw.out hg6 HOW.out);have OT6:Hid (BoolsO w6 w.heap.size (.slice Bf 9 cf) (flagsOf K2)):=Lib.hid ⟨own_grownO OTw.out.1 OYw.out.row hg6 (by decide),OTw.out.2⟩;have k46:=Blk.grownO k4w OYw.out.row hg6 (by decide);have HB6:=Lib.hid (HBWw.out.trans hB6);have hz6:w.heap.size+3≤w6.heap.size:=Nat.le_trans hzr (Nat.le_trans HBw.out.size hg6.size);have HOW6:=Lib.hid (own_new HOW.out hRu.out hv6 (by simp));clear hO6 hg6 hB6 hv6;simp only[List.length_cons,List.length_nil,Nat.zero_add] at O6 HOW6 ⊢;rw[HL.out] at O6 HOW6 ⊢)
         go_roundg (gk - 1)
         case rel=>exact ⟨j+1,A6,c6,ys++[b],_,false,by omega,by simp[HL.out],by omega,rfl,rfl,by go_num,Lib.hid fun _=>HF.out,Lib.hid fun e=>(by cases e),O6,HOW6,OR6,OT6,k46,HB6,hz6⟩
         case measure=>omega
        ·(replace qkx:=kx.cell;replace rkx:=kx.frozen;replace lkx:=kx.lt)
         go_wp2_with fail
         refine (c_spec_AssertionValid _ b _ OX.out.reads).mono ?_
         rintro e w5 ⟨rfl,hB5⟩
         have kx5:=kx.next hB5
         have OX5:=Lib.hid (OX.out.below hB5)
         have HBr5:=Lib.hid (HBr.out.trans (hB5.mono hzn))
         have hz5:=HBr5.out.size
         clear hB5 qkx rkx lkx kx OX HBr
         obtain ⟨bv,hbv⟩:∃ x,x=b.valid:=⟨_,rfl⟩
         rw[←hbv]
         have HF0:Hid (bv=false→S=none):=Lib.hid fun e=>HN0.out (by rw[hE.out];unfold okQ;rw[←hbv,e];rfl)
         have HF1:Hid (bv=true→(S=mapF (fun x=>accF k A B x K2) l∧exposeF 7 a T K2=some l)∧∀ (q:Nat) (h1:q<(ys++[b]).length) (h2:q<l.length),accF k A B l[q] K2=some (ys++[b])[q]):=Lib.hid fun e=>⟨HSM.out,HN1.out b (by rw[hE.out];unfold okQ;rw[←hbv,e];rfl)⟩
         clear HN0 HN1 hE HSM hbv
         (replace qkx5:=kx5.cell;replace rkx5:=kx5.frozen;replace lkx5:=kx5.lt)
         have HBw:=Lib.hid (bbox HBr5.out (.cells #[.slice F b.facts.length f,.slice G b.atoms.length g] tAs))
         have OYw:=Lib.hid (OY.out.below HBw.out)
         have ORw:=Lib.hid (OR.out.below HBw.out)
         have OTw:=Lib.hid (OT.out.below HBw.out)
         have k4w:=k4.next HBw.out
         have HBWw:=Lib.hid (bgo HB.out HBw.out)
         have hRu:Hid (∀ g,(Value.slice (some ⟨gb,go,none⟩) l.length rc).ownBlock=some g→g<w5.heap.size):=Lib.hid fun g hg=>Nat.lt_of_lt_of_le (OR.out.row.lt g hg).2 (by omega)
         have hjl:Hid (ys.length+1≤1049600):=Lib.hid (by have:=HL.out;omega)
         go_wp2_with (at_builtin;refine appA2X (w0:=wr) (base:=w.heap.size) (mid:=wr.heap.size) (ss2:=[b]) rfl _ _ rfl rfl OY.out HBw.out (by omega) (A2O.one (g:=w5.heap.size) (Blk.newE rfl) (by omega) (AsnO.below OX5.out (bbox (Below.refl _ _) _))) (Nat.le_refl _) rfl hjl.out ?_;intro A6 c6 w6 hO6 hg6 hB6 hv6;have O6:=Lib.hid hO6;have OR6:=Lib.hid (ORw.out.other OYw.out hg6 HOW.out);have OT6:Hid (BoolsO w6 w.heap.size (.slice Bf 9 cf) (flagsOf K2)):=Lib.hid ⟨own_grownO OTw.out.1 OYw.out.row hg6 (by decide),OTw.out.2⟩;have k46:=Blk.grownO k4w OYw.out.row hg6 (by decide);have HB6:=Lib.hid (HBWw.out.trans hB6);have hz6:w.heap.size+3≤w6.heap.size:=Nat.le_trans hzr (Nat.le_trans HBw.out.size hg6.size);have HOW6:=Lib.hid (own_new HOW.out hRu.out hv6 (by simp));clear hO6 hg6 hB6 hv6;simp only[List.length_cons,List.length_nil,Nat.zero_add] at O6 HOW6 ⊢;rw[HL.out] at O6 HOW6 ⊢)
         go_roundg (gk - 1)
         case rel=>exact ⟨j+1,A6,c6,ys++[b],_,bv,by omega,by simp[HL.out],by omega,rfl,rfl,by go_num,HF0,HF1,O6,HOW6,OR6,OT6,k46,HB6,hz6⟩
         case measure=>omega
      ·obtain rfl:j=l.length:=by omega
       obtain ⟨⟨hSm,hex⟩,HY⟩:=HS1.out rfl
       have E3:Hid (S=some ys):=Lib.hid (by rw[hSm];exact mapF_some HL.out fun q h1 h2=>HY q h2 h1)
       have HTOT:Hid (totA ys≤16777216):=Lib.hid (by have:=HOKS.out;rw[E3.out] at this;exact this)
       clear hSm hex HY HS0 HS1
       go_wp2_with fail
       go_ret2
       exact ⟨_,by rw[←hS.out,E3.out];rfl,by rw[←hS.out,E3.out];exact ⟨⟨us,OY.out⟩,HTOT.out⟩,HB.out⟩
end

/- The exact words for SymBasic. -/
section
open Go Go.RowKit Go.Proofs
def symC (a:Asn) (x:Cm1) (ks:List Int):Option (List Asn):=symR a (okC x.k x.a x.b x.t x.i x.body x.els) x.k x.a x.b ks
theorem k_impl_SymBasic {lo hi lo1 hi1 lo' hi':Nat} (v v1:Value) (a:Asn) (x:Cm1) (A:Option Addr) (c:Nat) (ks:List Int) (w:World) (h:AsnC w lo hi v a) (hhi:hi≤w.heap.size) (h1:C1V w lo1 hi1 v1 x) (hk:IntsV w lo' hi' A ks) :
  Calls Tryz.prog 12 #[v,v1,.slice A ks.length c] w fun e w'=>∃ r,e=.returned (.tuple #[r,.bool (symC a x ks).isSome])∧AsnsR w' w.heap.size r ((symC a x ks).getD [])∧Below w.heap.size w w':=by
 obtain ⟨A1,c1,A2,c2,A3,c3,A4,c4,rfl,q1,q2,q3⟩:=h1
 exact c_impl_SymBasic v a x.k x.a x.b x.t x.i x.body x.els A1 A2 A3 A4 c1 c2 c3 c4 A c ks w h hhi q1 q2.len q3.len hk
theorem k_spec_SymBasic {lo hi lo1 hi1 lo' hi':Nat} (v v1:Value) (a:Asn) (x:Cm1) (A:Option Addr) (c:Nat) (ks:List Int) (w:World) (h:AsnC w lo hi v a) (hhi:hi≤w.heap.size) (h1:C1V w lo1 hi1 v1 x) (hk:IntsV w lo' hi' A ks) (hl:ks.length≤1048576) :
  Calls Tryz.prog 13 #[v,v1,.slice A ks.length c] w fun e w'=>∃ r,e=.returned (.tuple #[r,.bool (symC a x ks).isSome])∧AsnsR w' w.heap.size r ((symC a x ks).getD [])∧Below w.heap.size w w':=by
 obtain ⟨A1,c1,A2,c2,A3,c3,A4,c4,rfl,q1,q2,q3⟩:=h1
 exact c_spec_SymBasic v a x.k x.a x.b x.t x.i x.body x.els A1 A2 A3 A4 c1 c2 c3 c4 A c ks w h hhi q1 q2.len q3.len hk (by omega)
end

/- What the reader draws: the arguments of SymBasic. -/
section
open Go Go.RowKit Go.Proofs
attribute [local go_sem ↓] Go.wp_at_zero Go.wp_at_succ
theorem AsnO.prD {w:World} {b n m c d:Nat} {F G:Option Addr} {r:Asn} (h:AsnO w b (.agg #[.slice F n c,.slice G m d]) r):FactsO w b (.slice F n c) r.facts∧AtomsO w b (.slice G m d) r.atoms:=by
 obtain ⟨fv,av,e,h1,h2⟩:=h
 injection e with e
 injection e with e
 injection e with e1 e2
 injection e2 with e2
 subst e1 e2
 exact ⟨h1,h2⟩
theorem AsnO.setWs {w:World} {base:Nat} {v:Value} {a:Asn} (h:AsnO w base v a) {g:Nat} {cs:Array Value} (hk:Blk w g tAs cs) (u0 u1:Value):AsnO ((w.setCell ⟨g,0,none⟩ u0).setCell ⟨g,1,none⟩ u1) base v a:=by
 obtain ⟨fv,av,e,p1,p2⟩:=h
 have k1:=hk.set_ 0 u0
 exact ⟨fv,av,e,(p1.setT hk (by decide) _ _).setT k1 (by decide) _ _,(p2.setT hk (by decide) _ _).setT k1 (by decide) _ _⟩
theorem C1V.keep {w w':World} {lo hi:Nat} {v:Value} {x:Cm1} (h:C1V w lo hi v x) (hk:∀ b,lo≤b→b<hi→w'.heap[b]? = w.heap[b]?):C1V w' lo hi v x:=by
 obtain ⟨A1,c1,A2,c2,A3,c3,A4,c4,e,⟨_,_,_,_,e1,h1,h2⟩,h3,h4⟩:=h
 exact ⟨A1,c1,A2,c2,A3,c3,A4,c4,e,⟨_,_,_,_,e1,h1.keep hk,h2.keep hk⟩,⟨h3.1.keep hk,h3.2⟩,⟨h4.1.keep hk,h4.2⟩⟩
theorem C1V.mono_ {w:World} {lo hi lo' hi':Nat} {v:Value} {x:Cm1} (h:C1V w lo hi v x) (e1:lo'≤lo) (e2:hi≤hi'):C1V w lo' hi' v x:=by
 obtain ⟨A1,c1,A2,c2,A3,c3,A4,c4,e,h1,h2,h3⟩:=h
 exact ⟨A1,c1,A2,c2,A3,c3,A4,c4,e,h1.mono e1 e2,h2.mono e1 e2,h3.mono e1 e2⟩
theorem CmsV.one {w:World} {X lo hi:Nat} {k a b:Int} (h:Blk w X tC (simC k a b)) (h1:lo≤X) (h2:X<hi):CmsV w lo hi (some ⟨X,0,none⟩) (.cons k a b ⟨false,0,0⟩ ⟨[],[]⟩ .nil .nil .nil):=fun _=>by
 refine ⟨X,0,rfl,h1,h2,?_⟩
 have hc:=h.cell
 unfold simC at hc
 have nil3:∀ (A:Option Addr),Rw w lo hi 3 A 0 []:=fun A=>⟨by simp,fun h=>absurd h (by decide)⟩
 refine ⟨⟨hc 0,hc 1,hc 2,hc 3,hc 4,hc 5⟩,⟨none,0,hc 6,nil3 _⟩,⟨none,0,hc 7,nil3 _⟩,⟨none,0,hc 8,fun h=>absurd h (by decide)⟩,⟨none,0,hc 9,fun h=>absurd h (by decide)⟩,trivial⟩
theorem CmsV.head {w:World} {lo hi:Nat} {A:Option Addr} {L:Cms} (h:CmsV w lo hi A L) (h1:1≤L.len) (hc:L.len+L.cost≤1000):∃ (x:Cm1) (b o:Nat) (A1:Option Addr) (c1:Nat) (A2:Option Addr) (c2:Nat) (A3:Option Addr) (c3:Nat) (A4:Option Addr) (c4:Nat),A=some ⟨b,o,none⟩∧lo≤b∧b<hi∧
  (w.cell? ⟨b,o,none⟩=some (.int .i64 x.k)∧w.cell? ⟨b,o+1,none⟩=some (.int .i64 x.a)∧w.cell? ⟨b,o+2,none⟩=some (.int .i64 x.b)∧w.cell? ⟨b,o+3,none⟩=some (.bool x.t.eq)∧w.cell? ⟨b,o+4,none⟩=some (.int .i64 x.t.a)∧w.cell? ⟨b,o+5,none⟩=some (.int .i64 x.t.b)∧
   w.cell? ⟨b,o+6,none⟩=some (.slice A1 x.i.facts.length c1)∧w.cell? ⟨b,o+7,none⟩=some (.slice A2 x.i.atoms.length c2)∧w.cell? ⟨b,o+8,none⟩=some (.slice A3 x.body.len c3)∧w.cell? ⟨b,o+9,none⟩=some (.slice A4 x.els.len c4))∧
  C1V w lo hi (.agg #[.int .i64 x.k,.int .i64 x.a,.int .i64 x.b,.bool x.t.eq,.int .i64 x.t.a,.int .i64 x.t.b,.slice A1 x.i.facts.length c1,.slice A2 x.i.atoms.length c2,.slice A3 x.body.len c3,.slice A4 x.els.len c4]) x:=by
 cases L with
 | nil=>simp[Cms.len] at h1
 | cons k a b t i body els r=>
  obtain ⟨bl,o,e,g1,g2,⟨q0,q1,q2,q3,q4,q5⟩,⟨A1,c1,q6,r6⟩,⟨A2,c2,q7,r7⟩,⟨A3,c3,q8,r8⟩,⟨A4,c4,q9,r9⟩,-⟩:=h (by omega)
  simp only[Cms.cost] at hc
  have p1:i.facts.length≤1049600:=by omega
  have p2:i.atoms.length≤1049600:=by omega
  have p3:body.len+body.cost≤1048576:=by omega
  have p4:els.len+els.cost≤1048576:=by omega
  refine ⟨⟨k,a,b,t,i,body,els⟩,bl,o,A1,c1,A2,c2,A3,c3,A4,c4,e,g1,g2,⟨q0,q1,q2,q3,q4,q5,q6,q7,q8,q9⟩,A1,c1,A2,c2,A3,c3,A4,c4,rfl,⟨_,_,_,_,rfl,⟨r6,p1⟩,⟨r7,p2⟩⟩,⟨r8,p3⟩,⟨r9,p4⟩⟩
def ptW (w:World) (g:Nat) (v0 v1 v2 v3 v4 v5 v6 v7 v8 v9:Value):World:=((((((((((w.setCell ⟨g,0,none⟩ v0).setCell ⟨g,1,none⟩ v1).setCell ⟨g,2,none⟩ v2).setCell ⟨g,3,none⟩ v3).setCell ⟨g,4,none⟩ v4).setCell ⟨g,5,none⟩ v5).setCell ⟨g,6,none⟩ v6).setCell ⟨g,7,none⟩ v7).setCell ⟨g,8,none⟩ v8).setCell ⟨g,9,none⟩ v9)
section
variable {w:World} {g:Nat} {v0 v1 v2 v3 v4 v5 v6 v7 v8 v9:Value}
theorem ptW_size:(ptW w g v0 v1 v2 v3 v4 v5 v6 v7 v8 v9).heap.size=w.heap.size:=by unfold ptW;simp only[World.size_setCell]
theorem ptW_heap {b:Nat} (h:b≠g):(ptW w g v0 v1 v2 v3 v4 v5 v6 v7 v8 v9).heap[b]? = w.heap[b]?:=by
 unfold ptW
 iterate 10 (refine (Below.heap_setCell _ _ _ b h).trans ?_)
 rfl
theorem ptW_far {x:Nat} {t:TypeId} {cs:Array Value} (k:Blk w x t cs) (h:x≠g):Blk (ptW w g v0 v1 v2 v3 v4 v5 v6 v7 v8 v9) x t cs:=(ptW_heap h).trans k
theorem ptW_blk {t:TypeId} {c0 c1 c2 c3 c4 c5 c6 c7 c8 c9:Value} (k:Blk w g t #[c0,c1,c2,c3,c4,c5,c6,c7,c8,c9]):Blk (ptW w g v0 v1 v2 v3 v4 v5 v6 v7 v8 v9) g t #[v0,v1,v2,v3,v4,v5,v6,v7,v8,v9]:=by
 have h:=(((((((((k.set_ 0 v0).set_ 1 v1).set_ 2 v2).set_ 3 v3).set_ 4 v4).set_ 5 v5).set_ 6 v6).set_ 7 v7).set_ 8 v8).set_ 9 v9
 simp only[zD,zE,zF] at h
 exact h
theorem ptW_below {B:Nat} {a:World} (h:Below B a w) (hg:B≤g):Below B a (ptW w g v0 v1 v2 v3 v4 v5 v6 v7 v8 v9):=by
 unfold ptW
 iterate 10 (refine Below.setCell ?_ hg _)
 exact h
theorem ptW_own {base:Nat} {e t:TypeId} {size n:Nat} {v:Value} {xs:List Value} {cs:Array Value} (h:w.ownsRow base e size v n xs) (k:Blk w g t cs) (ht:t≠e):(ptW w g v0 v1 v2 v3 v4 v5 v6 v7 v8 v9).ownsRow base e size v n xs:=by
 unfold ptW
 exact own_setT (own_setT (own_setT (own_setT (own_setT (own_setT (own_setT (own_setT (own_setT (own_setT h k ht 0 v0) (k.set_ 0 v0) ht 1 v1) ((k.set_ 0 v0).set_ 1 v1) ht 2 v2) (((k.set_ 0 v0).set_ 1 v1).set_ 2 v2) ht 3 v3) ((((k.set_ 0 v0).set_ 1 v1).set_ 2 v2).set_ 3 v3) ht 4 v4) (((((k.set_ 0 v0).set_ 1 v1).set_ 2 v2).set_ 3 v3).set_ 4 v4) ht 5 v5) ((((((k.set_ 0 v0).set_ 1 v1).set_ 2 v2).set_ 3 v3).set_ 4 v4).set_ 5 v5) ht 6 v6) (((((((k.set_ 0 v0).set_ 1 v1).set_ 2 v2).set_ 3 v3).set_ 4 v4).set_ 5 v5).set_ 6 v6) ht 7 v7) ((((((((k.set_ 0 v0).set_ 1 v1).set_ 2 v2).set_ 3 v3).set_ 4 v4).set_ 5 v5).set_ 6 v6).set_ 7 v7) ht 8 v8) (((((((((k.set_ 0 v0).set_ 1 v1).set_ 2 v2).set_ 3 v3).set_ 4 v4).set_ 5 v5).set_ 6 v6).set_ 7 v7).set_ 8 v8) ht 9 v9
end
theorem c_DrawSymBasic (A:Option Addr) (n c:Nat) (w:World) (h:BytesR w A n c) :
  Calls Tryz.prog 11 #[.slice A n c] w fun e w'=>∃ r1 r2 a x K ks kc,e=.returned (.tuple #[r1,r2,.slice K ks.length kc])∧AsnO w' w.heap.size r1 a∧C1V w' (w.heap.size+2) w'.heap.size r2 x∧IntsO w' w.heap.size (.slice K ks.length kc) ks∧ks.length≤2∧(a.facts.length≤100∧a.atoms.length≤100)∧Below w.heap.size w w':=by
 have hw0:((w.alloc (.cells #[.slice none 0 0,.slice none 0 0] tAs)).alloc (.cells (simC 0 0 0) tC)).heap.size=w.heap.size+2:=by simp
 have HR0:Hid (BytesR ((w.alloc (.cells #[.slice none 0 0,.slice none 0 0] tAs)).alloc (.cells (simC 0 0 0) tC)) A n c):=by
  obtain ⟨bs,h1,h2,h3⟩:=h
  exact ⟨bs,h1,(h2.below (bbox (bbox (Below.refl _ _) _) _)).mono (Nat.le_refl _) (by simp;omega),h3⟩
 clear h
 go_enter Tryz.func11,Tryz.ntmps11
 obtain ⟨k2,k3⟩:=blk2 w tAs tC #[.slice none 0 0,.slice none 0 0] (simC 0 0 0)
 have hB0:Below w.heap.size w ((w.alloc (.cells #[.slice none 0 0,.slice none 0 0] tAs)).alloc (.cells (simC 0 0 0) tC)):=bel
 unfold simC at k2 k3 hB0 hw0 HR0
 go_upto_region 1 with fail
 generalize ((w.alloc (.cells #[.slice none 0 0,.slice none 0 0] tAs)).alloc (.cells #[.int .i64 0,.int .i64 0,.int .i64 0,.bool false,.int .i64 0,.int .i64 0,.slice none 0 0,.slice none 0 0,.slice none 0 0,.slice none 0 0] tC))=W at k2 k3 hB0 hw0 HR0 ⊢
 go_wp2_with fail
 refine (c_l18Open A n c _ HR0.out).mono ?_
 rintro e w1 ⟨g,rfl,hg,hR,hB1⟩
 (replace hB0:=bgo hB0 hB1;replace k2:=k2.next hB1;replace k3:=k3.next hB1)
 have hs1:=hB1.size
 have lg:=hR.lt
 have HR:=Lib.hid hR
 have hgw:w.heap.size+2≤g:=by omega
 clear hR hB1 HR0
 go_wp2_with fail
 refine (c_l10Pre g 0 _ HR.out (by omega)).mono ?_
 rintro e w2 ⟨r2,a2,q2,rfl,o2,hl2,hR,hq2,hF⟩
 replace k2:=k2.fr hF (by omega)
 replace k3:=k3.fr hF (by omega)
 have hs2:=hF.size
 have HO:=Lib.hid o2
 have HF:=Lib.hid hF
 clear HR
 have HR:=Lib.hid hR
 clear hR hF o2
 go_wp2_with fail
 refine (c_l3Mutate g q2 _ a2 _ HR.out (by omega) HO.out.reads (by omega) (by omega)).mono ?_
 rintro e w3 ⟨r3,a,q3,rfl,o3,hl3,hx3,hR,hq3,hF⟩
 obtain ⟨F,f,G,d,rfl⟩:=o3.I.form
 have hs3:=hF.size
 have hbx:=bbox (Below.refl _ w3) (.cells #[.slice F a.facts.length f,.slice G a.atoms.length d] tAs)
 replace k2:=(k2.fr hF (by omega)).next hbx
 replace k3:=(k3.fr hF (by omega)).next hbx
 have k6:=Blk.new w3 tAs #[.slice F a.facts.length f,.slice G a.atoms.length d]
 replace HF:=Lib.hid ((HF.out.trans hF).go hbx)
 clear HR HO
 have HR:=Lib.hid (hR.below hbx)
 have HA:=Lib.hid ((o3.below hbx).lower (base':=g+1) (by omega))
 have hsb:w3.heap.size<(w3.alloc (.cells #[.slice F a.facts.length f,.slice G a.atoms.length d] tAs)).heap.size:=by simp
 clear hR hF o3 hbx
 go_upto_region 3 with fail
 have hy3:w1.heap.size≤w3.heap.size:=by omega
 obtain ⟨y,hy⟩:∃ y,y=w3.heap.size:=⟨_,rfl⟩
 rw[←hy] at k6 hsb hs3 hy3 ⊢
 generalize (w3.alloc (.cells #[.slice F a.facts.length f,.slice G a.atoms.length d] tAs))=V at *
 clear hy
 go_wp2_with fail
 refine (c_l8Simple g q3 _ HR.out (by omega)).mono ?_
 rintro e w4 ⟨k,x1,x2,rfl,hR,hF⟩
 have hs4:=hF.size
 unfold simC
 have hbx:=bbox (Below.refl _ w4) (.cells #[.int .i64 k,.int .i64 x1,.int .i64 x2,.bool false,.int .i64 0,.int .i64 0,.slice none 0 0,.slice none 0 0,.slice none 0 0,.slice none 0 0] tC)
 have kc:=Blk.new w4 tC #[.int .i64 k,.int .i64 x1,.int .i64 x2,.bool false,.int .i64 0,.int .i64 0,.slice none 0 0,.slice none 0 0,.slice none 0 0,.slice none 0 0]
 replace k2:=(k2.fr hF (by omega)).next hbx
 replace k3:=(k3.fr hF (by omega)).next hbx
 replace k6:=(k6.fr hF (by omega)).next hbx
 replace HF:=Lib.hid ((HF.out.trans hF).go hbx)
 replace HA:=Lib.hid ((HA.out.fr hF (by omega)).below hbx)
 clear HR
 have HR:=Lib.hid (hR.below hbx)
 have hsc:w4.heap.size<(w4.alloc (.cells #[.int .i64 k,.int .i64 x1,.int .i64 x2,.bool false,.int .i64 0,.int .i64 0,.slice none 0 0,.slice none 0 0,.slice none 0 0,.slice none 0 0] tC)).heap.size:=by simp
 have HC:=Lib.hid (CmsV.one (lo:=w4.heap.size) (hi:=w4.heap.size+1) (k:=k) (a:=x1) (b:=x2) kc (Nat.le_refl _) (by omega))
 clear hR hF hbx
 go_wp2_with fail
 refine (c_l8Mutate g (q3+3) _ _ _ 1 w4.heap.size (w4.heap.size+1) HR.out (by omega) HC.out (by simp[Cms.len]) (by simp[Cms.len,Cms.cost])).mono ?_
 rintro e w5 ⟨A',c',L,rfl,hL,hLc,⟨q5,hq5,-,hF,hR⟩,hlc,hl1⟩
 have hs5:=hF.size
 replace k2:=k2.fr hF (by omega)
 replace k3:=k3.fr hF (by omega)
 replace k6:=k6.fr hF (by omega)
 replace HF:=Lib.hid (HF.out.trans hF)
 replace HA:=Lib.hid (HA.out.fr hF (by omega))
 clear HR
 have HR:=Lib.hid hR
 obtain ⟨x,b,o,A1,y1,A2,y2,A3,y3,A4,y4,rfl,hb1,hb2,⟨g0,g1,g2,g3,g4,g5,g6,g7,g8,g9⟩,hX⟩:=hL.head hl1 hLc
 have HX:=Lib.hid hX
 have hLi:(0:Int)<(L.len:Int):=by omega
 have hLn:0<L.len:=hl1
 have hLne:¬L.len=0:=by omega
 clear hR hF hL hX HC kc
 go_wp2_with fail
 refine wp_region_noPanic ?_
 refine wp_region_held_drew (S:=(fun w'=>(∀ i,w'.cell? ⟨y,i,none⟩=#[.slice F a.facts.length f,.slice G a.atoms.length d][i]?)∧(∀ j,w'.cell? ⟨b,j,none⟩=w5.cell? ⟨b,j,none⟩))) (by kernel_rfl) (⟨k6.drew.cell,fun j=>rfl⟩) (fun hHeld=>?_)
 have hbk:w5.drew.heap[b]? = w5.heap[b]?:=rfl
 have hdr:Below w5.heap.size w5 w5.drew:=(Below.refl _ _).drew
 replace k2:=k2.next hdr
 replace k3:=k3.next hdr
 replace k6:=k6.next hdr
 replace HF:=Lib.hid (HF.out.go hdr)
 replace HA:=Lib.hid (HA.out.below hdr)
 replace HX:=Lib.hid (HX.out.below hdr)
 replace HR:=Lib.hid (HR.out.below hdr)
 have hs8:w5.heap.size≤w5.drew.heap.size:=Nat.le_refl _
 clear hdr
 obtain ⟨lo5,hlo5⟩:∃ z,z=(w4.alloc (.cells #[.int .i64 k,.int .i64 x1,.int .i64 x2,.bool false,.int .i64 0,.int .i64 0,.slice none 0 0,.slice none 0 0,.slice none 0 0,.slice none 0 0] tC)).heap.size:=⟨_,rfl⟩
 rw[←hlo5] at hb1 HX hsc hs5
 clear hlo5
 generalize w5.drew=V6 at *
 refine tk2 0 rfl hHeld ?_
 try simp only[zz]
 refine tk2 1 rfl hHeld ?_
 try simp only[zz]
 refine tk2 2 rfl hHeld ?_
 try simp only[zz]
 refine tk2 3 rfl hHeld ?_
 try simp only[zz]
 refine tk2 4 rfl hHeld ?_
 try simp only[zz]
 refine rdc 5 rfl fun K hK=>?_
 try simp only[zz]
 (go_simp;refine (c_l10Keep g q5 _ HR.out (by omega)).mono ?_;rintro e w6 ⟨r6,ks,q6,rfl,o6,hkl,hR6,hq6,hF6⟩;have hs6:=hF6.size;replace k2:=k2.fr hF6 (by omega);replace k3:=k3.fr hF6 (by omega);replace k6:=k6.fr hF6 (by omega);replace HF:=Lib.hid (HF.out.trans hF6);replace HA:=Lib.hid (HA.out.fr hF6 (by omega));replace HX:=Lib.hid (HX.out.keep fun b' p1 p2=>hF6.block b' (by omega) (by omega));replace hbk:=(hF6.block b (by omega) (by omega)).trans hbk;obtain ⟨KA,kc,rfl,-⟩:=o6.reads;have HO:=Lib.hid (o6.lower (base':=w.heap.size+2) (by omega));clear o6 hR6 hF6)
 refine hK.out _ _ (⟨k6.cell,fun j=>World.cell?_of_block (a:=⟨b,j,none⟩) hbk⟩) ?_
 clear hHeld hK K
 intro hHeld
 try simp only[zz]
 have q2c:=k2.cell
 have r2c:=k2.frozen
 have l2c:=k2.lt
 refine rdc 6 rfl fun K hK=>?_
 try simp only[zz]
 (go_simp;replace hbk:=((Below.heap_setCell _ ⟨w.heap.size,1,none⟩ (.slice G a.atoms.length d) b (by simp only;omega)).trans (Below.heap_setCell _ ⟨w.heap.size,0,none⟩ (.slice F a.facts.length f) b (by simp only;omega))).trans hbk)
 refine hK.out _ _ (⟨((k6.far (p:=⟨w.heap.size,0,none⟩) (by simp only;omega) (.slice F a.facts.length f)).far (p:=⟨w.heap.size,1,none⟩) (by simp only;omega) (.slice G a.atoms.length d)).cell,fun j=>World.cell?_of_block (a:=⟨b,j,none⟩) hbk⟩) ?_
 clear hHeld hK K
 intro hHeld
 try simp only[zz]
 replace k3:=(k3.far (p:=⟨w.heap.size,0,none⟩) (by simp only;omega) (.slice F a.facts.length f)).far (p:=⟨w.heap.size,1,none⟩) (by simp only;omega) (.slice G a.atoms.length d)
 replace k6:=(k6.far (p:=⟨w.heap.size,0,none⟩) (by simp only;omega) (.slice F a.facts.length f)).far (p:=⟨w.heap.size,1,none⟩) (by simp only;omega) (.slice G a.atoms.length d)
 have hwz:w.heap.size+2≤w6.heap.size:=by omega
 have kk2:=(k2.set_ 0 (.slice F a.facts.length f)).set_ 1 (.slice G a.atoms.length d)
 have hBq:Below w.heap.size w ((w6.setCell ⟨w.heap.size,0,none⟩ (.slice F a.facts.length f)).setCell ⟨w.heap.size,1,none⟩ (.slice G a.atoms.length d)):=((hB0.trans (HF.out.below (by omega) (by omega))).setCell (p:=⟨w.heap.size,0,none⟩) (Nat.le_refl _) _).setCell (p:=⟨w.heap.size,1,none⟩) (Nat.le_refl _) _
 have HA7:=Lib.hid (AsnO.setWs HA.out k2 (.slice F a.facts.length f) (.slice G a.atoms.length d))
 have HO7:=Lib.hid ((HO.out.setT k2 (by decide) 0 (.slice F a.facts.length f)).setT (k2.set_ 0 (.slice F a.facts.length f)) (by decide) 1 (.slice G a.atoms.length d))
 have HX7:=Lib.hid (HX.out.keep (w':=(w6.setCell ⟨w.heap.size,0,none⟩ (.slice F a.facts.length f)).setCell ⟨w.heap.size,1,none⟩ (.slice G a.atoms.length d)) fun b' p1 p2=>(Below.heap_setCell _ _ _ b' (by simp only;omega)).trans (Below.heap_setCell _ _ _ b' (by simp only;omega)))
 have hs7:w6.heap.size≤((w6.setCell ⟨w.heap.size,0,none⟩ (.slice F a.facts.length f)).setCell ⟨w.heap.size,1,none⟩ (.slice G a.atoms.length d)).heap.size:=by simp
 clear HA HO HX HF q2c r2c l2c k2
 generalize ((w6.setCell ⟨w.heap.size,0,none⟩ (.slice F a.facts.length f)).setCell ⟨w.heap.size,1,none⟩ (.slice G a.atoms.length d))=V7 at *
 have hyne:y≠w.heap.size+1:=by omega
 have hbne:b≠w.heap.size+1:=by omega
 have q3c:=k3.cell
 have r3c:=k3.frozen
 have l3c:=k3.lt
 refine rdc 7 rfl fun K hK=>?_
 try simp only[zz]
 go_simp
 refine hK.out _ (ptW V7 (w.heap.size+1) (.int .i64 x.k) (.int .i64 x.a) (.int .i64 x.b) (.bool x.t.eq) (.int .i64 x.t.a) (.int .i64 x.t.b) (.slice A1 x.i.facts.length y1) (.slice A2 x.i.atoms.length y2) (.slice A3 x.body.len y3) (.slice A4 x.els.len y4)) ⟨(ptW_far k6 hyne).cell,fun j=>World.cell?_of_block (a:=⟨b,j,none⟩) ((ptW_heap (b:=b) hbne).trans hbk)⟩ ?_
 clear hHeld hK K
 intro hHeld
 try simp only[zz]
 refine tk2 8 rfl hHeld ?_
 try simp only[zz]
 refine wpAnyH_done (by kernel_rfl) ?_ _
 refine NoPanic.normal ?_
 have z2:Blk (ptW V7 (w.heap.size+1) (.int .i64 x.k) (.int .i64 x.a) (.int .i64 x.b) (.bool x.t.eq) (.int .i64 x.t.a) (.int .i64 x.t.b) (.slice A1 x.i.facts.length y1) (.slice A2 x.i.atoms.length y2) (.slice A3 x.body.len y3) (.slice A4 x.els.len y4)) w.heap.size tAs #[.slice F a.facts.length f,.slice G a.atoms.length d]:=ptW_far (by simpa using kk2) (by omega)
 have z3:Blk (ptW V7 (w.heap.size+1) (.int .i64 x.k) (.int .i64 x.a) (.int .i64 x.b) (.bool x.t.eq) (.int .i64 x.t.a) (.int .i64 x.t.b) (.slice A1 x.i.facts.length y1) (.slice A2 x.i.atoms.length y2) (.slice A3 x.body.len y3) (.slice A4 x.els.len y4)) (w.heap.size+1) tC #[.int .i64 x.k,.int .i64 x.a,.int .i64 x.b,.bool x.t.eq,.int .i64 x.t.a,.int .i64 x.t.b,.slice A1 x.i.facts.length y1,.slice A2 x.i.atoms.length y2,.slice A3 x.body.len y3,.slice A4 x.els.len y4]:=ptW_blk k3
 have E1:Hid (AsnO (ptW V7 (w.heap.size+1) (.int .i64 x.k) (.int .i64 x.a) (.int .i64 x.b) (.bool x.t.eq) (.int .i64 x.t.a) (.int .i64 x.t.b) (.slice A1 x.i.facts.length y1) (.slice A2 x.i.atoms.length y2) (.slice A3 x.body.len y3) (.slice A4 x.els.len y4)) w.heap.size (.agg #[.slice F a.facts.length f,.slice G a.atoms.length d]) a):=by
  obtain ⟨p1,p2⟩:=AsnO.prD HA7.out
  exact ⟨_,_,rfl,FactsO.lower (base:=g+1) ⟨ptW_own p1.1 k3 (by decide),p1.2⟩ (by omega),AtomsO.lower (base:=g+1) ⟨ptW_own p2.1 k3 (by decide),p2.2⟩ (by omega)⟩
 have E2:Hid (IntsO (ptW V7 (w.heap.size+1) (.int .i64 x.k) (.int .i64 x.a) (.int .i64 x.b) (.bool x.t.eq) (.int .i64 x.t.a) (.int .i64 x.t.b) (.slice A1 x.i.facts.length y1) (.slice A2 x.i.atoms.length y2) (.slice A3 x.body.len y3) (.slice A4 x.els.len y4)) w.heap.size (.slice KA ks.length kc) ks):=IntsO.lower (base:=w.heap.size+2) ⟨ptW_own HO7.out.1 k3 (by decide),HO7.out.2⟩ (by omega)
 have E3:Hid (C1V (ptW V7 (w.heap.size+1) (.int .i64 x.k) (.int .i64 x.a) (.int .i64 x.b) (.bool x.t.eq) (.int .i64 x.t.a) (.int .i64 x.t.b) (.slice A1 x.i.facts.length y1) (.slice A2 x.i.atoms.length y2) (.slice A3 x.body.len y3) (.slice A4 x.els.len y4)) (w.heap.size+2) (ptW V7 (w.heap.size+1) (.int .i64 x.k) (.int .i64 x.a) (.int .i64 x.b) (.bool x.t.eq) (.int .i64 x.t.a) (.int .i64 x.t.b) (.slice A1 x.i.facts.length y1) (.slice A2 x.i.atoms.length y2) (.slice A3 x.body.len y3) (.slice A4 x.els.len y4)).heap.size (.agg #[.int .i64 x.k,.int .i64 x.a,.int .i64 x.b,.bool x.t.eq,.int .i64 x.t.a,.int .i64 x.t.b,.slice A1 x.i.facts.length y1,.slice A2 x.i.atoms.length y2,.slice A3 x.body.len y3,.slice A4 x.els.len y4]) x):=by
  have e9:V7.heap.size=(ptW V7 (w.heap.size+1) (.int .i64 x.k) (.int .i64 x.a) (.int .i64 x.b) (.bool x.t.eq) (.int .i64 x.t.a) (.int .i64 x.t.b) (.slice A1 x.i.facts.length y1) (.slice A2 x.i.atoms.length y2) (.slice A3 x.body.len y3) (.slice A4 x.els.len y4)).heap.size:=ptW_size.symm
  exact C1V.mono_ (C1V.keep (w':=(ptW V7 (w.heap.size+1) (.int .i64 x.k) (.int .i64 x.a) (.int .i64 x.b) (.bool x.t.eq) (.int .i64 x.t.a) (.int .i64 x.t.b) (.slice A1 x.i.facts.length y1) (.slice A2 x.i.atoms.length y2) (.slice A3 x.body.len y3) (.slice A4 x.els.len y4))) HX7.out fun b' p1 p2=>ptW_heap (by omega)) (by omega) (by rw[←e9];omega)
 have E4:Hid (Below w.heap.size w (ptW V7 (w.heap.size+1) (.int .i64 x.k) (.int .i64 x.a) (.int .i64 x.b) (.bool x.t.eq) (.int .i64 x.t.a) (.int .i64 x.t.b) (.slice A1 x.i.facts.length y1) (.slice A2 x.i.atoms.length y2) (.slice A3 x.body.len y3) (.slice A4 x.els.len y4))):=ptW_below hBq (by omega)
 clear HA7 HO7 HX7 hBq k3 k6 kk2 hbk hHeld q3c r3c l3c g0 g1 g2 g3 g4 g5 g6 g7 g8 g9
 generalize (ptW V7 (w.heap.size+1) (.int .i64 x.k) (.int .i64 x.a) (.int .i64 x.b) (.bool x.t.eq) (.int .i64 x.t.a) (.int .i64 x.t.b) (.slice A1 x.i.facts.length y1) (.slice A2 x.i.atoms.length y2) (.slice A3 x.body.len y3) (.slice A4 x.els.len y4))=V9 at *
 (replace qz2:=z2.cell;replace rz2:=z2.frozen;replace lz2:=z2.lt;replace qz3:=z3.cell;replace rz3:=z3.frozen;replace lz3:=z3.lt)
 go_wp2_with fail
 refine bodyPost_ret (v:=.tuple #[.agg #[.slice F a.facts.length f,.slice G a.atoms.length d],.agg #[.int .i64 x.k,.int .i64 x.a,.int .i64 x.b,.bool x.t.eq,.int .i64 x.t.a,.int .i64 x.t.b,.slice A1 x.i.facts.length y1,.slice A2 x.i.atoms.length y2,.slice A3 x.body.len y3,.slice A4 x.els.len y4],.slice KA ks.length kc]) (by simp[results,Tryz.results11,go_sem,qz2,lz2,qz3,lz3]) rfl ?_
 exact ⟨_,_,a,x,KA,ks,kc,rfl,E1.out,E3.out,E2.out,hkl,⟨by omega,by omega⟩,E4.out⟩
end

end Go.Proofs.YtmcgbeladjlcpaaGreat
