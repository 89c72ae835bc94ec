/- Symbolic execution: spec.SymBasic. Printed by genSymU.py. -/
import Derived.Test.YtjaohekkmlkinaaGreatMaCmdI
import Derived.Deep.DeepCutAuto
import Derived.IntWalk
set_option linter.unusedSimpArgs false
set_option linter.unusedVariables false
set_option maxRecDepth 100000
set_option maxHeartbeats 25600000
namespace Go.Proofs.YtjaohekkmlkinaaGreat
section
open Go Go.RowKit Go.Proofs
attribute [local go_sem ↓] Go.wp_at_zero Go.wp_at_succ
theorem IntsV.two {w:World} {g:Nat} {a b:Int} (h:Blk w g tI #[.int .i64 a,.int .i64 b]):IntsV w g (g+1) (some ⟨g,0,none⟩) [a,b]:=
 ⟨⟨by simp[encI],fun _=>⟨g,0,rfl,Nat.le_refl _,Nat.lt_succ_self _,fun j u hu=>by rw[Nat.zero_add,h.cell];simpa[encI] using hu⟩⟩,by simp[Lim]⟩
theorem keep_tset (ks:List Int) (A B:Int):tset (ks++[A,B])=keepK (tset ks) A B:=by
 unfold keepK tset;rw[List.foldl_append];rfl
theorem keep_idem {S:Nat} {A B T:Int} (h:T=A∨T=B):tins (keepK S A B) T=keepK S A B:=by
 refine Nat.eq_of_testBit_eq fun n=>?_;unfold keepK;rw[tins_bit,tins_bit,tins_bit];rcases h with rfl|rfl
 ·generalize decide (jq T=true∧T=(n:Int))=x;cases S.testBit n<;>cases x<;>simp
 ·generalize decide (jq T=true∧T=(n:Int))=x;cases S.testBit n<;>cases x<;>simp
section
variable {w w':World} {b b':Nat} {v v':Value} {vs vs':List Value} {ss ss':List Asn}
theorem A2O.other (h:A2O w b v vs ss) (h':A2O w b' v' vs' ss') (hg:w.grownBy w' v'.ownBlock) (hne:∀ g,v'.ownBlock=some g→v.ownBlock≠some g):A2O w' b v vs ss:=by
 refine ⟨?_,h.lim,h.els.grown h'.row hg (by decide) (by decide)⟩;rcases h.row.2 with h1|⟨g,cap,cur,rfl,hb,hk,hr⟩
 ·exact ⟨h.row.1,.inl h1⟩
 ·exact ⟨h.row.1,.inr ⟨g,cap,cur,rfl,hb,(hg.block g (Array.getElem?_eq_some_iff.1 hk).1 (fun e=>hne g e.symm rfl)).trans hk,hr⟩⟩
end
theorem own_new {R V V':Value} {n m:Nat} (h:∀ g,V.ownBlock=some g→R.ownBlock≠some g) (hR:∀ g,R.ownBlock=some g→g<n) (hv:V'.ownBlock=V.ownBlock∨V'.ownBlock=some m) (hm:n≤m):∀ g,V'.ownBlock=some g→R.ownBlock≠some g:=fun g hg hr=>by
 rcases hv with e|e
 ·exact h g (e.symm.trans hg) hr
 ·have e2:m=g:=Option.some.inj (e.symm.trans hg);have:=hR g hr;omega
theorem Blk.apart {w w':World} {g:Nat} {t:TypeId} {cs:Array Value} {row:Option Nat} (h:Blk w g t cs) (hg:w.grownBy w' row) (hne:some g=row→False):Blk w' g t cs:=(hg.block g h.lt hne).trans h
theorem stepIL2 {ops:Array Oper} {o:Oper} {a:Act} {K:Act→World→Prop} {Q:Exit→Act→World→Prop} {E:Prop} {w:World} {base lo hi c:Nat} {v:Value} {A:Option Addr} (hgd:o.guard=none) (s x:Operand) (ho:o.op=.call { callee:=.builtin .append,args:=#[s,x],argTypes:=#[31,31] })
  {xs ys:List Int} (hs:a.eval s=v) (hown:IntsO w base v xs) (hx:a.eval x=.slice A ys.length c) (hR:IntsV w lo hi A ys) (hn:xs.length+ys.length≤1049600) (hb:base≤w.heap.size)
  (h:∀ A' c' w',IntsO w' base (.slice A' (xs++ys).length c') (xs++ys)→w.grownBy w' v.ownBlock→Below base w w'→K (a.put o.dst (.slice A' (xs++ys).length c')) w'):if Region.wanted o (yielded ops a.tmps)=true then Oper.wp Tryz.prog o a w K Q else E:=by
 have hw:Region.wanted o (yielded ops a.tmps)=true:=by simp[Region.wanted,hgd]
 rw[if_pos hw];refine wp_appL s x 31 ho Tryz.underlying31 infoI rfl (by decide) (by decide) hs hown.1 hx hR.raw (encI_one _) hn hb ?_;intro v' w' h1 h2 h3;have hO:IntsO w' base v' (xs++ys):=⟨by rw[List.length_append,show encI (xs++ys)=encI xs++encI ys from List.map_append];exact h1,by simp[Lim];omega⟩;obtain ⟨A',c',rfl,-⟩:=hO.rj;exact h A' c' w' hO h2 h3
section
variable {ops:Array Oper} {rest:List Oper} {o:Oper} {a:Act} {Q:Exit→Act→World→Prop} {w w0:World} {base mid:Nat} {v v2:Value} {vs vs2:List Value} {ss ss2:List Asn}
theorem appA2X (hgd:o.guard=none) (s x:Operand) (ho:o.op=.call { callee:=.builtin .append,args:=#[s,x],argTypes:=#[83,83] })
  (hs:a.eval s=v) (h0:A2O w0 base v vs ss) (hb0:Below w0.heap.size w0 w) (hbase:base≤w0.heap.size) (h2:A2O w mid v2 vs2 ss2) (hm:w0.heap.size≤mid) (hx:a.eval x=v2) (hl:ss.length+ss2.length≤1049600)
  (h:∀ A' c' w',A2O w' base (.slice A' (ss.length+ss2.length) c') (vs++vs2) (ss++ss2)→w.grownBy w' v.ownBlock→Below base w w'→((Value.slice A' (ss.length+ss2.length) c').ownBlock=v.ownBlock∨(Value.slice A' (ss.length+ss2.length) c').ownBlock=some w.heap.size)→wpList Tryz.prog ops Q rest (a.put o.dst (.slice A' (ss.length+ss2.length) c')) w'):wpList Tryz.prog ops Q (o :: rest) a w:=by
 obtain ⟨A,c,rfl⟩:=h2.form;unfold wpList;rw[if_pos (show Region.wanted o (yielded ops a.tmps)=true by simp[Region.wanted,hgd])];refine Or.inl (wp_appLX s x 83 ho Tryz.underlying83 infoAs2 rfl (by decide) (by decide) hs (own_below h0.row hb0) hx h2.rd.raw h2.els.one_cell hl (Nat.le_trans hbase hb0.size) ?_);intro v' w' hO hg hB hv;have hC:=h0.cat hb0 h2 (Nat.le_trans hbase hm) hm hl hg hO;obtain ⟨A',d,rfl,-⟩:=own_reads hO hl;exact h A' d w' hC hg hB hv
end
theorem c_l10Plain {lo hi lo' hi':Nat} (v:Value) (a:Asn) (k A B:Int) (t:Fct) (X1 X2 X3 X4:Option Addr) (n1 n2 n3 n4 d1 d2 d3 d4:Nat) (Bf:Option Addr) (cf K0:Nat) (w:World) (h:AsnC w lo hi v a) (hhi:hi≤w.heap.size) (hv:a.valid=true) (h':BoolsV w lo' hi' Bf (zj K0)) (hA:jq A=true) (hk:k=1∨k=4) :
  Calls Tryz.prog 270 #[v,.agg #[.int .i64 k,.int .i64 A,.int .i64 B,.bool t.eq,.int .i64 t.a,.int .i64 t.b,.slice X1 n1 d1,.slice X2 n2 d2,.slice X3 n3 d3,.slice X4 n4 d4],.slice Bf 9 cf] w fun e w'=>∃ F f G g b q,e=.returned (.tuple #[.agg #[.slice F b.facts.length f,.slice G b.atoms.length g],.bool q])∧AsnO w' w.heap.size (.agg #[.slice F b.facts.length f,.slice G b.atoms.length g]) b∧b.facts.length≤1000∧b.atoms.length≤1000∧symB a k A B K0=((okQ q b).map fun x=>[x])∧Below w.heap.size w w':=by
 rcases hk with rfl|rfl
 ·by_cases hAB:A=B
  ·subst hAB;exact c_pl1e v a A t X1 X2 X3 X4 n1 n2 n3 n4 d1 d2 d3 d4 Bf cf K0 w h hhi hv h' hA
  ·exact c_pl1 v a A B t X1 X2 X3 X4 n1 n2 n3 n4 d1 d2 d3 d4 Bf cf K0 w h hhi hv h' hA hAB
 ·exact c_pl4 v a A B t X1 X2 X3 X4 n1 n2 n3 n4 d1 d2 d3 d4 Bf cf K0 w h hhi hv h' hA
theorem c_busyN {base:Nat} (A:Option Addr) (c:Nat) (xs:List Int) (n:Nat) (w:World) (h:IntsO w base (.slice A xs.length c) xs) (hn:n=xs.length):Calls Tryz.prog 109 #[.slice A n c] w fun e w'=>∃ Bf cf,e=.returned (.slice Bf 9 cf)∧BoolsO w' w.heap.size (.slice Bf 9 cf) (zj (tset xs))∧Below w.heap.size w w':=by
 obtain ⟨A',c',e,fX⟩:=h.rj;injection e with e1 e2 e3;subst e1 e3;rw[hn];refine (c_spec_l10Busy A c xs w fX).mono ?_;rintro e w' ⟨r,rfl,o,hB⟩;obtain ⟨Bf,cf,rfl,-⟩:=o.rj;rw[zjB] at o ⊢;exact ⟨Bf,cf,rfl,o,hB⟩
theorem c_spec_SymBasic {lo hi loi hii lo' hi':Nat} (v:Value) (a:Asn) (k A B:Int) (t:Fct) (i:Asn) (body els:Cms) (X1 X2 X3 X4:Option Addr) (d1 d2 d3 d4:Nat) (Ak:Option Addr) (ck:Nat) (ks:List Int) (w:World) (h:AsnC w lo hi v a) (hhi:hi≤w.heap.size)
  (hI:AsnV w loi hii (.agg #[.slice X1 i.facts.length d1,.slice X2 i.atoms.length d2]) i) (h3:body.len≤1049600) (h4:els.len≤1049600) (hk:IntsV w lo' hi' Ak ks) (hkl:ks.length≤1049000) :
  Calls Tryz.prog 233 #[v,.agg #[.int .i64 k,.int .i64 A,.int .i64 B,.bool t.eq,.int .i64 t.a,.int .i64 t.b,.slice X1 i.facts.length d1,.slice X2 i.atoms.length d2,.slice X3 body.len d3,.slice X4 els.len d4],.slice Ak ks.length ck] w fun e w'=>∃ r,e=.returned (.tuple #[r,.bool (symR a (okC k A B t i body els) k A B ks).isSome])∧AsnsR w' w.heap.size r ((symR a (okC k A B t i body els) k A B ks).getD [])∧Below w.heap.size w w':=by
 have hV:=ax h;obtain ⟨A1,c1,A2,c2,rfl,-⟩:=h;have HI:=ax hI;have HK:=ax hk;have HOK:=ax (symR_ok (a:=a) (ok:=okC k A B t i body els) (k:=k) (A:=A) (B:=B) (ks:=ks) fun e _=>(okC_term e).2.1);have HT:=ax (fun e=>(okC_term (k:=k) (A:=A) (B:=B) (t:=t) (i:=i) (body:=body) (els:=els) e));have HD:aJ (symR a (okC k A B t i body els) k A B ks=if a.valid&&okC k A B t i body els then symB a k A B (keepK (tset ks) A B) else none):=ax rfl;have HQ:aJ (okC k A B t i body els=(plainB t i body els&&fieldsB k A B)):=ax rfl;have HE0:aJ (totA []≤16777216):=ax (by simp[totA,totR,rowsA]);have hi1:i.facts.length≤1049600:=by obtain ⟨_,_,_,_,e,q1,q2⟩:=hI;exact q1.le
 have hi2:i.atoms.length≤1049600:=by obtain ⟨_,_,_,_,e,q1,q2⟩:=hI;exact q2.le
 clear hk hI;generalize okC k A B t i body els=ok at HOK HT HD HQ ⊢;(go_enter Tryz.func233,Tryz.ntmps233);have k3:Blk (((w.alloc (.cells #[.slice A1 a.facts.length c1,.slice A2 a.atoms.length c2] tAs)).alloc (.cells #[.int .i64 k,.int .i64 A,.int .i64 B,.bool t.eq,.int .i64 t.a,.int .i64 t.b,.slice X1 i.facts.length d1,.slice X2 i.atoms.length d2,.slice X3 body.len d3,.slice X4 els.len d4] tC)).alloc (.cells #[] tAs)) w.heap.size tAs #[.slice A1 a.facts.length c1,.slice A2 a.atoms.length c2]:=blks;have k4:Blk (((w.alloc (.cells #[.slice A1 a.facts.length c1,.slice A2 a.atoms.length c2] tAs)).alloc (.cells #[.int .i64 k,.int .i64 A,.int .i64 B,.bool t.eq,.int .i64 t.a,.int .i64 t.b,.slice X1 i.facts.length d1,.slice X2 i.atoms.length d2,.slice X3 body.len d3,.slice X4 els.len d4] tC)).alloc (.cells #[] tAs)) (w.heap.size+1) tC #[.int .i64 k,.int .i64 A,.int .i64 B,.bool t.eq,.int .i64 t.a,.int .i64 t.b,.slice X1 i.facts.length d1,.slice X2 i.atoms.length d2,.slice X3 body.len d3,.slice X4 els.len d4]:=blks;have k8:Blk (((w.alloc (.cells #[.slice A1 a.facts.length c1,.slice A2 a.atoms.length c2] tAs)).alloc (.cells #[.int .i64 k,.int .i64 A,.int .i64 B,.bool t.eq,.int .i64 t.a,.int .i64 t.b,.slice X1 i.facts.length d1,.slice X2 i.atoms.length d2,.slice X3 body.len d3,.slice X4 els.len d4] tC)).alloc (.cells #[] tAs)) (w.heap.size+1+1) tAs #[]:=blks;(go_wp2_with fail);refine (vz _ a _ (hV.o.V.bz bel)).mono ?_;rintro e w1 ⟨rfl,hB1⟩;have hB:=bgo (w:=w) bel hB1;replace k3:=k3.nz hB1;replace k4:=k4.nz hB1;replace k8:=k8.nz hB1;have hz1:=hB1.size;simp only[World.size_alloc] at hz1;clear hB1;cases hv:a.valid
 ·have E:aJ (symR a ok k A B ks=none):=ax (by rw[HD.o,hv];rfl);clear hv;(go_wp2_with fail);go_ret2;exact ⟨_,by rw[E.o];rfl,by rw[E.o];exact ⟨⟨[],A2O.ofBlk k8 (by omega)⟩,HE0.o⟩,hB⟩
 have HV:=ax hv;have hvl:=zjC hv;clear hv;(replace qk3:=k3.z;replace qk4:=k4.z);(go_wp2_with fail);refine (c_spec_l8Basic k A B t i X1 X2 X3 X4 d1 d2 d3 d4 body els _ hi1 hi2 h3 h4).mono ?_;rintro e w2 ⟨rfl,hB2⟩;rw[←HQ.o];(replace hB:=bgo hB hB2;replace k3:=k3.nz hB2;replace qk3:=k3.z;replace k4:=k4.nz hB2;replace qk4:=k4.z;replace k8:=k8.nz hB2);have hz2:=hB2.size;clear hB2;cases ok
 ·have E:aJ (symR a false k A B ks=none):=ax (by rw[HD.o,Bool.and_false];rfl);(go_wp2_with fail);go_ret2;exact ⟨_,by rw[E.o];rfl,by rw[E.o];exact ⟨⟨[],A2O.ofBlk k8 (by omega)⟩,HE0.o⟩,hB⟩
 have E:aJ (symR a true k A B ks=symB a k A B (keepK (tset ks) A B)):=ax (by rw[HD.o,HV.o];rfl);obtain ⟨hA,hBt,hk15⟩:=HT.o rfl;clear HD HT HQ;rw[E.o] at HOK;have HB:=ax hB;clear hB;(go_upto_region 4 with fail)
 go_cut [9] (fun s9 wc=>∃ (Bf:Option Addr) (cf:Nat),s9=.slice Bf 9 cf∧aJ (BoolsO wc w.heap.size (.slice Bf 9 cf) (zj (keepK (tset ks) A B)))∧Blk wc w.heap.size tAs #[.slice A1 a.facts.length c1,.slice A2 a.atoms.length c2]∧Blk wc (w.heap.size+1) tC #[.int .i64 k,.int .i64 A,.int .i64 B,.bool t.eq,.int .i64 t.a,.int .i64 t.b,.slice X1 i.facts.length d1,.slice X2 i.atoms.length d2,.slice X3 body.len d3,.slice X4 els.len d4]∧Blk wc (w.heap.size+1+1) tAs #[]∧aJ (Below w.heap.size w wc)∧w.heap.size+3≤wc.heap.size)
 case first=>
  clear qk3 qk4;(go_wp2_with fail);refine wp_region_noPanic ?_;refine wp_region_held_drew (S:=(fun w'=>(∀ j,w'.cell? ⟨w.heap.size,j,none⟩=#[.slice A1 a.facts.length c1,.slice A2 a.atoms.length c2][j]?)∧(∀ j,w'.cell? ⟨w.heap.size+1,j,none⟩=#[.int .i64 k,.int .i64 A,.int .i64 B,.bool t.eq,.int .i64 t.a,.int .i64 t.b,.slice X1 i.facts.length d1,.slice X2 i.atoms.length d2,.slice X3 body.len d3,.slice X4 els.len d4][j]?))) (by kernel_rfl) (⟨k3.drew.cell,k4.drew.cell⟩) (fun aH=>?_);replace k3:=k3.drew;replace k4:=k4.drew;replace k8:=k8.drew;replace HB:=ax HB.o.drew;have hzq:w2.heap.size≤w2.drew.heap.size:=Nat.le_refl _;generalize w2.drew=wq at k3 k4 k8 HB hzq aH ⊢;refine tk2 1 rfl aH (h:=tk2 3 rfl aH (h:=tk2 4 rfl aH (h:=?_)));(try simp only[zz]);refine tk2 5 rfl aH (h:=tk2 6 rfl aH (h:=?_));(try simp only[zz]);refine rdd 0 7 rfl rfl (fun K hK=>?_) fun K hK=>?_
  ·skip;(try simp only[zz]);go_simp;refine hK.out _ _ ⟨rowC_ (bbox (Below.refl _ _) _) k3.lt k3.cell,rowC_ (bbox (Below.refl _ _) _) k4.lt k4.cell⟩ ?_;clear aH hK K;intro aH;(try simp only[zz]);have hBq:Below wq.heap.size wq (wq.alloc (.cells #[] tI)):=bbox (Below.refl _ _) _;have kN:Blk (wq.alloc (.cells #[] tI)) wq.heap.size tI #[]:=Blk.new _ _ _;have hltN:wq.heap.size<(wq.alloc (.cells #[] tI)).heap.size:=by simp
   obtain ⟨y0,hy0⟩:∃ y,y=wq.heap.size:=⟨_,rfl⟩;have hy0B:w.heap.size≤y0:=by omega
   have hne07:∀ y,y<wq.heap.size→y≠y0:=fun y h=>by omega
   replace k3:=k3.nz hBq;replace k4:=k4.nz hBq;replace k8:=k8.nz hBq;(try replace OI:=ax (OI.o.bz hBq));(try replace kL:=kL.nz hBq);replace HB:=ax (bgo HB.o hBq);replace hzq:=Nat.le_trans hzq hBq.size;rw[←hy0] at kN hltN ⊢;have OI:aJ (IntsO (wq.alloc (.cells #[] tI)) w.heap.size (.slice (some ⟨y0,0,none⟩) 0 0) []):=ax ⟨own_ofBlk kN hy0B,by simp[Lim]⟩;have hl0:=hltN;(try have h70:y7≠y0:=hne07 y7 hl7);clear hltN hne07 hy0B;clear hBq hy0 kN;generalize wq.alloc (.cells #[] tI)=wq at *;refine rdd 2 7 rfl rfl (fun K hK=>?_) fun K hK=>?_
   ·skip;refine stepIL2 (base:=w.heap.size) (xs:=[]) (ys:=ks) rfl _ _ rfl rfl OI.o rfl (HK.o.bz HB.o) (by simp<;>omega) (by omega) ?_;intro KA kc wq' oN hg hBq;replace k3:=Blk.zm k3 OI.o.1 hg (by decide);replace k4:=Blk.zm k4 OI.o.1 hg (by decide);replace k8:=Blk.zm k8 OI.o.1 hg (by decide);replace HB:=ax (HB.o.trans hBq);replace hzq:=Nat.le_trans hzq hBq.size;rw[List.nil_append] at oN ⊢;replace OI:=ax oN;clear oN hg hBq;refine hK.out _ _ ⟨k3.cell,k4.cell⟩ ?_;clear aH hK K;intro aH;(try simp only[zz]);generalize wq'=wq at *;refine rdc 7 rfl fun K hK=>?_;(try simp only[zz]);go_simp;refine hK.out _ _ ⟨rowC_ (bbox (Below.refl _ _) _) k3.lt k3.cell,rowC_ (bbox (Below.refl _ _) _) k4.lt k4.cell⟩ ?_;clear aH hK K;intro aH;(try simp only[zz]);have hBq:Below wq.heap.size wq (wq.alloc (.cells #[.int .i64 A,.int .i64 B] tI)):=bbox (Below.refl _ _) _;have kN:Blk (wq.alloc (.cells #[.int .i64 A,.int .i64 B] tI)) wq.heap.size tI #[.int .i64 A,.int .i64 B]:=Blk.new _ _ _;have hltN:wq.heap.size<(wq.alloc (.cells #[.int .i64 A,.int .i64 B] tI)).heap.size:=by simp
    obtain ⟨y7,hy7⟩:∃ y,y=wq.heap.size:=⟨_,rfl⟩;have hy7B:w.heap.size≤y7:=by omega
    have hne07:∀ y,y<wq.heap.size→y≠y7:=fun y h=>by omega
    replace k3:=k3.nz hBq;replace k4:=k4.nz hBq;replace k8:=k8.nz hBq;(try replace OI:=ax (OI.o.bz hBq));(try replace kL:=kL.nz hBq);replace HB:=ax (bgo HB.o hBq);replace hzq:=Nat.le_trans hzq hBq.size;rw[←hy7] at kN hltN ⊢;have kL:=kN;have hl7:=hltN;(try have h70:y7≠y0:=(hne07 y0 hl0).symm);clear hltN hne07 hy7B;clear hBq hy7 kN;generalize wq.alloc (.cells #[.int .i64 A,.int .i64 B] tI)=wq at *;refine rdc 8 rfl fun K hK=>?_;refine stepIL2 (base:=w.heap.size) (xs:=ks) (ys:=[A,B]) rfl _ _ rfl rfl OI.o rfl (IntsV.two kL) (by simp<;>omega) (by omega) ?_;intro KA kc wq' oN hg hBq;replace k3:=Blk.zm k3 OI.o.1 hg (by decide);replace k4:=Blk.zm k4 OI.o.1 hg (by decide);replace k8:=Blk.zm k8 OI.o.1 hg (by decide);replace HB:=ax (HB.o.trans hBq);replace hzq:=Nat.le_trans hzq hBq.size;replace OI:=ax oN;clear oN hg hBq;refine hK.out _ _ ⟨k3.cell,k4.cell⟩ ?_;clear aH hK K;intro aH;(try simp only[zz]);generalize wq'=wq at *;refine rdc 9 rfl fun K hK=>?_;(try simp only[zz]);(go_simp;refine (c_busyN KA kc (ks++[A,B]) _ _ OI.o (by simp)).mono ?_;rintro e w5 ⟨Bf,cf,rfl,oT,hB5⟩;rw[keep_tset] at oT;replace k3:=k3.nz hB5;replace k4:=k4.nz hB5;replace k8:=k8.nz hB5;have OT:=ax (oT.bq (base':=w.heap.size) (by omega));have HB5:=ax (bgo HB.o hB5);have hz5:=hB5.size;clear hB5 oT);refine hK.out _ _ (⟨k3.cell,k4.cell⟩) ?_;clear aH hK K;intro aH;(try simp only[zz]);refine tk2 10 rfl aH (h:=?_);(try simp only[zz]);refine dn1 ?_;(go_wp2_with fail);go_meet
    case rel=>exact ⟨Bf,cf,rfl,OT,k3,k4,k8,HB5,by omega⟩
   ·skip;(try simp only[zz]);go_simp;refine hK.out _ _ ⟨rowC_ (bbox (Below.refl _ _) _) k3.lt k3.cell,rowC_ (bbox (Below.refl _ _) _) k4.lt k4.cell⟩ ?_;clear aH hK K;intro aH;(try simp only[zz]);have hBq:Below wq.heap.size wq (wq.alloc (.cells #[.int .i64 A,.int .i64 B] tI)):=bbox (Below.refl _ _) _;have kN:Blk (wq.alloc (.cells #[.int .i64 A,.int .i64 B] tI)) wq.heap.size tI #[.int .i64 A,.int .i64 B]:=Blk.new _ _ _;have hltN:wq.heap.size<(wq.alloc (.cells #[.int .i64 A,.int .i64 B] tI)).heap.size:=by simp
    obtain ⟨y7,hy7⟩:∃ y,y=wq.heap.size:=⟨_,rfl⟩;have hy7B:w.heap.size≤y7:=by omega
    have hne07:∀ y,y<wq.heap.size→y≠y7:=fun y h=>by omega
    replace k3:=k3.nz hBq;replace k4:=k4.nz hBq;replace k8:=k8.nz hBq;(try replace OI:=ax (OI.o.bz hBq));(try replace kL:=kL.nz hBq);replace HB:=ax (bgo HB.o hBq);replace hzq:=Nat.le_trans hzq hBq.size;rw[←hy7] at kN hltN ⊢;have kL:=kN;have hl7:=hltN;(try have h70:y7≠y0:=(hne07 y0 hl0).symm);clear hltN hne07 hy7B;clear hBq hy7 kN;generalize wq.alloc (.cells #[.int .i64 A,.int .i64 B] tI)=wq at *;refine rdc 2 rfl fun K hK=>?_;refine stepIL2 (base:=w.heap.size) (xs:=[]) (ys:=ks) rfl _ _ rfl rfl OI.o rfl (HK.o.bz HB.o) (by simp<;>omega) (by omega) ?_;intro KA kc wq' oN hg hBq;replace k3:=Blk.zm k3 OI.o.1 hg (by decide);replace k4:=Blk.zm k4 OI.o.1 hg (by decide);replace k8:=Blk.zm k8 OI.o.1 hg (by decide);replace kL:=kL.apart hg (fun e=>by injection e with e;exact h70 e);replace HB:=ax (HB.o.trans hBq);replace hzq:=Nat.le_trans hzq hBq.size;rw[List.nil_append] at oN ⊢;replace OI:=ax oN;clear oN hg hBq;refine hK.out _ _ ⟨k3.cell,k4.cell⟩ ?_;clear aH hK K;intro aH;(try simp only[zz]);generalize wq'=wq at *;refine rdc 8 rfl fun K hK=>?_;refine stepIL2 (base:=w.heap.size) (xs:=ks) (ys:=[A,B]) rfl _ _ rfl rfl OI.o rfl (IntsV.two kL) (by simp<;>omega) (by omega) ?_;intro KA kc wq' oN hg hBq;replace k3:=Blk.zm k3 OI.o.1 hg (by decide);replace k4:=Blk.zm k4 OI.o.1 hg (by decide);replace k8:=Blk.zm k8 OI.o.1 hg (by decide);replace HB:=ax (HB.o.trans hBq);replace hzq:=Nat.le_trans hzq hBq.size;replace OI:=ax oN;clear oN hg hBq;refine hK.out _ _ ⟨k3.cell,k4.cell⟩ ?_;clear aH hK K;intro aH;(try simp only[zz]);generalize wq'=wq at *;refine rdc 9 rfl fun K hK=>?_;(try simp only[zz]);(go_simp;refine (c_busyN KA kc (ks++[A,B]) _ _ OI.o (by simp)).mono ?_;rintro e w5 ⟨Bf,cf,rfl,oT,hB5⟩;rw[keep_tset] at oT;replace k3:=k3.nz hB5;replace k4:=k4.nz hB5;replace k8:=k8.nz hB5;have OT:=ax (oT.bq (base':=w.heap.size) (by omega));have HB5:=ax (bgo HB.o hB5);have hz5:=hB5.size;clear hB5 oT);refine hK.out _ _ (⟨k3.cell,k4.cell⟩) ?_;clear aH hK K;intro aH;(try simp only[zz]);refine tk2 10 rfl aH (h:=?_);(try simp only[zz]);refine dn1 ?_;(go_wp2_with fail);go_meet
    case rel=>exact ⟨Bf,cf,rfl,OT,k3,k4,k8,HB5,by omega⟩
  ·skip;(try simp only[zz]);go_simp;refine hK.out _ _ ⟨rowC_ (bbox (Below.refl _ _) _) k3.lt k3.cell,rowC_ (bbox (Below.refl _ _) _) k4.lt k4.cell⟩ ?_;clear aH hK K;intro aH;(try simp only[zz]);have hBq:Below wq.heap.size wq (wq.alloc (.cells #[.int .i64 A,.int .i64 B] tI)):=bbox (Below.refl _ _) _;have kN:Blk (wq.alloc (.cells #[.int .i64 A,.int .i64 B] tI)) wq.heap.size tI #[.int .i64 A,.int .i64 B]:=Blk.new _ _ _;have hltN:wq.heap.size<(wq.alloc (.cells #[.int .i64 A,.int .i64 B] tI)).heap.size:=by simp
   obtain ⟨y7,hy7⟩:∃ y,y=wq.heap.size:=⟨_,rfl⟩;have hy7B:w.heap.size≤y7:=by omega
   have hne07:∀ y,y<wq.heap.size→y≠y7:=fun y h=>by omega
   replace k3:=k3.nz hBq;replace k4:=k4.nz hBq;replace k8:=k8.nz hBq;(try replace OI:=ax (OI.o.bz hBq));(try replace kL:=kL.nz hBq);replace HB:=ax (bgo HB.o hBq);replace hzq:=Nat.le_trans hzq hBq.size;rw[←hy7] at kN hltN ⊢;have kL:=kN;have hl7:=hltN;(try have h70:y7≠y0:=(hne07 y0 hl0).symm);clear hltN hne07 hy7B;clear hBq hy7 kN;generalize wq.alloc (.cells #[.int .i64 A,.int .i64 B] tI)=wq at *;refine rdc 0 rfl fun K hK=>?_;(try simp only[zz]);go_simp;refine hK.out _ _ ⟨rowC_ (bbox (Below.refl _ _) _) k3.lt k3.cell,rowC_ (bbox (Below.refl _ _) _) k4.lt k4.cell⟩ ?_;clear aH hK K;intro aH;(try simp only[zz]);have hBq:Below wq.heap.size wq (wq.alloc (.cells #[] tI)):=bbox (Below.refl _ _) _;have kN:Blk (wq.alloc (.cells #[] tI)) wq.heap.size tI #[]:=Blk.new _ _ _;have hltN:wq.heap.size<(wq.alloc (.cells #[] tI)).heap.size:=by simp
   obtain ⟨y0,hy0⟩:∃ y,y=wq.heap.size:=⟨_,rfl⟩;have hy0B:w.heap.size≤y0:=by omega
   have hne07:∀ y,y<wq.heap.size→y≠y0:=fun y h=>by omega
   replace k3:=k3.nz hBq;replace k4:=k4.nz hBq;replace k8:=k8.nz hBq;(try replace OI:=ax (OI.o.bz hBq));(try replace kL:=kL.nz hBq);replace HB:=ax (bgo HB.o hBq);replace hzq:=Nat.le_trans hzq hBq.size;rw[←hy0] at kN hltN ⊢;have OI:aJ (IntsO (wq.alloc (.cells #[] tI)) w.heap.size (.slice (some ⟨y0,0,none⟩) 0 0) []):=ax ⟨own_ofBlk kN hy0B,by simp[Lim]⟩;have hl0:=hltN;(try have h70:y7≠y0:=hne07 y7 hl7);clear hltN hne07 hy0B;clear hBq hy0 kN;generalize wq.alloc (.cells #[] tI)=wq at *;refine rdc 2 rfl fun K hK=>?_;refine stepIL2 (base:=w.heap.size) (xs:=[]) (ys:=ks) rfl _ _ rfl rfl OI.o rfl (HK.o.bz HB.o) (by simp<;>omega) (by omega) ?_;intro KA kc wq' oN hg hBq;replace k3:=Blk.zm k3 OI.o.1 hg (by decide);replace k4:=Blk.zm k4 OI.o.1 hg (by decide);replace k8:=Blk.zm k8 OI.o.1 hg (by decide);replace kL:=kL.apart hg (fun e=>by injection e with e;exact h70 e);replace HB:=ax (HB.o.trans hBq);replace hzq:=Nat.le_trans hzq hBq.size;rw[List.nil_append] at oN ⊢;replace OI:=ax oN;clear oN hg hBq;refine hK.out _ _ ⟨k3.cell,k4.cell⟩ ?_;clear aH hK K;intro aH;(try simp only[zz]);generalize wq'=wq at *;refine rdc 8 rfl fun K hK=>?_;refine stepIL2 (base:=w.heap.size) (xs:=ks) (ys:=[A,B]) rfl _ _ rfl rfl OI.o rfl (IntsV.two kL) (by simp<;>omega) (by omega) ?_;intro KA kc wq' oN hg hBq;replace k3:=Blk.zm k3 OI.o.1 hg (by decide);replace k4:=Blk.zm k4 OI.o.1 hg (by decide);replace k8:=Blk.zm k8 OI.o.1 hg (by decide);replace HB:=ax (HB.o.trans hBq);replace hzq:=Nat.le_trans hzq hBq.size;replace OI:=ax oN;clear oN hg hBq;refine hK.out _ _ ⟨k3.cell,k4.cell⟩ ?_;clear aH hK K;intro aH;(try simp only[zz]);generalize wq'=wq at *;refine rdc 9 rfl fun K hK=>?_;(try simp only[zz]);(go_simp;refine (c_busyN KA kc (ks++[A,B]) _ _ OI.o (by simp)).mono ?_;rintro e w5 ⟨Bf,cf,rfl,oT,hB5⟩;rw[keep_tset] at oT;replace k3:=k3.nz hB5;replace k4:=k4.nz hB5;replace k8:=k8.nz hB5;have OT:=ax (oT.bq (base':=w.heap.size) (by omega));have HB5:=ax (bgo HB.o hB5);have hz5:=hB5.size;clear hB5 oT);refine hK.out _ _ (⟨k3.cell,k4.cell⟩) ?_;clear aH hK K;intro aH;(try simp only[zz]);refine tk2 10 rfl aH (h:=?_);(try simp only[zz]);refine dn1 ?_;(go_wp2_with fail);go_meet
   case rel=>exact ⟨Bf,cf,rfl,OT,k3,k4,k8,HB5,by omega⟩
 case rest=>
  clear HB k3 k4 k8 qk3 qk4 HK HI;obtain ⟨Bf,cf,rfl,OT,k3,k4,k8,HB,hzc⟩:=hcut;obtain ⟨K2,hK2⟩:∃ x,x=keepK (tset ks) A B:=⟨_,rfl⟩;have HKI:aJ (∀ T,T=A∨T=B→tins K2 T=K2):=ax fun T hT=>by rw[hK2];exact keep_idem hT
  rw[←hK2] at OT E HOK;clear hK2;have HFL:=ax OT.o.readsI9;have hone:∀ b:Asn,[b].length=1:=fun _=>rfl;by_cases hk14:k=1∨k=4
  ·have O8:aJ (A2O wc w.heap.size (.slice (some ⟨w.heap.size+1+1,0,none⟩) 0 0) [] []):=ax (A2O.ofBlk k8 (by omega));clear HKI;rcases hk14 with rfl|rfl
   all_goals
    (replace qk3:=k3.z;replace qk4:=k4.z);(go_wp2_with fail);refine (c_l10Plain _ a _ A B t X1 X2 X3 X4 _ _ _ _ d1 d2 d3 d4 Bf cf K2 _ (hV.o.bz HB.o) (by omega) HV.o HFL.o hA (by simp)).mono ?_;rintro e w3 ⟨F,f,G,g,b,q,rfl,oX,hl1,hl2,hE,hB3⟩;have E2:=ax (E.o.trans hE);rw[hE] at HOK;have OX:=ax oX;have k83:=k8.nz hB3;have HB3':=ax hB3;have HB3:=ax (bgo HB.o hB3);have hz3:=hB3.size;clear hB3 oX hE k3 k4 qk3 qk4 k8 E HB;cases q
    ·have E3:aJ (symR a true _ A B ks=none):=ax (by rw[E2.o];rfl);(go_wp2_with fail);go_ret2;exact ⟨_,by rw[E3.o];rfl,by rw[E3.o];exact ⟨⟨[],A2O.ofBlk (k83.alloc _) (by omega)⟩,HE0.o⟩,bbox HB3.o _⟩
    ·(go_wp2_with fail);refine (vz _ b _ (OX.o.rj.bz bel)).mono ?_;rintro e w4 ⟨rfl,hB4⟩;have hbx:Below w3.heap.size w3 (w3.alloc (.cells #[.slice F b.facts.length f,.slice G b.atoms.length g] tAs)):=bbox (Below.refl _ _) _;have kx:Blk (w3.alloc (.cells #[.slice F b.facts.length f,.slice G b.atoms.length g] tAs)) w3.heap.size tAs #[.slice F b.facts.length f,.slice G b.atoms.length g]:=Blk.new _ _ _;replace kx:=kx.nz hB4;have HB4':=ax (HB3'.o.trans ((hbx.trans (hB4.mono hbx.size)).mono hz3));have HB4:=ax (HB3.o.trans ((hbx.trans (hB4.mono hbx.size)).mono (by omega)));have k84:=k83.nz (hbx.trans (hB4.mono hbx.size));replace OX:=ax (OX.o.bz (hbx.trans (hB4.mono hbx.size)));have hz4:=HB4'.o.size;clear hB4 hbx HB3 HB3' k83;cases hbv:b.valid
     ·have E3:aJ (symR a true _ A B ks=none):=ax (by rw[E2.o];unfold okQ;rw[hbv];rfl);clear hbv;(go_wp2_with fail);go_ret2;exact ⟨_,by rw[E3.o];rfl,by rw[E3.o];exact ⟨⟨[],A2O.ofBlk k84 (by omega)⟩,HE0.o⟩,HB4.o⟩
     ·have E3:aJ (symR a true _ A B ks=some [b]):=ax (by rw[E2.o,okQ_true hbv];rfl);have HTOT:aJ (totA [b]≤16777216):=ax (by have:=HOK.o.2;rw[okQ_true hbv] at this;exact this);clear hbv;(replace qkx:=kx.z);(go_wp2_with (at_builtin;refine appA2 (w0:=wc) (base:=w.heap.size) (mid:=wc.heap.size) (ss:=[]) (ss2:=[b]) rfl _ _ rfl rfl O8.o (bbox HB4'.o _) (by omega) (A2O.one (g:=w4.heap.size) (Blk.newE rfl) (by omega) (AsnO.bz OX.o (bbox (Below.refl _ _) _))) (Nat.le_refl _) rfl (by simp) ?_;intro A5 c5 w5 hO5 hg5 hB5;have O5:=ax hO5;have HB5:=ax ((bbox HB4.o (.cells #[.slice F b.facts.length f,.slice G b.atoms.length g] tAs)).trans hB5);clear hO5 hg5 hB5));go_ret2;exact ⟨_,by rw[E3.o];rfl,by rw[E3.o];exact ⟨⟨_,O5.o⟩,HTOT.o⟩,HB5.o⟩
  ·have hk1:¬k=1:=fun e=>hk14 (.inl e);have hk4:¬k=4:=fun e=>hk14 (.inr e);have hk235:k=2∨k=3∨k=5:=by omega
   have EA:=ax (E.o.trans (symB_acc hk1 hk4));have b1:(k == 1)=false:=beq_false_of_ne hk1;have b4:(k == 4)=false:=beq_false_of_ne hk4;obtain ⟨T,hT⟩:∃ x,x=symT k A B:=⟨_,rfl⟩;have hTAB:aJ (T=A∨T=B):=ax (by rw[hT];unfold symT;split;exact .inr rfl;exact .inl rfl);rw[←hT] at EA;rw[←E.o] at HOK;replace hT:=ax hT;have HKK:=ax hk235;obtain ⟨S,hS⟩:∃ x,x=symR a true k A B ks:=⟨_,rfl⟩;rw[←hS] at EA HOK;replace hS:=ax hS;have HOKS:aJ (totA (S.getD [])≤16777216):=ax HOK.o.2;clear hk1 hk4 hk14 hk235 E HOK hk15;(replace qk3:=k3.z;replace qk4:=k4.z);(go_upto_if 69 with fail)
   go_cut [12] (fun s12 wd=>s12=.int .i64 T∧wd=wc)
   case first=>
    by_cases hk2:k=2
    ·have eT:aJ (T=B):=ax (by rw[hT.o,symT,if_pos hk2]);subst hk2;clear hT;(go_wp2_with fail);go_meet
     case rel=>exact ⟨by rw[eT.o],rfl⟩
    ·have eT:aJ (T=A):=ax (by rw[hT.o,symT,if_neg hk2]);have b2:(k == 2)=false:=beq_false_of_ne hk2;clear hT hk2;(go_wp2_with fail);go_meet
     case rel=>exact ⟨by rw[eT.o],rfl⟩
   case rest=>
    obtain ⟨rfl,hwd⟩:=hcut;subst hwd;clear hT;(go_wp2_with fail);refine (c_l10Open 7 (Nat.le_refl _) a T K2 lo hi _ _ _ _ cf _ (hV.o.bz HB.o) (by rw[HKI.o T hTAB.o];exact HFL.o) (by omega) (by omega)).mono ?_;rintro e w3 ⟨r,vs,l,rfl,oR,hll,hRR,hB3⟩;obtain ⟨R,rc,rfl⟩:=oR.form;obtain ⟨ok0,hok0⟩:∃ x,x=(exposeF 7 a T K2).isSome:=⟨_,rfl⟩;rw[←hok0]
    have HS0:aJ (ok0=false→S=none):=ax fun e=>by
     rw[EA.o];rcases hRR with h|h
     ·rw[h];rfl
     ·rw[h] at hok0;rw[hok0] at e;cases e
    have HS1:aJ (ok0=true→S=mapF (fun x=>accF k A B x K2) l∧exposeF 7 a T K2=some l):=ax fun e=>by
     rcases hRR with h|h
     ·rw[h] at hok0;rw[hok0] at e;cases e
     ·exact ⟨by rw[EA.o,h];rfl,h⟩
    have hll2:l.length≤128:=hll;have OR:=ax oR;have O8:aJ (A2O w3 w.heap.size (.slice (some ⟨w.heap.size+1+1,0,none⟩) 0 0) [] []):=ax (A2O.ofBlk (k8.nz hB3) (by omega))
    have HOW0:aJ (∀ g,(Value.slice (some ⟨w.heap.size+1+1,0,none⟩) 0 0).ownBlock=some g→(Value.slice R l.length rc).ownBlock≠some g):=ax fun g hg hg2=>by
     have hg':w.heap.size+1+1=g:=by simpa[Value.ownBlock] using hg
     have:=(oR.row.lt g hg2).1;omega
    have k43:=k4.nz hB3;have OT3:=ax (OT.o.bz hB3);have HB3:=ax (bgo HB.o hB3);have hz3:=hB3.size;obtain ⟨z3,hz3e⟩:∃ z,z=wc.heap.size:=⟨_,rfl⟩;rw[←hz3e] at OR;clear hok0 hRR hll oR hB3 EA k3 k4 qk3 qk4 k8 HB OT HFL hz3e;(go_wp2_with fail)
    go_loopg [8,14,15] (l.length+1) (fun gh s8 s14 s15 wr=>∃ (j:Nat) (R2:Option Addr) (r2:Nat) (ys:List Asn) (us:List Value) (okb:Bool),j≤l.length∧ys.length=j∧l.length+1≤gh+j∧s8=.slice R2 j r2∧s14=.bool okb∧s15=.int .i64 j∧aJ (okb=false→S=none)∧aJ (okb=true→(S=mapF (fun x=>accF k A B x K2) l∧exposeF 7 a T K2=some l)∧∀ (q:Nat) (h1:q<ys.length) (h2:q<l.length),accF k A B l[q] K2=some ys[q])∧aJ (A2O wr w.heap.size (.slice R2 j r2) us ys)∧aJ (∀ g,(Value.slice R2 j r2).ownBlock=some g→(Value.slice R l.length rc).ownBlock≠some g)∧aJ (A2O wr z3 (.slice R l.length rc) vs l)∧aJ (BoolsO wr w.heap.size (.slice Bf 9 cf) (zj K2))∧Blk wr (w.heap.size+1) tC #[.int .i64 k,.int .i64 A,.int .i64 B,.bool t.eq,.int .i64 t.a,.int .i64 t.b,.slice X1 i.facts.length d1,.slice X2 i.atoms.length d2,.slice X3 body.len d3,.slice X4 els.len d4]∧aJ (Below w.heap.size w wr)∧w.heap.size+3≤wr.heap.size)
    case atStart=>exact ⟨0,some ⟨w.heap.size+1+1,0,none⟩,0,[],[],ok0,Nat.zero_le _,rfl,by omega,rfl,rfl,rfl,HS0,ax fun e=>⟨HS1.o e,fun q h1=>absurd h1 (by simp)⟩,O8,HOW0,OR,OT3,k43,HB3,by omega⟩
    case round=>
     clear HS0 HS1 O8 HOW0 OR OT3 k43 HB3;obtain ⟨j,R2,r2,ys,us,okb,hj,hyl,hgh,rfl,rfl,rfl,HS0,HS1,OY,HOW,OR,OT,k4,HB,hzr⟩:=hrel;have HL:aJ (ys.length=j):=ax hyl;clear hyl;cases okb
     ·have E3:=ax (HS0.o rfl);clear HS0 HS1;by_cases hlt:j<l.length
      all_goals
       have hji:(j:Int)<(l.length:Int)∨¬(j:Int)<(l.length:Int):=by omega
       first|(have hjc:(j:Int)<(l.length:Int):=by omega)|(have hjc:¬(j:Int)<(l.length:Int):=by omega)
       clear hji;(go_wp2_with fail);go_ret2;exact ⟨_,by rw[←hS.o,E3.o];rfl,by rw[←hS.o,E3.o];exact ⟨⟨[],(A2O.empty wr rfl).bq (by omega)⟩,HE0.o⟩,bbox HB.o _⟩
     ·by_cases hlt:j<l.length
      ·have hji:(j:Int)<(l.length:Int):=by omega
       obtain ⟨gb,go,P,p,Q,q,rfl,hgb,q0,q1,hC⟩:=OR.o.atC hlt;obtain ⟨⟨hSm,hex⟩,HY⟩:=HS1.o rfl;obtain ⟨x,hx⟩:∃ x,x=l[j]:=⟨_,rfl⟩;rw[←hx] at q0 q1 hC;obtain ⟨hxv,-,xb,xr,hxa⟩:=expose_ent _ _ _ _ _ hex x (by rw[hx];exact List.getElem_mem hlt);have hx0:0<x.atoms.length:=by rw[hxa];simp
       have HC:=ax hC;have HXV:=ax hxv;have HN0:aJ (accF k A B x K2=none→S=none):=ax fun h=>by rw[hSm];exact mapF_none hlt (by rw[←hx];exact h)
       have HN1:aJ (∀ b,accF k A B x K2=some b→∀ (q:Nat) (h1:q<(ys++[b]).length) (h2:q<l.length),accF k A B l[q] K2=some (ys++[b])[q]):=ax fun b hb q h1 h2=>by
        have hl:=HL.o;by_cases e:q<ys.length
        ·rw[List.getElem_append_left e];exact HY q e h2
        ·have eq:q=j:=by simp at h1;omega
         subst eq;rw[List.getElem_append_right (by omega)];simp only[hl,Nat.sub_self,List.getElem_cons_zero];rw[←hx];exact hb
       have HSM:=ax (And.intro hSm hex);clear hx hxv hxa hC hSm hex HY HS0 HS1;(replace qk4:=k4.z);(go_upto_region 17 with fail);clear qk4
       go_cut [16,17] (fun s16 s17 wn=>∃ (y:Nat) (F:Option Addr) (f:Nat) (G:Option Addr) (g:Nat) (b:Asn) (q:Bool),s16=.pointer (some ⟨y,0,none⟩)∧s17=.bool q∧Blk wn y tAs #[.slice F b.facts.length f,.slice G b.atoms.length g]∧aJ (AsnO wn wr.heap.size (.agg #[.slice F b.facts.length f,.slice G b.atoms.length g]) b)∧aJ (accF k A B x K2=okQ q b)∧aJ (Below wr.heap.size wr wn))
       case first=>
        (go_wp2_with fail);refine wp_region_noPanic ?_;refine wp_region_held_drew (S:=(fun w'=>(∀ i',w'.cell? ⟨w.heap.size+1,i',none⟩=#[.int .i64 k,.int .i64 A,.int .i64 B,.bool t.eq,.int .i64 t.a,.int .i64 t.b,.slice X1 i.facts.length d1,.slice X2 i.atoms.length d2,.slice X3 body.len d3,.slice X4 els.len d4][i']?)∧w'.cell? ⟨gb,go+j*2,none⟩=some (.slice P x.facts.length p)∧w'.cell? ⟨gb,go+j*2+1,none⟩=some (.slice Q x.atoms.length q))) (by kernel_rfl) (⟨k4.drew.cell,q0,q1⟩) (fun aH=>?_);have HBr:=ax (Below.refl wr.heap.size wr).drew;have hzq:wr.heap.size≤wr.drew.heap.size:=Nat.le_refl _;generalize wr.drew=wq at HBr hzq aH ⊢;refine tk2 0 rfl aH (h:=tk2 1 rfl aH (h:=tk2 2 rfl aH (h:=?_)));(try simp only[zz]);refine tk2 3 rfl aH (h:=tk2 4 rfl aH (h:=tk2 5 rfl aH (h:=?_)));(try simp only[zz]);refine rdd 6 10 rfl rfl (fun K hK=>?_) fun K hK=>?_
        ·skip;(try simp only[zz]);go_simp;refine (c_l10After _ x k A B t X1 X2 X3 X4 _ _ _ _ d1 d2 d3 d4 Bf cf K2 _ (HC.o.bz HBr.o) hzq HXV.o (OT.o.readsI9.bz HBr.o) hA hBt hx0 HKK.o).mono ?_;rintro e wq ⟨F,f,G,g,b,qb,rfl,oX,hl1,hl2,hE,hBq⟩;have OX:=ax (oX.bq (base':=wr.heap.size) hzq);replace hE:=ax hE;replace HBr:=ax (HBr.o.trans (hBq.mono hzq));replace hzq:=Nat.le_trans hzq hBq.size;(try replace kBox:=kBox.nz hBq);clear hBq oX hl1 hl2;refine hK.out _ _ ⟨(k4.nz HBr.o).cell,(HBr.o.cell (p:=⟨gb,go+j*2,none⟩) hgb).trans q0,(HBr.o.cell (p:=⟨gb,go+j*2+1,none⟩) hgb).trans q1⟩ ?_;clear aH hK K;intro aH;(try simp only[zz]);refine tk2 7 rfl aH (h:=tk2 8 rfl aH (h:=tk2 9 rfl aH (h:=?_)));refine rdc 10 rfl fun K hK=>?_;(try simp only[zz]);go_simp;have hBq:Below wq.heap.size wq (wq.alloc (.cells #[.slice none 0 0,.slice none 0 0] tAs)):=bbox (Below.refl _ _) _;replace HBr:=ax (HBr.o.trans (hBq.mono hzq));refine hK.out _ _ ⟨(k4.nz HBr.o).cell,(HBr.o.cell (p:=⟨gb,go+j*2,none⟩) hgb).trans q0,(HBr.o.cell (p:=⟨gb,go+j*2+1,none⟩) hgb).trans q1⟩ ?_;clear aH hK K;intro aH;(try simp only[zz]);have kBox:Blk (wq.alloc (.cells #[.slice none 0 0,.slice none 0 0] tAs)) wq.heap.size tAs #[.slice none 0 0,.slice none 0 0]:=Blk.new _ _ _;obtain ⟨y,hy⟩:∃ y,y=wq.heap.size:=⟨_,rfl⟩;have hyr:wr.heap.size≤y:=by omega
         (try replace OX:=ax (OX.o.bz hBq));replace hzq:=Nat.le_trans hzq hBq.size;rw[←hy] at kBox ⊢;clear hBq hy;generalize wq.alloc (.cells #[.slice none 0 0,.slice none 0 0] tAs)=wq at *;have lb:=kBox.lt;have qB:=kBox.cell;have rB:=kBox.frozen;have HBe:=ax ((HBr.o.setCell (p:=⟨y,0,none⟩) hyr (.slice F b.facts.length f)).setCell (p:=⟨y,1,none⟩) hyr (.slice G b.atoms.length g));refine rdc 11 rfl fun K hK=>?_;(try simp only[zz]);go_simp;refine hK.out _ _ (⟨(k4.nz HBe.o).cell,(HBe.o.cell (p:=⟨gb,go+j*2,none⟩) hgb).trans q0,(HBe.o.cell (p:=⟨gb,go+j*2+1,none⟩) hgb).trans q1⟩) ?_;clear aH hK K;intro aH;(try simp only[zz]);refine tk2 12 rfl aH (h:=?_);(try simp only[zz]);refine dn1 ?_;(go_wp2_with fail);go_meet
         case rel=>
          refine ⟨y,F,f,G,g,b,qb,rfl,rfl,?_,ax (AsnO.setT2 OX.o kBox _ _),hE,HBe⟩;have:=(kBox.set_ 0 (.slice F b.facts.length f)).set_ 1 (.slice G b.atoms.length g);simpa using this
        ·skip;(try simp only[zz]);go_simp;have hBq:Below wq.heap.size wq (wq.alloc (.cells #[.slice none 0 0,.slice none 0 0] tAs)):=bbox (Below.refl _ _) _;replace HBr:=ax (HBr.o.trans (hBq.mono hzq));refine hK.out _ _ ⟨(k4.nz HBr.o).cell,(HBr.o.cell (p:=⟨gb,go+j*2,none⟩) hgb).trans q0,(HBr.o.cell (p:=⟨gb,go+j*2+1,none⟩) hgb).trans q1⟩ ?_;clear aH hK K;intro aH;(try simp only[zz]);have kBox:Blk (wq.alloc (.cells #[.slice none 0 0,.slice none 0 0] tAs)) wq.heap.size tAs #[.slice none 0 0,.slice none 0 0]:=Blk.new _ _ _;obtain ⟨y,hy⟩:∃ y,y=wq.heap.size:=⟨_,rfl⟩;have hyr:wr.heap.size≤y:=by omega
         (try replace OX:=ax (OX.o.bz hBq));replace hzq:=Nat.le_trans hzq hBq.size;rw[←hy] at kBox ⊢;clear hBq hy;generalize wq.alloc (.cells #[.slice none 0 0,.slice none 0 0] tAs)=wq at *;refine rdc 6 rfl fun K hK=>?_;(try simp only[zz]);go_simp;refine (c_l10After _ x k A B t X1 X2 X3 X4 _ _ _ _ d1 d2 d3 d4 Bf cf K2 _ (HC.o.bz HBr.o) hzq HXV.o (OT.o.readsI9.bz HBr.o) hA hBt hx0 HKK.o).mono ?_;rintro e wq ⟨F,f,G,g,b,qb,rfl,oX,hl1,hl2,hE,hBq⟩;have OX:=ax (oX.bq (base':=wr.heap.size) hzq);replace hE:=ax hE;replace HBr:=ax (HBr.o.trans (hBq.mono hzq));replace hzq:=Nat.le_trans hzq hBq.size;(try replace kBox:=kBox.nz hBq);clear hBq oX hl1 hl2;refine hK.out _ _ ⟨(k4.nz HBr.o).cell,(HBr.o.cell (p:=⟨gb,go+j*2,none⟩) hgb).trans q0,(HBr.o.cell (p:=⟨gb,go+j*2+1,none⟩) hgb).trans q1⟩ ?_;clear aH hK K;intro aH;(try simp only[zz]);refine tk2 7 rfl aH (h:=tk2 8 rfl aH (h:=tk2 9 rfl aH (h:=?_)));(try simp only[zz]);have lb:=kBox.lt;have qB:=kBox.cell;have rB:=kBox.frozen;have HBe:=ax ((HBr.o.setCell (p:=⟨y,0,none⟩) hyr (.slice F b.facts.length f)).setCell (p:=⟨y,1,none⟩) hyr (.slice G b.atoms.length g));refine rdc 11 rfl fun K hK=>?_;(try simp only[zz]);go_simp;refine hK.out _ _ (⟨(k4.nz HBe.o).cell,(HBe.o.cell (p:=⟨gb,go+j*2,none⟩) hgb).trans q0,(HBe.o.cell (p:=⟨gb,go+j*2+1,none⟩) hgb).trans q1⟩) ?_;clear aH hK K;intro aH;(try simp only[zz]);refine tk2 12 rfl aH (h:=?_);(try simp only[zz]);refine dn1 ?_;(go_wp2_with fail);go_meet
         case rel=>
          refine ⟨y,F,f,G,g,b,qb,rfl,rfl,?_,ax (AsnO.setT2 OX.o kBox _ _),hE,HBe⟩;have:=(kBox.set_ 0 (.slice F b.facts.length f)).set_ 1 (.slice G b.atoms.length g);simpa using this
       case rest=>
        obtain ⟨y,F,f,G,g,b,qb,rfl,rfl,kx,OX,hE,HBr⟩:=hcut;have hzn:=HBr.o.size;have hyz:=kx.lt;cases qb
        ·have HF:=ax (HN0.o (by rw[hE.o];rfl));clear HN0 HN1 hE HSM;(replace qkx:=kx.z);have HBw:=ax (bbox HBr.o (.cells #[.slice F b.facts.length f,.slice G b.atoms.length g] tAs));have OYw:=ax (OY.o.bz HBw.o);have ORw:=ax (OR.o.bz HBw.o);have OTw:=ax (OT.o.bz HBw.o);have k4w:=k4.nz HBw.o;have HBWw:=ax (bgo HB.o HBw.o);have hRu:aJ (∀ g,(Value.slice (some ⟨gb,go,none⟩) l.length rc).ownBlock=some g→g<wc.heap.size):=ax fun g hg=>Nat.lt_of_lt_of_le (OR.o.row.lt g hg).2 (by omega);have hjl:aJ (ys.length+1≤1049600):=ax (by have:=HL.o;omega);(go_wp2_with (at_builtin;refine appA2X (w0:=wr) (base:=w.heap.size) (mid:=wr.heap.size) (ss2:=[b]) rfl _ _ rfl rfl OY.o HBw.o (by omega) (A2O.one (g:=wc.heap.size) (Blk.newE rfl) (by omega) (AsnO.bz OX.o (bbox (Below.refl _ _) _))) (Nat.le_refl _) rfl hjl.o ?_;intro A6 c6 w6 hO6 hg6 hB6 hv6;have O6:=ax hO6;have OR6:=ax (ORw.o.other OYw.o hg6 HOW.o);have OT6:aJ (BoolsO w6 w.heap.size (.slice Bf 9 cf) (zj K2)):=ax ⟨own_grownO OTw.o.1 OYw.o.row hg6 (by decide),OTw.o.2⟩;have k46:=Blk.zm k4w OYw.o.row hg6 (by decide);have HB6:=ax (HBWw.o.trans hB6);have hz6:w.heap.size+3≤w6.heap.size:=Nat.le_trans hzr (Nat.le_trans HBw.o.size hg6.size);have HOW6:=ax (own_new HOW.o hRu.o hv6 (by simp));clear hO6 hg6 hB6 hv6;simp only[List.length_cons,List.length_nil,Nat.zero_add] at O6 HOW6 ⊢;rw[HL.o] at O6 HOW6 ⊢))
         go_roundg (gk - 1)
         case rel=>exact ⟨j+1,A6,c6,ys++[b],_,false,by omega,by simp[HL.o],by omega,rfl,rfl,by go_num,ax fun _=>HF.o,ax fun e=>(by cases e),O6,HOW6,OR6,OT6,k46,HB6,hz6⟩
         case measure=>omega
        ·(replace qkx:=kx.z);(go_wp2_with fail);refine (vz _ b _ OX.o.rj).mono ?_;rintro e w5 ⟨rfl,hB5⟩;have kx5:=kx.nz hB5;have OX5:=ax (OX.o.bz hB5);have HBr5:=ax (HBr.o.trans (hB5.mono hzn));have hz5:=HBr5.o.size;clear hB5 qkx kx OX HBr;obtain ⟨bv,hbv⟩:∃ x,x=b.valid:=⟨_,rfl⟩;rw[←hbv];have HF0:aJ (bv=false→S=none):=ax fun e=>HN0.o (by rw[hE.o];unfold okQ;rw[←hbv,e];rfl);have HF1:aJ (bv=true→(S=mapF (fun x=>accF k A B x K2) l∧exposeF 7 a T K2=some l)∧∀ (q:Nat) (h1:q<(ys++[b]).length) (h2:q<l.length),accF k A B l[q] K2=some (ys++[b])[q]):=ax fun e=>⟨HSM.o,HN1.o b (by rw[hE.o];unfold okQ;rw[←hbv,e];rfl)⟩;clear HN0 HN1 hE HSM hbv;(replace qkx5:=kx5.z);have HBw:=ax (bbox HBr5.o (.cells #[.slice F b.facts.length f,.slice G b.atoms.length g] tAs));have OYw:=ax (OY.o.bz HBw.o);have ORw:=ax (OR.o.bz HBw.o);have OTw:=ax (OT.o.bz HBw.o);have k4w:=k4.nz HBw.o;have HBWw:=ax (bgo HB.o HBw.o);have hRu:aJ (∀ g,(Value.slice (some ⟨gb,go,none⟩) l.length rc).ownBlock=some g→g<w5.heap.size):=ax fun g hg=>Nat.lt_of_lt_of_le (OR.o.row.lt g hg).2 (by omega);have hjl:aJ (ys.length+1≤1049600):=ax (by have:=HL.o;omega);(go_wp2_with (at_builtin;refine appA2X (w0:=wr) (base:=w.heap.size) (mid:=wr.heap.size) (ss2:=[b]) rfl _ _ rfl rfl OY.o HBw.o (by omega) (A2O.one (g:=w5.heap.size) (Blk.newE rfl) (by omega) (AsnO.bz OX5.o (bbox (Below.refl _ _) _))) (Nat.le_refl _) rfl hjl.o ?_;intro A6 c6 w6 hO6 hg6 hB6 hv6;have O6:=ax hO6;have OR6:=ax (ORw.o.other OYw.o hg6 HOW.o);have OT6:aJ (BoolsO w6 w.heap.size (.slice Bf 9 cf) (zj K2)):=ax ⟨own_grownO OTw.o.1 OYw.o.row hg6 (by decide),OTw.o.2⟩;have k46:=Blk.zm k4w OYw.o.row hg6 (by decide);have HB6:=ax (HBWw.o.trans hB6);have hz6:w.heap.size+3≤w6.heap.size:=Nat.le_trans hzr (Nat.le_trans HBw.o.size hg6.size);have HOW6:=ax (own_new HOW.o hRu.o hv6 (by simp));clear hO6 hg6 hB6 hv6;simp only[List.length_cons,List.length_nil,Nat.zero_add] at O6 HOW6 ⊢;rw[HL.o] at O6 HOW6 ⊢))
         go_roundg (gk - 1)
         case rel=>exact ⟨j+1,A6,c6,ys++[b],_,bv,by omega,by simp[HL.o],by omega,rfl,rfl,by go_num,HF0,HF1,O6,HOW6,OR6,OT6,k46,HB6,hz6⟩
         case measure=>omega
      ·obtain rfl:j=l.length:=by omega
       obtain ⟨⟨hSm,hex⟩,HY⟩:=HS1.o rfl;have E3:aJ (S=some ys):=ax (by rw[hSm];exact mapF_some HL.o fun q h1 h2=>HY q h2 h1);have HTOT:aJ (totA ys≤16777216):=ax (by have:=HOKS.o;rw[E3.o] at this;exact this);clear hSm hex HY HS0 HS1;(go_wp2_with fail);go_ret2;exact ⟨_,by rw[←hS.o,E3.o];rfl,by rw[←hS.o,E3.o];exact ⟨⟨us,OY.o⟩,HTOT.o⟩,HB.o⟩
theorem c_spec_NormalForm {lo hi:Nat} (v:Value) (a:Asn) (w:World) (h:AsnV w lo hi v a) (hv:a.valid=true) :
  Calls Tryz.prog 275 #[v] w fun e w'=>∃ r,e=.returned (.tuple #[r,.bool true])∧AsnO w' w.heap.size r (normalF a)∧Below w.heap.size w w':=by
 have hV:=ax h;obtain ⟨A1,c1,A2,c2,rfl,h1,h2⟩:=h;have l1:=h1.le;have l2:=h2.le;have HV:=ax hv;have HVr:aJ (a.valid=true):=hv;clear hv;(go_enter Tryz.func275,Tryz.ntmps275);obtain ⟨k0,k1⟩:=blk2 w 37 37 #[.slice A1 a.facts.length c1,.slice A2 a.atoms.length c2] #[.slice none 0 0,.slice none 0 0];(go_wp2_with fail);refine (vz _ a _ (hV.o.bz bel)).mono ?_;rintro e w1 ⟨rfl,hB1⟩;rw[HV.o];have hB:=bgo (w:=w) bel hB1;(replace k0:=k0.nz hB1;replace qk0:=k0.z;replace k1:=k1.nz hB1;replace qk1:=k1.cell;replace rk1:=k1.frozen;replace lk1:=k1.lt);clear hB1;(go_wp2_with fail);have k2:=Blk.new w1 37 #[.slice none 0 0,.slice none 0 0];replace k0:=k0.alloc (.cells #[.slice none 0 0,.slice none 0 0] 37);replace k1:=k1.alloc (.cells #[.slice none 0 0,.slice none 0 0] 37);replace hB:=bbox hB (.cells #[.slice none 0 0,.slice none 0 0] 37);generalize (w1.alloc (.cells #[.slice none 0 0,.slice none 0 0] 37))=V1 at k0 k1 k2 hB ⊢;obtain ⟨po,hpo⟩:∃ p,p=w1.heap.size:=⟨_,rfl⟩;rw[←hpo] at k2 lk1 ⊢;clear hpo qk0 qk1 rk1;have hpo1:w.heap.size+1<po:=lk1;clear lk1
 go_loopw [5] (fun i wr=>∃ (k:Nat) (acc:List Fct) (A:Option Addr) (c:Nat),k≤a.facts.length∧i=.int .i64 k∧acc.length≤k∧aJ (a.facts.foldl nfStep []=(a.facts.drop k).foldl nfStep acc)∧FactsO wr (po+1) (.slice A acc.length c) acc∧
   Blk wr w.heap.size 37 #[.slice A1 a.facts.length c1,.slice A2 a.atoms.length c2]∧Blk wr (w.heap.size+1) 37 #[.slice none 0 0,.slice none 0 0]∧Blk wr po 37 #[.slice A acc.length c,.slice none 0 0]∧Below w.heap.size w wr) (fun i _=>a.facts.length - (intOf i).toNat)
 case atStart=>exact ⟨0,[],none,0,Nat.zero_le _,rfl,Nat.le_refl _,rfl,FactsO.nil _ _,k0,k1,k2,hB⟩
 case round=>
  clear k0 k1 k2 hB;obtain ⟨k,acc,A,c,hk,rfl,hal,HA,of,k0,k1,k2,hB⟩:=hrel;(replace qk0:=k0.z;replace qk1:=k1.cell;replace rk1:=k1.frozen;replace lk1:=k1.lt;replace qk2:=k2.cell;replace rk2:=k2.frozen;replace lk2:=k2.lt);have hk2l:=k2.lt;by_cases hlt:k<a.facts.length
  ·obtain ⟨b,off,rfl,hbl⟩:=h1.blt hlt;obtain ⟨g0,g1,g2⟩:=(h1.bz hB).cl hlt;have HD:=ax (foldl_drop_step nfStep a.facts k hlt acc);cases hsk:(a.facts[k].eq&&(a.facts[k].a == a.facts[k].b))
   ·have HS:aJ (nfStep acc a.facts[k]=if acc.contains (nfF a.facts[k]) then acc else acc++[nfF a.facts[k]]):=by show _=_;rw[nfStep,hsk];rfl
    obtain ⟨f',hf'⟩:∃ f',f'=nfF a.facts[k]:=⟨_,rfl⟩;obtain ⟨cs,hcs⟩:∃ cs:Array Value,cs=#[.bool f'.eq,.int .i64 f'.a,.int .i64 f'.b]:=⟨_,rfl⟩;rw[←hf'] at HS;have HCS:=ax hcs;by_cases hba:a.facts[k].b<a.facts[k].a
    case' pos=>rw[nfF,if_pos hba] at hf'
    case' neg=>rw[nfF,if_neg hba] at hf'
    all_goals
     cases he:a.facts[k].eq
     all_goals
      rw[he] at g0;(try have hne:(a.facts[k].a == a.facts[k].b)=false:=by simpa[he] using hsk)
    case' pos.false=>have E:=ax (show #[Value.bool false,.int .i64 a.facts[k].b,.int .i64 a.facts[k].a]=cs by rw[hcs,hf',←he])
    case' pos.true=>have E:=ax (show #[Value.bool true,.int .i64 a.facts[k].b,.int .i64 a.facts[k].a]=cs by rw[hcs,hf',←he])
    case' neg.false=>have E:=ax (show #[Value.bool false,.int .i64 a.facts[k].a,.int .i64 a.facts[k].b]=cs by rw[hcs,hf',←he])
    case' neg.true=>have E:=ax (show #[Value.bool true,.int .i64 a.facts[k].a,.int .i64 a.facts[k].b]=cs by rw[hcs,hf',←he])
    all_goals
     clear hsk he hf' hcs;(go_wp2_with fail);rw[E.o];have kf:=Blk.new wr tF cs;replace of:=of.bz (w':=wr.alloc (.cells cs tF)) bel;replace k0:=k0.alloc (.cells cs tF);replace k1:=k1.alloc (.cells cs tF);replace k2:=k2.alloc (.cells cs tF);replace hB:=bbox hB (.cells cs tF);generalize (wr.alloc (.cells cs tF))=V at kf of k0 k1 k2 hB ⊢;clear qk0 qk1 rk1 qk2 rk2 lk1 lk2 g0 g1 g2 E;obtain ⟨pf,hpf⟩:∃ p,p=wr.heap.size:=⟨_,rfl⟩;rw[←hpf] at kf hk2l ⊢;clear hpf;rw[HCS.o] at kf
     go_loopw [7,8] (fun kn j wr=>∃ jj:Nat,jj≤acc.length∧j=.int .i64 jj∧kn=.bool ((acc.take jj).contains f')∧FactsO wr (po+1) (.slice A acc.length c) acc∧
      Blk wr w.heap.size 37 #[.slice (some ⟨b,off,none⟩) a.facts.length c1,.slice A2 a.atoms.length c2]∧Blk wr (w.heap.size+1) 37 #[.slice none 0 0,.slice none 0 0]∧Blk wr po 37 #[.slice A acc.length c,.slice none 0 0]∧
      Blk wr pf tF #[.bool f'.eq,.int .i64 f'.a,.int .i64 f'.b]∧Below w.heap.size w wr) (fun _ j _=>acc.length - (intOf j).toNat)
     case atStart=>exact ⟨0,Nat.zero_le _,rfl,by simp,of,k0,k1,k2,kf,hB⟩
     case round=>
      clear of k0 k1 k2 kf hB;obtain ⟨jj,hjj,rfl,rfl,of,k0,k1,k2,kf,hB⟩:=hrel;have qk2:=k2.cell;have rk2:=k2.frozen;have qkf:=kf.cell;have lk2:=k2.lt;have lkf:=kf.lt;have hlacc:acc.length≤1049600:=of.2;by_cases hjl:jj<acc.length
      ·obtain ⟨b2,o2,rfl,hb2⟩:=of.readsI.2.blt hjl;obtain ⟨e0,e1,e2⟩:=of.readsI.2.cl hjl;have HC:=ax (contains_take f' acc jj hjl);cases hkn:(acc.take jj).contains f'
       ·by_cases x0:acc[jj].eq=f'.eq
        ·by_cases x1:acc[jj].a=f'.a
         ·by_cases x2:acc[jj].b=f'.b
          ·have HKN:=ax (show (acc.take (jj+1)).contains f'=true by rw[HC.o,hkn,decide_eq_true ((Fct.eq_iff _ _).2 ⟨x0.symm,x1.symm,x2.symm⟩)];rfl);clear hkn;(go_wp2_with fail);(go_quiet (fail));(go_wp2_with fail)
           go_round
           case rel=>exact ⟨jj+1,by omega,by go_num,by rw[HKN.o],of.bz bel,k0.drewN _,k1.drewN _,k2.drewN _,kf.drewN _,below_drewN hB _⟩
           case measure=>simp[intOf];omega
          ·have HKN:=ax (show (acc.take (jj+1)).contains f'=false by rw[HC.o,hkn,decide_eq_false (fun h=>x2 (by rw[h]))];rfl);clear hkn;(go_wp2_with fail);(go_quiet (fail));(go_wp2_with fail)
           go_round
           case rel=>exact ⟨jj+1,by omega,by go_num,by rw[HKN.o],of.bz bel,k0.drewN _,k1.drewN _,k2.drewN _,kf.drewN _,below_drewN hB _⟩
           case measure=>simp[intOf];omega
         ·have HKN:=ax (show (acc.take (jj+1)).contains f'=false by rw[HC.o,hkn,decide_eq_false (fun h=>x1 (by rw[h]))];rfl);clear hkn;(go_wp2_with fail);(go_quiet (fail));(go_wp2_with fail)
          go_round
          case rel=>exact ⟨jj+1,by omega,by go_num,by rw[HKN.o],of.bz bel,k0.drewN _,k1.drewN _,k2.drewN _,kf.drewN _,below_drewN hB _⟩
          case measure=>simp[intOf];omega
        ·have HKN:=ax (show (acc.take (jj+1)).contains f'=false by rw[HC.o,hkn,decide_eq_false (fun h=>x0 (by rw[h]))];rfl);clear hkn;(go_wp2_with fail);(go_quiet (fail));(go_wp2_with fail)
         go_round
         case rel=>exact ⟨jj+1,by omega,by go_num,by rw[HKN.o],of.bz bel,k0.drewN _,k1.drewN _,k2.drewN _,kf.drewN _,below_drewN hB _⟩
         case measure=>simp[intOf];omega
       ·have HKN:=ax (show (acc.take (jj+1)).contains f'=true by rw[HC.o,hkn];rfl);clear hkn;(go_wp2_with fail);(go_quiet (fail));(go_wp2_with fail)
        go_round
        case rel=>exact ⟨jj+1,by omega,by go_num,by rw[HKN.o],of.bz bel,k0.drewN _,k1.drewN _,k2.drewN _,kf.drewN _,below_drewN hB _⟩
        case measure=>simp[intOf];omega
      ·obtain rfl:jj=acc.length:=by omega
       rw[List.take_length];cases hkn:acc.contains f'
       ·have HN:=ax (show nfStep acc a.facts[k]=acc++[f'] by rw[HS.o,hkn];rfl);clear hkn;have of1:=of.bz (w':=wr.alloc (.cells #[.bool f'.eq,.int .i64 f'.a,.int .i64 f'.b] tF)) bel;(go_wp2_with (at_builtin;refine appFL rfl _ _ rfl (v:=.slice A acc.length c) rfl of1 rfl (FactsV.one (Blk.new wr _ _)) (by simp;omega) (by simp;omega) ?_;intro A' c' w2 of2 hg2 hB3;have z2:=Blk.zm (g:=po) (k2.alloc _) of1.1 hg2 (by decide);have z2c:=z2.cell;have z2f:=z2.frozen));have z0:=Blk.zm (g:=w.heap.size) (k0.alloc _) of1.1 hg2 (by decide);have z1:=Blk.zm (g:=w.heap.size+1) (k1.alloc _) of1.1 hg2 (by decide);have hBw2:=Below.trans (bbox hB _) (hB3.mono (by omega))
        go_round
        case rel=>
         refine ⟨k+1,acc++[f'],A',c',by omega,by go_num,by simp;omega,by show _=_;rw[HA.o,HD.o,HN.o],?_,z0.far (by simp only[];omega) _,z1.far (by simp only[];omega) _,?_,bel⟩
         ·simpa using of2.setT z2 (by decide) _ _
         ·simpa using z2.set_ 0 (.slice A' (acc.length+1) c')
        case measure=>simp[intOf];omega
       ·have HN:=ax (show nfStep acc a.facts[k]=acc by rw[HS.o,hkn];rfl);clear hkn;(go_wp2_with fail)
        go_round
        case rel=>exact ⟨k+1,acc,A,c,by omega,by go_num,by omega,by show _=_;rw[HA.o,HD.o,HN.o],of,k0,k1,k2,hB⟩
        case measure=>simp[intOf];omega
   ·have HN:=ax (show nfStep acc a.facts[k]=acc by rw[nfStep,hsk];rfl);have he:a.facts[k].eq=true:=by simp at hsk;exact hsk.1
    have hab:(a.facts[k].a == a.facts[k].b)=true:=by simp at hsk;simpa using hsk.2
    rw[he] at g0;clear hsk he;(go_wp2_with fail)
    go_round
    case rel=>exact ⟨k+1,acc,A,c,by omega,by go_num,by omega,by show _=_;rw[HA.o,HD.o,HN.o],of.bz bel,k0.alloc _,k1.alloc _,k2.alloc _,bel⟩
    case measure=>simp[intOf];omega
  ·obtain rfl:k=a.facts.length:=by omega
   have HN:=ax (show a.facts.foldl nfStep []=acc by rw[HA.o,List.drop_length];rfl);have HL:aJ (normalF a=⟨acc,a.atoms.filter nfA⟩):=by show _=_;rw[normalF,HN.o]
   clear HA HN;(go_wp2_with fail)
   go_loopw [9] (fun i wr=>∃ (k:Nat) (B:Option Addr) (d:Nat),k≤a.atoms.length∧i=.int .i64 k∧FactsO wr (po+1) (.slice A acc.length c) acc∧AtomsO wr (po+1) (.slice B ((a.atoms.take k).filter nfA).length d) ((a.atoms.take k).filter nfA)∧
    Blk wr w.heap.size 37 #[.slice A1 a.facts.length c1,.slice A2 a.atoms.length c2]∧Blk wr (w.heap.size+1) 37 #[.slice none 0 0,.slice none 0 0]∧Blk wr po 37 #[.slice A acc.length c,.slice B ((a.atoms.take k).filter nfA).length d]∧Below w.heap.size w wr) (fun i _=>a.atoms.length - (intOf i).toNat)
   case atStart=>exact ⟨0,none,0,Nat.zero_le _,rfl,of,AtomsO.nil _ _,k0,k1,k2,bel⟩
   case round=>
    clear k0 k1 k2 of hB qk0 qk1 rk1 lk1 qk2 rk2 lk2;obtain ⟨k,B,d,hk,rfl,of,oa,k0,k1,k2,hB⟩:=hrel;(replace qk0:=k0.z;replace qk1:=k1.cell;replace rk1:=k1.frozen;replace lk1:=k1.lt;replace qk2:=k2.cell;replace rk2:=k2.frozen;replace lk2:=k2.lt);by_cases hlt:k<a.atoms.length
    ·obtain ⟨b,off,rfl,hbl⟩:=h2.blt hlt;obtain ⟨g0,g1,g2⟩:=(h2.bz hB).cl hlt;have HT:=ax (filter_take nfA a.atoms k hlt);have hflen:((a.atoms.take k).filter nfA).length≤k:=Nat.le_trans (List.length_filter_le _ _) (by simp;omega)
     have hkd:a.atoms[k].kind=1∨a.atoms[k].kind=2:=by
      have hvb:=HVr.o;simp only[Asn.valid,Bool.and_eq_true] at hvb;have:=List.all_eq_true.1 hvb.2.2 _ (List.getElem_mem hlt);simp only[Atm.valid,Bool.and_eq_true,decide_eq_true_eq] at this;exact this.1.1
     obtain ⟨xs,hxs⟩:∃ xs,xs=(a.atoms.take k).filter nfA:=⟨_,rfl⟩;rw[←hxs] at HT hflen oa k2 qk2;have HX:=ax hxs;clear hxs;have lb:b<wr.heap.size:=Nat.lt_of_lt_of_le hbl hB.size;rcases hkd with hkd|hkd
     ·have HN:aJ ((a.atoms.take (k+1)).filter nfA=xs++[a.atoms[k]]):=by show _=_;rw[HT.o,nfA,hkd];simp
      have hk1:(a.atoms[k].kind == 1)=true:=by simp[hkd]
      clear hkd;(go_wp2_with fail);(go_quiet (fail));replace of:=of.bz (w':=wr.drewN nq) bel;replace oa:=oa.bz (w':=wr.drewN nq) bel;replace k0:=k0.drewN nq;replace k1:=k1.drewN nq;replace k2:=k2.drewN nq;replace hB:=below_drewN hB nq;have g0':(wr.drewN nq).cell? ⟨b,off+k*3,none⟩=some (.int .i64 a.atoms[k].kind):=((h2.bz hB).cl hlt).1;have g1':(wr.drewN nq).cell? ⟨b,off+k*3+1,none⟩=some (.int .i64 a.atoms[k].a):=((h2.bz hB).cl hlt).2.1;have g2':(wr.drewN nq).cell? ⟨b,off+k*3+2,none⟩=some (.int .i64 a.atoms[k].b):=((h2.bz hB).cl hlt).2.2;clear qk0 qk1 rk1 lk1 qk2 rk2 lk2 g0 g1 g2 lb;(go_wp2_with fail);generalize wr.drewN nq=V at of oa k0 k1 k2 hB g0' g1' g2' ⊢;(replace qk0:=k0.z;replace qk1:=k1.cell;replace rk1:=k1.frozen;replace lk1:=k1.lt;replace qk2:=k2.cell;replace rk2:=k2.frozen;replace lk2:=k2.lt);refine wp_region_noPanic ?_;refine wp_region_last' (S:=(fun w'=>(∀ i,w'.cell? ⟨po,i,none⟩=#[.slice A acc.length c,.slice B xs.length d][i]?)∧(∀ i,w'.cell? ⟨w.heap.size,i,none⟩=#[.slice A1 a.facts.length c1,.slice (some ⟨b,off,none⟩) a.atoms.length c2][i]?)∧w'.cell? ⟨b,off+k*3,none⟩=some (.int .i64 a.atoms[k].kind)∧w'.cell? ⟨b,off+k*3+1,none⟩=some (.int .i64 a.atoms[k].a)∧w'.cell? ⟨b,off+k*3+2,none⟩=some (.int .i64 a.atoms[k].b))) (by simp) (by kernel_rfl) (by kernel_rfl) (⟨Blk.cell blks,Blk.cell blks,((bcell (W:=V) bel).1 b _ (block_lt_of_cell g0')).trans g0',((bcell (W:=V) bel).1 b _ (block_lt_of_cell g1')).trans g1',((bcell (W:=V) bel).1 b _ (block_lt_of_cell g2')).trans g2'⟩) (fun aH=>?_);simp only[List.dropLast,List.getLast,nopOf,List.cons_append,List.nil_append,List.length_cons,List.length_nil,Nat.zero_add,Nat.reduceAdd];refine tk2 0 rfl aH (h:=tk2 1 rfl aH (h:=tk2 2 rfl aH (h:=?_)));(try simp only[zz]);refine tk2 3 rfl aH (h:=tk2 4 rfl aH (h:=tk2 5 rfl aH (h:=?_)));(try simp only[zz]);refine tk2 6 rfl aH (h:=?_);refine rdc 7 rfl fun K hK=>?_;(try simp only[zz]);go_simp;refine hK.out _ _ (⟨Blk.cell blks,Blk.cell blks,((bcell (W:=V) bel).1 b _ (block_lt_of_cell g0')).trans g0',((bcell (W:=V) bel).1 b _ (block_lt_of_cell g1')).trans g1',((bcell (W:=V) bel).1 b _ (block_lt_of_cell g2')).trans g2'⟩) ?_;clear aH hK K;intro aH;(try simp only[zz]);refine rdc 8 rfl fun K hK=>?_;skip;(refine stepAL (base:=po+1) (xs:=xs) rfl _ _ rfl rfl (AtomsO.bz (w:=V) oa bel) rfl (AtomsV.one' blks) (by simp;omega) (by simp;omega) ?_;intro B' d' w2 oa2 hg2 hB3;have z2:=Blk.zm (g:=po) (hg:=hg2) blks (AtomsO.bz (w:=V) oa bel).1 (by decide);have z2c:=z2.cell;have z2f:=z2.frozen;have z0:=Blk.zm (g:=w.heap.size) (hg:=hg2) blks (AtomsO.bz (w:=V) oa bel).1 (by decide);have z1:=Blk.zm (g:=w.heap.size+1) (hg:=hg2) blks (AtomsO.bz (w:=V) oa bel).1 (by decide);have hBw2:Below w.heap.size w w2:=Below.trans bel (hB3.mono (by omega));have gg:=(h2.bz hBw2).cl hlt);refine hK.out _ _ (⟨z2c,z0.cell,gg.1,gg.2.1,gg.2.2⟩) ?_;clear aH hK K;intro aH;(try simp only[zz]);refine tk2 9 rfl aH (h:=?_);(try simp only[zz]);refine rdc 10 rfl fun K hK=>?_;go_simp;refine hK.out _ _ (⟨z2c,z0.cell,gg.1,gg.2.1,gg.2.2⟩) (fun aH=>?_);clear hK K;refine wpAnyH_done (by kernel_rfl) ?_ _;unfold lastQ;go_simp;refine NoPanic.normal ?_;have of2:=FactsO.grownA (FactsO.bz (w:=V) of bel) (AtomsO.bz (w:=V) oa bel) hg2;(go_wp2_with fail)
      go_round
      case rel=>
       refine ⟨k+1,B',d',by omega,by go_num,of2.setT z2 (by decide) _ _,?_,z0.far (by simp only[];omega) _,z1.far (by simp only[];omega) _,?_,bel⟩
       ·rw[HN.o];simpa using oa2.setT z2 (by decide) 1 (.slice B' (xs++[a.atoms[k]]).length d')
       ·rw[HN.o];simpa using z2.set_ 1 (.slice B' (xs.length+1) d')
      case measure=>simp[intOf];omega
     ·cases hab:(a.atoms[k].a != a.atoms[k].b)
      ·have HN:aJ ((a.atoms.take (k+1)).filter nfA=xs):=by show _=_;rw[HT.o,nfA,hkd,hab];simp
       have hk1:(a.atoms[k].kind == 1)=false:=by simp[hkd]
       have hab2:(a.atoms[k].a == a.atoms[k].b)=true:=by simpa using hab
       clear hkd;(go_wp2_with fail);(go_quiet (fail));(go_wp2_with fail)
       go_round
       case rel=>exact ⟨k+1,B,d,by omega,by go_num,of.bz bel,by rw[HN.o];exact oa.bz bel,k0.drewN _,k1.drewN _,by rw[HN.o];exact k2.drewN _,bel⟩
       case measure=>simp[intOf];omega
      ·have HN:aJ ((a.atoms.take (k+1)).filter nfA=xs++[a.atoms[k]]):=by show _=_;rw[HT.o,nfA,hkd,hab];simp
       have hk1:(a.atoms[k].kind == 1)=false:=by simp[hkd]
       have hab2:(a.atoms[k].a == a.atoms[k].b)=false:=by simpa using hab
       clear hkd;(go_wp2_with fail);(go_quiet (fail));replace of:=of.bz (w':=wr.drewN nq) bel;replace oa:=oa.bz (w':=wr.drewN nq) bel;replace k0:=k0.drewN nq;replace k1:=k1.drewN nq;replace k2:=k2.drewN nq;replace hB:=below_drewN hB nq;have g0':(wr.drewN nq).cell? ⟨b,off+k*3,none⟩=some (.int .i64 a.atoms[k].kind):=((h2.bz hB).cl hlt).1;have g1':(wr.drewN nq).cell? ⟨b,off+k*3+1,none⟩=some (.int .i64 a.atoms[k].a):=((h2.bz hB).cl hlt).2.1;have g2':(wr.drewN nq).cell? ⟨b,off+k*3+2,none⟩=some (.int .i64 a.atoms[k].b):=((h2.bz hB).cl hlt).2.2;clear qk0 qk1 rk1 lk1 qk2 rk2 lk2 g0 g1 g2 lb;(go_wp2_with fail);generalize wr.drewN nq=V at of oa k0 k1 k2 hB g0' g1' g2' ⊢;(replace qk0:=k0.z;replace qk1:=k1.cell;replace rk1:=k1.frozen;replace lk1:=k1.lt;replace qk2:=k2.cell;replace rk2:=k2.frozen;replace lk2:=k2.lt);refine wp_region_noPanic ?_;refine wp_region_last' (S:=(fun w'=>(∀ i,w'.cell? ⟨po,i,none⟩=#[.slice A acc.length c,.slice B xs.length d][i]?)∧(∀ i,w'.cell? ⟨w.heap.size,i,none⟩=#[.slice A1 a.facts.length c1,.slice (some ⟨b,off,none⟩) a.atoms.length c2][i]?)∧w'.cell? ⟨b,off+k*3,none⟩=some (.int .i64 a.atoms[k].kind)∧w'.cell? ⟨b,off+k*3+1,none⟩=some (.int .i64 a.atoms[k].a)∧w'.cell? ⟨b,off+k*3+2,none⟩=some (.int .i64 a.atoms[k].b))) (by simp) (by kernel_rfl) (by kernel_rfl) (⟨Blk.cell blks,Blk.cell blks,((bcell (W:=V) bel).1 b _ (block_lt_of_cell g0')).trans g0',((bcell (W:=V) bel).1 b _ (block_lt_of_cell g1')).trans g1',((bcell (W:=V) bel).1 b _ (block_lt_of_cell g2')).trans g2'⟩) (fun aH=>?_);simp only[List.dropLast,List.getLast,nopOf,List.cons_append,List.nil_append,List.length_cons,List.length_nil,Nat.zero_add,Nat.reduceAdd];refine tk2 0 rfl aH (h:=tk2 1 rfl aH (h:=tk2 2 rfl aH (h:=?_)));(try simp only[zz]);refine tk2 3 rfl aH (h:=tk2 4 rfl aH (h:=tk2 5 rfl aH (h:=?_)));(try simp only[zz]);refine tk2 6 rfl aH (h:=?_);refine rdc 7 rfl fun K hK=>?_;(try simp only[zz]);go_simp;refine hK.out _ _ (⟨Blk.cell blks,Blk.cell blks,((bcell (W:=V) bel).1 b _ (block_lt_of_cell g0')).trans g0',((bcell (W:=V) bel).1 b _ (block_lt_of_cell g1')).trans g1',((bcell (W:=V) bel).1 b _ (block_lt_of_cell g2')).trans g2'⟩) ?_;clear aH hK K;intro aH;(try simp only[zz]);refine rdc 8 rfl fun K hK=>?_;skip;(refine stepAL (base:=po+1) (xs:=xs) rfl _ _ rfl rfl (AtomsO.bz (w:=V) oa bel) rfl (AtomsV.one' blks) (by simp;omega) (by simp;omega) ?_;intro B' d' w2 oa2 hg2 hB3;have z2:=Blk.zm (g:=po) (hg:=hg2) blks (AtomsO.bz (w:=V) oa bel).1 (by decide);have z2c:=z2.cell;have z2f:=z2.frozen;have z0:=Blk.zm (g:=w.heap.size) (hg:=hg2) blks (AtomsO.bz (w:=V) oa bel).1 (by decide);have z1:=Blk.zm (g:=w.heap.size+1) (hg:=hg2) blks (AtomsO.bz (w:=V) oa bel).1 (by decide);have hBw2:Below w.heap.size w w2:=Below.trans bel (hB3.mono (by omega));have gg:=(h2.bz hBw2).cl hlt);refine hK.out _ _ (⟨z2c,z0.cell,gg.1,gg.2.1,gg.2.2⟩) ?_;clear aH hK K;intro aH;(try simp only[zz]);refine tk2 9 rfl aH (h:=?_);(try simp only[zz]);refine rdc 10 rfl fun K hK=>?_;go_simp;refine hK.out _ _ (⟨z2c,z0.cell,gg.1,gg.2.1,gg.2.2⟩) (fun aH=>?_);clear hK K;refine wpAnyH_done (by kernel_rfl) ?_ _;unfold lastQ;go_simp;refine NoPanic.normal ?_;have of2:=FactsO.grownA (FactsO.bz (w:=V) of bel) (AtomsO.bz (w:=V) oa bel) hg2;(go_wp2_with fail)
       go_round
       case rel=>
        refine ⟨k+1,B',d',by omega,by go_num,of2.setT z2 (by decide) _ _,?_,z0.far (by simp only[];omega) _,z1.far (by simp only[];omega) _,?_,bel⟩
        ·rw[HN.o];simpa using oa2.setT z2 (by decide) 1 (.slice B' (xs++[a.atoms[k]]).length d')
        ·rw[HN.o];simpa using z2.set_ 1 (.slice B' (xs.length+1) d')
       case measure=>simp[intOf];omega
    ·obtain rfl:k=a.atoms.length:=by omega
     rw[List.take_length] at oa k2 qk2;(go_wp2_with fail);refine bodyPost_ret (v:=.tuple #[.agg #[.slice A acc.length c,.slice B (a.atoms.filter nfA).length d],.bool true]) (by simp[results,Tryz.results275,go_sem,qk1]) rfl ⟨_,rfl,?_,bel⟩;rw[HL.o];exact ⟨_,_,rfl,((of.setT k1 (by decide) _ _).setT (k1.set_ _ _) (by decide) _ _).bq (by omega),((oa.setT k1 (by decide) _ _).setT (k1.set_ _ _) (by decide) _ _).bq (by omega)⟩
--@ spec.l10Known
theorem c_spec_l10Known {lo hi lo' hi' : Nat} (v : Value) (a : Asn) (B : Option Addr) (c K : Nat) (w : World) (h : AsnV w lo hi v a) (h' : BoolsV w lo' hi' B (zj K)) (hv : a.valid = true) :
    Calls Tryz.prog 273 #[v, .slice B 9 c] w fun e w' => e = .returned (.tuple #[.int .i64 ((subStep K a.facts).getD (0, 0)).1, .int .i64 ((subStep K a.facts).getD (0, 0)).2, .bool (subStep K a.facts).isSome]) ∧ Below w.heap.size w w' := by
  obtain ⟨A1, c1, A2, c2, rfl, h1, h2⟩ := h;have hl := h1.le;have HV := ax hv;clear hv;obtain ⟨pb, po, rfl, hpb⟩ := flags_addr h';(go_enter Tryz.func273, Tryz.ntmps273);go_wp2
  go_loopw [7] (fun i wr => ∃ k : Nat, k ≤ a.facts.length ∧ i = .int .i64 k ∧ aJ (subStep K a.facts = subStep K (a.facts.drop k)) ∧ Blk wr w.heap.size 37 #[.slice A1 a.facts.length c1, .slice A2 a.atoms.length c2] ∧ Below w.heap.size w wr) (fun i _ => a.facts.length - (intOf i).toNat)
  case atStart => exact ⟨0, Nat.zero_le _, rfl, by simp [aJ], blks, bel⟩
  case round =>
    obtain ⟨k, hk, rfl, HA, k0, hB⟩ := hrel;(replace qk0 := k0.z);have hf := h'.bz hB;have hpb2 : pb < wr.heap.size := Nat.lt_of_lt_of_le hpb hB.size;by_cases hlt : k < a.facts.length
    · obtain ⟨b, off, rfl, hbl⟩ := h1.blt hlt
      obtain ⟨c0, c1', c2'⟩ := (h1.bz hB).cl hlt;have HD := ax (subStep_cons K a.facts k hlt)
      have hfv : a.facts[k].valid = true := by
        have hvb := HV.o;simp only [Asn.valid, factsValid, Bool.and_eq_true] at hvb;exact List.all_eq_true.1 hvb.1.2 _ (List.getElem_mem hlt)
      simp only [Fct.valid, Bool.and_eq_true] at hfv;have b1 := zjA.1 hfv.1;have b2 := zjA.1 hfv.2;clear hfv;obtain ⟨m1, e1⟩ := Int.eq_ofNat_of_zero_le b1.1;obtain ⟨m2, e2⟩ := Int.eq_ofNat_of_zero_le b2.1;have E1 := ax e1;have E2 := ax e2;rw [e1] at c1';rw [e2] at c2';have m18 : (m1 : Int) < 9 := by omega
      have m28 : (m2 : Int) < 9 := by omega
      have f1 := flags_at hf (m := m1) (by omega);have f2 := flags_at hf (m := m2) (by omega)
      have hq : subOf K a.facts[k] = if a.facts[k].eq && !((m1 : Int) == m2) then (if decide (4 < m1) && !K.testBit m1 then some ((m1 : Int), (m2 : Int)) else if decide (4 < m2) && !K.testBit m2 then some ((m2 : Int), (m1 : Int)) else none) else none := by
        have x1 : free K (m1 : Int) = (decide (4 < m1) && !K.testBit m1) := by
          unfold free logB; rw [Int.toNat_natCast]; congr 1; rw [decide_eq_decide]; omega
        have x2 : free K (m2 : Int) = (decide (4 < m2) && !K.testBit m2) := by
          unfold free logB; rw [Int.toNat_natCast]; congr 1; rw [decide_eq_decide]; omega
        rw [subOf, e1, e2, x1, x2]
      have HQ := ax hq;clear e1 e2 b1 b2 hq hf;cases he : a.facts[k].eq
      · rw [he] at c0
        have HS : aJ (subOf K a.facts[k] = none) := by show _ = _; rw [HQ.o, he]; rfl
        clear he;(go_wp2_with fail)
        go_round
        case rel => exact ⟨k + 1, by omega, by go_num, by show _ = _; rw [HA.o, HD.o, HS.o]; rfl, k0.alloc _, bel⟩
        case measure => simp [intOf]; omega
      rw [he] at c0;by_cases hab : m1 = m2
      · have HS : aJ (subOf K a.facts[k] = none) := by show _ = _; rw [HQ.o, he, hab]; simp
        have t0 : ((m1 : Int) == (m2 : Int)) = true := by simp [hab]
        subst hab;clear he;(go_wp2_with fail)
        go_round
        case rel => exact ⟨k + 1, by omega, by go_num, by show _ = _; rw [HA.o, HD.o, HS.o]; rfl, k0.alloc _, bel⟩
        case measure => simp [intOf]; omega
      have t0 : ((m1 : Int) == (m2 : Int)) = false := by simp; omega
      have habi : ¬ ((m1 : Int) = (m2 : Int)) := by omega
      by_cases la : 4 < m1
      all_goals
        by_cases lb : 4 < m2
        all_goals
          cases ka : K.testBit m1
          all_goals
            cases kb : K.testBit m2
            all_goals
              have HS := HQ.o;simp [he, habi, la, lb, ka, kb] at HS;replace HS := ax HS;rw [ka] at f1;rw [kb] at f2;clear ka kb
      all_goals clear he hab habi
      all_goals
        go_wp2_with fail
        first
          | (go_round
             case rel => exact ⟨k + 1, by omega, by go_num, by show _ = _; rw [HA.o, HD.o, HS.o]; rfl, k0.alloc _, bel⟩
             case measure => simp [intOf]; omega)
          | (go_quiet (fail)
             go_wp2_with fail
             go_ret3
             refine ⟨by rw [HA.o, HD.o, HS.o]; rfl, below_drewN bel _⟩)
    · obtain rfl : k = a.facts.length := by omega
      go_wp2_with fail
      go_ret3
      have e : subStep K a.facts = none := by rw [HA.o, List.drop_length]; rfl
      exact ⟨by rw [e]; rfl, bel⟩
end
section
open Go Go.RowKit Go.Proofs
end
section
open Go Go.RowKit Go.Proofs
attribute [local go_sem ↓] Go.wp_at_zero Go.wp_at_succ
theorem c_l7Pick {lo hi:Nat} (v:Value) (a:Asn) (m:Nat) (w:World) (h:AsnV w lo hi v a) (hm:m≤1000000) (hla:a.atoms.length≤60) :
  Calls Tryz.prog 184 #[v,.int .i64 m] w fun e w'=>∃ r,e=.returned r∧AsnO w' w.heap.size r (pickA a m)∧Below w.heap.size w w':=by
 obtain ⟨A1,c1,A2,c2,rfl,-,h2⟩:=h;have H2:=ax h2;have hl:=h2.le;clear h2;(go_enter Tryz.func184,Tryz.ntmps184);obtain ⟨k0,kr,kg⟩:=blk3 w tAs tAs tAs #[.slice A1 a.facts.length c1,.slice A2 a.atoms.length c2] #[.slice none 0 0,.slice none 0 0] #[.slice none 0 0,.slice none 0 0];have HB:aJ (Below w.heap.size w (((w.alloc (.cells #[.slice A1 a.facts.length c1,.slice A2 a.atoms.length c2] tAs)).alloc (.cells #[.slice none 0 0,.slice none 0 0] tAs)).alloc (.cells #[.slice none 0 0,.slice none 0 0] tAs))):=ax bel;(go_wp2_with fail);generalize (((w.alloc (.cells #[.slice A1 a.facts.length c1,.slice A2 a.atoms.length c2] tAs)).alloc (.cells #[.slice none 0 0,.slice none 0 0] tAs)).alloc (.cells #[.slice none 0 0,.slice none 0 0] tAs))=W at k0 kr kg HB ⊢
 go_loopw [6] (fun i wr=>∃ (j:Nat) (xs:List Atm) (A3:Option Addr) (c3:Nat),j≤a.atoms.length∧i=.int .i64 j∧aJ (xs=maskA m 0 (a.atoms.take j))∧xs.length≤j∧aJ (AtomsO wr w.heap.size (.slice A3 xs.length c3) xs)∧Blk wr w.heap.size tAs #[.slice A1 a.facts.length c1,.slice A2 a.atoms.length c2]∧Blk wr (w.heap.size+1) tAs #[.slice none 0 0,.slice none 0 0]∧Blk wr (w.heap.size+1+1) tAs #[.slice none 0 0,.slice A3 xs.length c3]∧aJ (Below w.heap.size w wr)) (fun i _=>a.atoms.length - (intOf i).toNat)
 case atStart=>exact ⟨0,[],none,0,Nat.zero_le _,rfl,by simp[aJ,maskA],Nat.le_refl _,AtomsO.nil _ _,k0,kr,kg,HB⟩
 case round=>
  clear k0 kr kg HB;obtain ⟨j,xs,A3,c3,hj,rfl,HXS,hxl,HA,k0,kr,kg,HB⟩:=hrel;(replace qk0:=k0.z;replace qkr:=kr.cell;replace rkr:=kr.frozen;replace lkr:=kr.lt;replace qkg:=kg.z);have hsz:=HB.o.size;by_cases hlt:j<a.atoms.length
  ·have HX:=ax (H2.o.bz HB.o);obtain ⟨b,off,rfl,hbl⟩:=HX.o.blt hlt;have hji:(j:Int)<(a.atoms.length:Int):=by omega
   have HS:=ax (maskA_snoc m a.atoms j hlt);have hbit:=bit_at m j (by omega);have hk64:min j 64=j:=by omega
   cases hb:m.testBit j
   ·rw[hb] at hbit;have HXN:aJ (xs=maskA m 0 (a.atoms.take (j+1))):=ax (by rw[HS.o,hb,←HXS.o];simp);clear hb HS;(go_wp2_with fail)
    go_round
    case rel=>exact ⟨j+1,xs,A3,c3,by omega,by go_num,HXN,by omega,HA,k0,kr,kg,HB⟩
    case measure=>simp[intOf];omega
   ·rw[hb] at hbit;have HXN:aJ (xs++[a.atoms[j]]=maskA m 0 (a.atoms.take (j+1))):=ax (by rw[HS.o,hb,←HXS.o];simp);clear hb HS;(go_wp2_with fail);refine wp_region_noPanic ?_;refine wp_region_last' (S:=(fun w'=>(∀ i,w'.cell? ⟨w.heap.size+1+1,i,none⟩=#[.slice none 0 0,.slice A3 xs.length c3][i]?)∧(∀ i,w'.cell? ⟨w.heap.size,i,none⟩=#[.slice A1 a.facts.length c1,.slice (some ⟨b,off,none⟩) a.atoms.length c2][i]?)∧w'.cell? ⟨b,off+j * 3,none⟩=some (.int .i64 a.atoms[j].kind)∧w'.cell? ⟨b,off+j * 3+1,none⟩=some (.int .i64 a.atoms[j].a)∧w'.cell? ⟨b,off+j * 3+2,none⟩=some (.int .i64 a.atoms[j].b))) (by simp) (by kernel_rfl) (by kernel_rfl) (⟨Blk.cell blks,Blk.cell blks,(AtomsV.bz HX.o bel).cl hlt⟩) (fun aH=>?_);simp only[List.dropLast,List.getLast,nopOf,List.cons_append,List.nil_append,List.length_cons,List.length_nil,Nat.zero_add,Nat.reduceAdd];refine tk2 0 rfl aH (h:=tk2 1 rfl aH (h:=tk2 2 rfl aH (h:=?_)));(try simp only[zz]);refine tk2 3 rfl aH (h:=tk2 4 rfl aH (h:=tk2 5 rfl aH (h:=?_)));(try simp only[zz]);refine tk2 6 rfl aH (h:=?_);refine rdc 7 rfl fun K hK=>?_;(try simp only[zz]);go_simp;refine hK.out _ _ (⟨Blk.cell blks,Blk.cell blks,(AtomsV.bz HX.o bel).cl hlt⟩) ?_;clear aH hK K;intro aH;(try simp only[zz]);have hBX:Below w.heap.size w (wr.alloc (.cells #[.int .i64 a.atoms[j].kind,.int .i64 a.atoms[j].a,.int .i64 a.atoms[j].b] tA)).drew:=(Below.alloc HB.o hsz _).drew;have HAX:=ax (HA.o.bz (((Below.refl wr.heap.size wr).alloc (Nat.le_refl _) (.cells #[.int .i64 a.atoms[j].kind,.int .i64 a.atoms[j].a,.int .i64 a.atoms[j].b] tA)).drew));have kl:=(Blk.new wr tA #[.int .i64 a.atoms[j].kind,.int .i64 a.atoms[j].a,.int .i64 a.atoms[j].b]).drew;have kgX:=(kg.alloc (.cells #[.int .i64 a.atoms[j].kind,.int .i64 a.atoms[j].a,.int .i64 a.atoms[j].b] tA)).drew;have k0X:=(k0.alloc (.cells #[.int .i64 a.atoms[j].kind,.int .i64 a.atoms[j].a,.int .i64 a.atoms[j].b] tA)).drew;have krX:=(kr.alloc (.cells #[.int .i64 a.atoms[j].kind,.int .i64 a.atoms[j].a,.int .i64 a.atoms[j].b] tA)).drew;clear kg k0 kr HA HX qk0 qkg qkr rkr lkr;generalize (wr.alloc (.cells #[.int .i64 a.atoms[j].kind,.int .i64 a.atoms[j].a,.int .i64 a.atoms[j].b] tA)).drew=V at hBX HAX kl kgX k0X krX aH ⊢;have hszV:=hBX.size;generalize wr.heap.size=L at kl ⊢;clear hsz hbl HB;refine rdc 8 rfl fun K hK=>?_;skip;(refine stepAL (base:=w.heap.size) (xs:=xs) (ys:=[a.atoms[j]]) rfl _ _ rfl rfl HAX.o rfl (AtomsV.one' kl) (by simp;omega) hszV ?_;intro A' d' w2 of2 hg2 hB3;have z2:=Blk.zm (hg:=hg2) kgX HAX.o.1 (by decide);have z0:=Blk.zm (hg:=hg2) k0X HAX.o.1 (by decide);have hBw2:Below w.heap.size w w2:=hBX.trans hB3);refine hK.out _ _ (⟨z2.cell,z0.cell,(H2.o.bz hBw2).cl hlt⟩) ?_;clear aH hK K;intro aH;(try simp only[zz]);have rz2:=z2.frozen;have lz2:=z2.lt;refine tk2 9 rfl aH (h:=?_);(try simp only[zz]);refine rdc 10 rfl fun K hK=>?_;go_simp;refine hK.out _ _ (⟨z2.cell,z0.cell,(H2.o.bz hBw2).cl hlt⟩) (fun aH=>?_);clear hK K;refine wpAnyH_done (by kernel_rfl) ?_ _;unfold lastQ;go_simp;refine NoPanic.normal ?_;have zr:=Blk.zm (hg:=hg2) krX HAX.o.1 (by decide);(go_wp2_with fail);have of3:=of2.setT z2 (by decide) 1 (.slice A' (xs.length+1) d')
    go_round
    case rel=>exact ⟨j+1,xs++[a.atoms[j]],A',d',by omega,by go_num,HXN,by simp;omega,(by simpa using of3:AtomsO _ _ _ _),z0.far (by simp only[];omega) _,zr.far (by simp only[];omega) _,(by have:=z2.set_ 1 (.slice A' (xs.length+1) d');simpa using this),hBw2.setCell (p:=⟨w.heap.size+1+1,1,none⟩) (by simp only;omega) _⟩
    case measure=>simp[intOf];omega
  ·obtain rfl:j=a.atoms.length:=by omega
   have hacc:xs=maskA m 0 a.atoms:=by have:=HXS.o;rwa [List.take_length] at this
   subst hacc;(go_wp2_with fail);refine bodyPost_ret (v:=.agg #[.slice none 0 0,.slice A3 (maskA m 0 a.atoms).length c3]) (by simp[results,Tryz.results184,go_sem,qkr]) rfl ⟨_,rfl,⟨_,_,rfl,FactsO.nil _ _,?_⟩,?_⟩
   ·exact (HA.o.setT kr (by decide) 0 _).setT (kr.set_ 0 _) (by decide) 1 _
   ·exact (HB.o.setCell (p:=⟨w.heap.size+1,0,none⟩) (by simp only;omega) _).setCell (p:=⟨w.heap.size+1,1,none⟩) (by simp only;omega) _
theorem c_l7Frame {lo hi lo' hi':Nat} (v v':Value) (a b:Asn) (w:World) (h:AsnV w lo hi v a) (h':AsnV w lo' hi' v' b) (hv:a.valid=true) (hv':b.valid=true) :
  Calls Tryz.prog 131 #[v,v'] w fun e w'=>∃ r,e=.returned (.tuple #[r,.bool (frameF a b).isSome])∧AsnO w' w.heap.size r ((frameF a b).getD ⟨[],[]⟩)∧Below w.heap.size w w':=by
 have HA:=ax h;have HB:=ax h';have hla:=(zjC hv);have hlb:=(zjC hv');have HF:=ax (frame_map hv hv');obtain ⟨A1,c1,A2,c2,rfl,-,-⟩:=h;obtain ⟨A3,c3,A4,c4,rfl,-,-⟩:=h';obtain ⟨n,hn⟩:∃ n,n=a.atoms.length:=⟨_,rfl⟩;obtain ⟨N,hN⟩:∃ N:Nat,N=2 ^ n:=⟨_,rfl⟩;have hN64:N≤64:=by rw[hN];exact Nat.pow_le_pow_right (n:=2) (by decide) (show n≤6 by omega)
 have HM:aJ (frM a b=seekM (frB a b) (N - 0) 0):=ax (by rw[hN,hn];rfl);have hp:(2:Int) ^ n=(N:Int):=by rw[hN];simp
 have hn64:min n 64=n:=by omega
 rw[←hn] at hla ⊢;have hPL:∀ m,(pickA a m).facts.length≤12∧(pickA a m).atoms.length≤n:=fun m=>⟨Nat.zero_le _,by rw[hn];exact maskA_len m _ 0⟩;have HPL:=ax hPL;replace hN:=ax hN;clear hv hv' hPL;(go_enter Tryz.func131,Tryz.ntmps131);obtain ⟨k2,k3,k4⟩:=blk3 w tAs tAs tAs #[.slice A1 a.facts.length c1,.slice A2 n c2] #[.slice A3 b.facts.length c3,.slice A4 b.atoms.length c4] #[.slice none 0 0,.slice none 0 0];have hB:aJ (Below w.heap.size w (((w.alloc (.cells #[.slice A1 a.facts.length c1,.slice A2 n c2] tAs)).alloc (.cells #[.slice A3 b.facts.length c3,.slice A4 b.atoms.length c4] tAs)).alloc (.cells #[.slice none 0 0,.slice none 0 0] tAs))):=ax bel;rw[←hn] at HA;replace hn:=ax hn;(go_wp2_with fail);generalize (((w.alloc (.cells #[.slice A1 a.facts.length c1,.slice A2 n c2] tAs)).alloc (.cells #[.slice A3 b.facts.length c3,.slice A4 b.atoms.length c4] tAs)).alloc (.cells #[.slice none 0 0,.slice none 0 0] tAs))=W at k2 k3 k4 hB ⊢
 go_loopw [6] (fun i wr=>∃ k:Nat,k≤N∧i=.int .i64 k∧aJ (frM a b=seekM (frB a b) (N - k) k)∧Blk wr w.heap.size tAs #[.slice A1 a.facts.length c1,.slice A2 n c2]∧Blk wr (w.heap.size+1) tAs #[.slice A3 b.facts.length c3,.slice A4 b.atoms.length c4]∧Blk wr (w.heap.size+1+1) tAs #[.slice none 0 0,.slice none 0 0]∧aJ (Below w.heap.size w wr)) (fun i _=>N - (intOf i).toNat)
 case atStart=>exact ⟨0,Nat.zero_le _,rfl,HM,k2,k3,k4,hB⟩
 case round=>
  clear HM k2 k3 k4 hB;obtain ⟨k,hk,rfl,HM,k2,k3,k4,hB⟩:=hrel;(replace qk2:=k2.z;replace qk3:=k3.z;replace qk4:=k4.cell;replace rk4:=k4.frozen;replace lk4:=k4.lt);by_cases hlt:k<N
  ·have hki:(k:Int)<(N:Int):=by omega
   have HS:aJ (frM a b=if frB a b k then some k else seekM (frB a b) (N - (k+1)) (k+1)):=ax (by rw[HM.o,seekM_step hlt]);have HFS:=ax (frB_spec (a:=a) (b:=b) k);clear HM;(go_wp2_with fail);refine (c_l7Pick _ a k _ (HA.o.bz hB.o) (by omega) (by have:=hn.o;omega)).mono ?_;rintro e w1 ⟨r1,rfl,o1,hB1⟩;obtain ⟨hp1,hp2⟩:=HPL.o k;obtain ⟨P,hP⟩:∃ P,P=pickA a k:=⟨_,rfl⟩;rw[←hP] at o1 HFS hp1 hp2;replace hP:=ax hP;obtain ⟨F1,f1,G1,g1,rfl⟩:=o1.I.form;have O1:=ax o1;have hzr:=hB.o.size;(replace k2:=k2.nz hB1;replace qk2:=k2.z;replace k3:=k3.nz hB1;replace qk3:=k3.z;replace k4:=k4.nz hB1;replace qk4:=k4.cell;replace rk4:=k4.frozen;replace lk4:=k4.lt);have HB1:=ax (bgo hB.o hB1);clear hB1 o1 hB;have k7:=Blk.new w1 tAs #[.slice F1 P.facts.length f1,.slice G1 P.atoms.length g1];have hbx:=bbox HB1.o (.cells #[.slice F1 P.facts.length f1,.slice G1 P.atoms.length g1] tAs);have k2x:=k2.alloc (.cells #[.slice F1 P.facts.length f1,.slice G1 P.atoms.length g1] tAs);have k3x:=k3.alloc (.cells #[.slice F1 P.facts.length f1,.slice G1 P.atoms.length g1] tAs);have k4x:=k4.alloc (.cells #[.slice F1 P.facts.length f1,.slice G1 P.atoms.length g1] tAs);have O1x:=ax ((O1.o.bz (bbox (Below.refl _ _) (.cells #[.slice F1 P.facts.length f1,.slice G1 P.atoms.length g1] tAs))).bq (base':=w.heap.size) hzr);clear O1;(go_upto_region 5 with fail);generalize (w1.alloc (.cells #[.slice F1 P.facts.length f1,.slice G1 P.atoms.length g1] tAs))=V1 at k7 hbx k2x k3x k4x O1x ⊢;clear k2 k3 k4 qk2 qk3 qk4 rk4 lk4;(replace qk7:=k7.z;replace qk2x:=k2x.z;replace qk3x:=k3x.z;replace qk4x:=k4x.cell;replace rk4x:=k4x.frozen;replace lk4x:=k4x.lt);have hzV:=hbx.size;(go_wp2_with fail);refine (c_spec_l3Star _ _ b P _ (HB.o.bz hbx) O1x.o.rj (by omega) (by omega)).mono ?_;rintro e w2 ⟨r2,rfl,o2,hB2⟩;obtain ⟨C,hC⟩:∃ C,C=starA b P:=⟨_,rfl⟩;rw[←hC] at o2;rw[hP.o,←hP.o,←hC] at HFS;replace hC:=ax hC;obtain ⟨F2,f2,G2,g2,rfl⟩:=o2.I.form;have hC2:=ax o2.rj;have O2x:=ax (O1x.o.bz hB2);(replace k7:=k7.nz hB2;replace k2x:=k2x.nz hB2;replace k3x:=k3x.nz hB2;replace k4x:=k4x.nz hB2);have HB2:=ax (bgo hbx hB2);clear hB2 o2 hbx O1x;have k8:=Blk.new w2 tAs #[.slice F2 C.facts.length f2,.slice G2 C.atoms.length g2];have hbx:=bbox HB2.o (.cells #[.slice F2 C.facts.length f2,.slice G2 C.atoms.length g2] tAs);replace k7:=k7.alloc (.cells #[.slice F2 C.facts.length f2,.slice G2 C.atoms.length g2] tAs);replace k2x:=k2x.alloc (.cells #[.slice F2 C.facts.length f2,.slice G2 C.atoms.length g2] tAs);replace k3x:=k3x.alloc (.cells #[.slice F2 C.facts.length f2,.slice G2 C.atoms.length g2] tAs);replace k4x:=k4x.alloc (.cells #[.slice F2 C.facts.length f2,.slice G2 C.atoms.length g2] tAs);have HC:=ax ((hC2.o.bz (bbox (Below.refl _ _) (.cells #[.slice F2 C.facts.length f2,.slice G2 C.atoms.length g2] tAs))));have O1x:=ax (O2x.o.bz (bbox (Below.refl _ _) (.cells #[.slice F2 C.facts.length f2,.slice G2 C.atoms.length g2] tAs)));have hzc:w2.heap.size≤(w2.alloc (.cells #[.slice F2 C.facts.length f2,.slice G2 C.atoms.length g2] tAs)).heap.size:=by simp
   obtain ⟨pf,hpf⟩:∃ x,x=V1.heap.size:=⟨_,rfl⟩;clear hC2 O2x qk7 qk2x qk3x qk4x rk4x lk4x;(go_upto_region 6 with fail);generalize (w2.alloc (.cells #[.slice F2 C.facts.length f2,.slice G2 C.atoms.length g2] tAs))=V2 at k7 hbx k2x k3x k4x O1x k8 HC hzc ⊢;(replace qk7:=k7.z;replace qk2x:=k2x.z;replace qk3x:=k3x.z;replace qk4x:=k4x.cell;replace rk4x:=k4x.frozen;replace lk4x:=k4x.lt;replace qk8:=k8.z);(go_wp2_with fail);refine (vz _ C _ HC.o).mono ?_;rintro e w3 ⟨rfl,hB3⟩;(replace k7:=k7.nz hB3;replace qk7:=k7.z;replace k8:=k8.nz hB3;replace qk8:=k8.z;replace k2x:=k2x.nz hB3;replace qk2x:=k2x.z;replace k3x:=k3x.nz hB3;replace qk3x:=k3x.z;replace k4x:=k4x.nz hB3;replace qk4x:=k4x.cell;replace rk4x:=k4x.frozen;replace lk4x:=k4x.lt);have HB3:=ax (bgo hbx hB3);have HC3:=ax (HC.o.bz hB3);have O3:=ax (O1x.o.bz hB3);have hz3:=hB3.size;clear hB3 hbx HC O1x;cases hcv:C.valid
   ·have HM2:aJ (frM a b=seekM (frB a b) (N - (k+1)) (k+1)):=ax (by rw[HS.o,HFS.o,hcv];rfl);clear hcv HS HFS;(go_wp2_with fail)
    go_round
    case rel=>exact ⟨k+1,by omega,by go_num,HM2,k2x,k3x,k4x,HB3⟩
    case measure=>simp[intOf];omega
   ·rw[hcv,Bool.true_and] at HFS;clear hcv;(go_wp2_with fail);refine (c_spec_Entails _ _ a C _ (HA.o.bz HB3.o) HC3.o).mono ?_;rintro e w4 ⟨rfl,hB4⟩;rw[←HFS.o];(replace k7:=k7.nz hB4;replace qk7:=k7.z;replace k2x:=k2x.nz hB4;replace qk2x:=k2x.z;replace k3x:=k3x.nz hB4;replace qk3x:=k3x.z;replace k4x:=k4x.nz hB4;replace qk4x:=k4x.cell;replace rk4x:=k4x.frozen;replace lk4x:=k4x.lt);have HB4:=ax (bgo HB3.o hB4);have O4:=ax (O3.o.bz hB4);clear hB4 HB3 HC3 O3 k8 qk8;cases hp:frB a b k
    ·have HM2:aJ (frM a b=seekM (frB a b) (N - (k+1)) (k+1)):=ax (by rw[HS.o,hp];rfl);clear hp HS HFS;(go_wp2_with fail)
     go_round
     case rel=>exact ⟨k+1,by omega,by go_num,HM2,k2x,k3x,k4x,HB4⟩
     case measure=>simp[intOf];omega
    ·have E:aJ (frameF a b=some P):=ax (by rw[HF.o,HS.o,hp,if_pos rfl,Option.map_some,←hP.o]);clear hp HS HFS;(go_wp2_with fail);refine bodyPost_ret (v:=.tuple #[.agg #[.slice F1 P.facts.length f1,.slice G1 P.atoms.length g1],.bool true]) (by simp[results,Tryz.results131,go_sem,qk4x,lk4x]) rfl ⟨_,by rw[E.o];rfl,?_,?_⟩
     ·rw[E.o];exact AsnO.setW O4.o k4x _ _
     ·exact (HB4.o.setCell (p:=⟨w.heap.size+1+1,0,none⟩) (by simp only;omega) _).setCell (p:=⟨w.heap.size+1+1,1,none⟩) (by simp only;omega) _
  ·obtain rfl:k=N:=by omega
   have E:aJ (frameF a b=none):=ax (by rw[HF.o,HM.o,Nat.sub_self];rfl);have hBw:=hB.o;(go_wp2_with fail);refine bodyPost_ret (v:=.tuple #[.agg #[.slice none 0 0,.slice none 0 0],.bool false]) (by simp[results,Tryz.results131,go_sem,qk4,lk4]) rfl ⟨_,by rw[E.o];rfl,by rw[E.o];exact AsnO.zero _ _,bel⟩
end
section
open Go Go.RowKit Go.Proofs
theorem l8Count_go:∀ (N:Nat) (L:Cms),L.sz<N→∀ (A:Option Addr) (c d lo hi:Nat) (D:Int) (w:World),D=d→CmsV w lo hi A L→L.len≤1049600→L.small 1049600→L.sz≤4200000→d≤4→
  Calls Tryz.prog 129 #[.slice A L.len c,.int .i64 D] w fun e w'=>e=.returned (.int .i64 (L.count d))∧Below w.heap.size w w':=by
 intro N
 induction N with
 | zero=>intro L h;omega
 | succ N IH=>
  intro L hsz A c d lo hi D w hD hV hlen hsm hcz hd;replace IH:=ax IH;replace hV:=ax hV;replace hsm:=ax hsm;replace hsz:=ax hsz;replace hcz:=ax hcz;obtain ⟨n,hn⟩:∃ n,n=L.len:=⟨_,rfl⟩;obtain ⟨R,hR⟩:∃ R,R=L.count d:=⟨_,rfl⟩;have hRz:R≤4200000:=by rw[hR];exact Nat.le_trans (Cms.count_le L d) hcz.o
  rw[←hn,←hR];rw[←hn] at hlen;replace hn:=ax hn;replace hR:=ax hR;rcases Nat.eq_zero_or_pos d with rfl|hd0
  ·subst hD;have e0:aJ (R=0):=by rw[aJ,hR.o];cases L<;>simp[Cms.count]
   (go_enter Tryz.func129,Tryz.ntmps129);(go_wp2_with fail)
   go_loopw [5,6] (fun m x wr=>m=.int .i64 0∧x=.int .i64 0∧Below w.heap.size w wr) (fun _ _ _=>0)
   case atStart=>exact ⟨rfl,rfl,bel⟩
   case round=>
    obtain ⟨rfl,rfl,hB⟩:=hrel;by_cases q1:0<n
    all_goals
     (go_wp2_with fail);go_ret;exact ⟨by rw[e0.o];rfl,hB⟩
  obtain ⟨d,rfl⟩:∃ e,d=e+1:=⟨d - 1,by omega⟩;clear hd0;have hD1:0<D:=by omega
  have hD4:D≤4:=by omega
  replace hD:=ax hD;(go_enter Tryz.func129,Tryz.ntmps129);(go_wp2_with fail)
  go_loopw [5,6] (fun y x wr=>∃ j m:Nat,j≤n∧x=.int .i64 j∧y=.int .i64 m∧m≤R∧aJ (R=m+(L.drop j).count (d+1))∧Below w.heap.size w wr) (fun _ x _=>n - (intOf x).toNat)
  case atStart=>exact ⟨0,0,Nat.zero_le _,rfl,rfl,Nat.zero_le _,ax (by rw[Nat.zero_add];exact hR.o),bel⟩
  case round=>
   obtain ⟨j,m,hj,rfl,rfl,hmR,HR,hB⟩:=hrel;by_cases hlt:j<n
   ·have hpos:0<(L.drop j).len:=by rw[Cms.drop_len,←hn.o];omega
    obtain ⟨k,a,b,t,i,body,els,r,eL⟩:=Cms.cons_of_len hpos;obtain ⟨bl,o,rfl,-,-,hAt⟩:=(hV.o.bz hB) (by rw[←hn.o];omega);have hD:=hAt.drop j;have hS:=Cms.small_drop j hsm.o;have hZ:=Cms.sz_drop j L;have hDs:=Cms.drop_succ j L eL;have HR':=HR.o;rw[eL] at hD hS hZ HR';obtain ⟨⟨p0,p1,p2,p3,p4,p5⟩,⟨A6,c6,p6,g6⟩,⟨A7,c7,p7,g7⟩,⟨A8,c8,p8,g8⟩,⟨A9,c9,p9,g9⟩,-⟩:=hD;obtain ⟨s1,s2,s3,s4,s5,s6,-⟩:=hS;simp only[Cms.sz] at hZ;have hbs:body.sz<N:=by have:=hsz.o;omega
    have hes:els.sz<N:=by have:=hsz.o;omega
    have hbz:body.sz≤4200000:=by have:=hcz.o;omega
    have hez:els.sz≤4200000:=by have:=hcz.o;omega
    have gB:aJ (CmsV wr lo hi A8 body):=g8;have gE:aJ (CmsV wr lo hi A9 els):=g9;rw[Cms.count,if_pos (by omega),Nat.add_sub_cancel,←hDs] at HR';obtain ⟨x1,hx1⟩:∃ x,x=body.count d:=⟨_,rfl⟩;obtain ⟨x2,hx2⟩:∃ x,x=els.count d:=⟨_,rfl⟩;rw[←hx1,←hx2] at HR';have y1:m+x1+x2+1≤R:=by omega
    replace HR':=ax HR';replace hx1:=ax hx1;replace hx2:=ax hx2;replace hbs:=ax hbs;replace hes:=ax hes;replace hbz:=ax hbz;replace hez:=ax hez;replace s5:=ax s5;replace s6:=ax s6;clear hZ hpos hAt g6 g7 g8 g9 HR hDs eL s1 s2;(go_wp2_with fail);have hlt8:=block_lt_of_cell p8;have i1:IntKind.i64.wrap ((m:Int)+1)=(m:Int)+1:=IntWalk.i64_in _ (by omega);have i2:IntKind.i64.wrap ((m:Int)+1+x1)=(m:Int)+1+x1:=IntWalk.i64_in _ (by omega);have i3:IntKind.i64.wrap ((m:Int)+1+x1+x2)=(m:Int)+1+x1+x2:=IntWalk.i64_in _ (by omega);have i4:IntKind.i64.wrap (D - 1)=D - 1:=IntWalk.i64_in _ (by omega);clear p0 p1 p2 p3 p4 p5 p6 p7;refine wp_region_noPanic ?_;refine wp_region_held_drew (S:=(fun w'=>w'.cell? ⟨bl,o+j * 10+8,none⟩=some (.slice A8 body.len c8)∧w'.cell? ⟨bl,o+j * 10+9,none⟩=some (.slice A9 els.len c9))) (by kernel_rfl) (⟨p8,p9⟩) (fun aH=>?_);refine tk2 0 rfl aH (h:=tk2 1 rfl aH (h:=tk2 2 rfl aH (h:=?_)));(try simp only[zz]);refine tk2 3 rfl aH (h:=tk2 4 rfl aH (h:=tk2 5 rfl aH (h:=?_)));(try simp only[zz]);refine tk2 6 rfl aH (h:=tk2 7 rfl aH (h:=tk2 8 rfl aH (h:=?_)));(try simp only[zz]);refine tk2 11 rfl aH (h:=tk2 12 rfl aH (h:=tk2 13 rfl aH (h:=?_)));(try simp only[zz]);refine tk2 14 rfl aH (h:=tk2 15 rfl aH (h:=tk2 16 rfl aH (h:=?_)));(try simp only[zz]);refine tk2 17 rfl aH (h:=?_);refine rdc 9 rfl fun K hK=>?_;(try simp only[zz]);(go_simp;refine (IH.o body hbs.o A8 c8 d lo hi _ _ (by have:=hD.o;push_cast at this;omega) (gB.o.bz bel) s3 s5.o hbz.o (by omega)).mono ?_;rintro e w8 ⟨rfl,hBx⟩;rw[←hx1.o];replace hB:=bgo hB.drew hBx;replace gE:=ax ((gE.o.bz (Below.refl _ _).drew).bz hBx);replace p8:=(hBx.cell (p:=⟨bl,o+j * 10+8,none⟩) hlt8).trans p8;replace p9:=(hBx.cell (p:=⟨bl,o+j * 10+9,none⟩) hlt8).trans p9;clear hBx hlt8;have hlt8:=block_lt_of_cell p8);refine hK.out _ _ (⟨p8,p9⟩) ?_;clear aH hK K;intro aH;(try simp only[zz]);refine tk2 10 rfl aH (h:=?_);refine rdc 18 rfl fun K hK=>?_;(try simp only[zz]);(go_simp;refine (IH.o els hes.o A9 c9 d lo hi _ _ (by have:=hD.o;push_cast at this;omega) gE.o s4 s6.o hez.o (by omega)).mono ?_;rintro e w9 ⟨rfl,hBx⟩;rw[←hx2.o];replace hB:=bgo hB hBx;replace p8:=(hBx.cell (p:=⟨bl,o+j * 10+8,none⟩) hlt8).trans p8;replace p9:=(hBx.cell (p:=⟨bl,o+j * 10+9,none⟩) hlt8).trans p9;clear hBx hlt8);refine hK.out _ _ (⟨p8,p9⟩) ?_;clear aH hK K;intro aH;(try simp only[zz]);refine tk2 19 rfl aH (h:=tk2 20 rfl aH (h:=?_));(try simp only[zz]);refine dn1 ?_;clear p8 p9 i1 i2 i3 i4;(go_wp2_with fail)
    go_round
    case rel=>exact ⟨j+1,m+x1+x2+1,by omega,by go_num,by push_cast;congr 1;omega,by omega,ax (by have:=HR'.o;omega),hB⟩
    case measure=>simp[intOf];omega
   ·(go_wp2_with fail);go_ret;obtain rfl:j=n:=by omega
    have e1:L.drop j=.nil:=by rw[hn.o];exact Cms.drop_all L
    have h2:=HR.o;rw[e1] at h2;exact ⟨by rw[h2];rfl,hB⟩
theorem c_spec_ProgramV4 {lo hi:Nat} (L:Cms) (A:Option Addr) (c:Nat) (w:World) (hV:CmsV w lo hi A L) (hlen:L.len≤1049600) (hsm:L.small 1049600) (hz:L.sz≤4200000) :
  Calls Tryz.prog 55 #[.slice A L.len c] w fun e w'=>e=.returned (.bool L.prog)∧Below w.heap.size w w':=by
 obtain ⟨R,hR⟩:∃ R,R=L.prog:=⟨_,rfl⟩;obtain ⟨x,hx⟩:∃ x,x=L.shape 4:=⟨_,rfl⟩;rw[←hR];rw[Cms.prog,←hx] at hR;have hc:x=true→L.count 4=L.sz:=fun h=>Cms.count_shape (by rw[←hx];exact h);replace hc:=ax hc;replace hR:=ax hR;replace hx:=ax hx;replace hV:=ax hV;replace hsm:=ax hsm;(go_enter Tryz.func55,Tryz.ntmps55);(go_wp2_with fail);refine (l8Shape_go _ L (Nat.lt_succ_self _) A c 4 lo hi w hV.o hlen hsm.o (by omega)).mono ?_;rintro e w1 ⟨rfl,hB1⟩;rw[←hx.o];cases x
 ·(go_wp2_with fail);go_ret;exact ⟨zjD (by rw[hR.o];rfl),hB1⟩
 (go_wp2_with fail);refine (l8Count_go _ L (Nat.lt_succ_self _) A c 4 lo hi 4 w1 rfl (hV.o.bz hB1) hlen hsm.o hz (by omega)).mono ?_;rintro e w2 ⟨rfl,hB2⟩;rw[hc.o (by simp)];have hB:=bgo hB1 hB2;(go_wp2_with fail);go_ret;exact ⟨zjD (by rw[hR.o,Bool.true_and];simp;omega),hB⟩
end
end Go.Proofs.YtjaohekkmlkinaaGreat
