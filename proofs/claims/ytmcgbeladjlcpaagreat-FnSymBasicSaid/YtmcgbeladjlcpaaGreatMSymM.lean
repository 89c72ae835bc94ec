/- Symbolic execution: spec.l10After, spec.l10Plain. Printed by genSymT.py. -/
import Derived.Test.YtmcgbeladjlcpaaGreatMSymL
set_option linter.unusedSimpArgs false
set_option linter.unusedVariables false
set_option maxRecDepth 100000
set_option maxHeartbeats 25600000
namespace Go.Proofs.YtmcgbeladjlcpaaGreat
section
open Go Go.RowKit Go.Proofs
attribute [local go_sem ↓] Go.wp_at_zero Go.wp_at_succ
def okQ (q:Bool) (b:Asn):Option Asn:=if q&&b.valid then some b else none
theorem okQ_true {b:Asn} (h:b.valid=true):okQ true b=some b:=by unfold okQ;rw[h];rfl
theorem okQ_okX {b:Asn}:okQ true b=okX b:=by unfold okQ okX;rw[Bool.true_and]
theorem assign_okQ {a b:Asn} {x t p:Int} {K:Nat} (h:∀ q,forgetF a x K=some q→q=(b,p)):assignF a x t K=okQ (forgetF a x K).isSome (setX b x p t):=by
 unfold assignF
 cases hf:forgetF a x K with
 | none=>rfl
 | some q=>
  rw[h q hf,Option.isSome_some,okQ_okX];rfl
theorem cell_okQ {a b:Asn} {x p:Int} {K:Nat} (h:∀ q,forgetF a x K=some q→q=(b,p)):cellNF a x K=okQ (forgetF a x K).isSome (newX b x):=by
 unfold cellNF
 cases hf:forgetF a x K with
 | none=>rfl
 | some q=>
  rw[h q hf,Option.isSome_some,okQ_okX];rfl
theorem AsnV.parts {w:World} {lo hi:Nat} {F G:Option Addr} {n m f g:Nat} {b:Asn} (h:AsnV w lo hi (.agg #[.slice F n f,.slice G m g]) b):FactsV w lo hi F b.facts∧AtomsV w lo hi G b.atoms:=by
 obtain ⟨A1,c1,A2,c2,e,h1,h2⟩:=h
 injection e with e
 injection e with e
 injection e with e1 e2
 injection e1 with e1
 injection e2 with e2
 injection e2 with e2
 subst e1 e2
 exact ⟨h1,h2⟩
theorem c_aft3 {lo hi lo' hi':Nat} (v:Value) (a:Asn) (A B:Int) (t:Fct) (X1 X2 X3 X4:Option Addr) (n1 n2 n3 n4 d1 d2 d3 d4:Nat) (Bf:Option Addr) (cf K0:Nat) (w:World) (h:AsnC w lo hi v a) (hhi:hi≤w.heap.size) (hv:a.valid=true) (h':BoolsV w lo' hi' Bf (flagsOf K0)) (hA:isTermB A=true) (hB:isTermB B=true) (h0:0<a.atoms.length) :
  Calls Tryz.prog 72 #[v,.agg #[.int .i64 3,.int .i64 A,.int .i64 B,.bool t.eq,.int .i64 t.a,.int .i64 t.b,.slice X1 n1 d1,.slice X2 n2 d2,.slice X3 n3 d3,.slice X4 n4 d4],.slice Bf 9 cf] w fun e w'=>∃ F f G g b q,e=.returned (.tuple #[.agg #[.slice F b.facts.length f,.slice G b.atoms.length g],.bool q])∧AsnO w' w.heap.size (.agg #[.slice F b.facts.length f,.slice G b.atoms.length g]) b∧b.facts.length≤1000∧b.atoms.length≤1000∧accF 3 A B a K0=okQ q b∧Below w.heap.size w w':=by
 have hV:=Lib.hid h
 have HV:=Lib.hid hv
 have HF:=Lib.hid h'
 have hvl:=valid_len hv
 obtain ⟨A1,c1,A2,c2,rfl,h1,h2,hcap⟩:=h
 have H1:=Lib.hid h1
 have H2:=Lib.hid h2
 obtain ⟨b,o,rfl,g0,g1,g2⟩:=h2.at h0
 have E0:Hid (a.atoms[0]? = some (head0 a)):=Lib.hid (by unfold head0;rw[List.getElem?_eq_getElem h0];rfl)
 have e0:a.atoms[0]=head0 a:=by unfold head0;rw[List.getElem?_eq_getElem h0];rfl
 obtain ⟨xb,hxb⟩:∃ x,x=(head0 a).b:=⟨_,rfl⟩
 rw[e0] at g0 g1 g2
 rw[←hxb] at g2
 replace hxb:=Lib.hid hxb
 have hbl:=block_lt_of_cell g2
 simp only[Nat.zero_mul,Nat.add_zero] at hbl g2
 have hii:(0:Int)<(a.atoms.length:Int):=by omega
 clear h1 h2 g0 g1 e0 h' hv
 have E:Hid (accF 3 A B a K0=okQ true (storeX a B)):=Lib.hid (by rw[okQ_true (storeX_ok HV.out hB)];rfl)
 have EL:Hid ((storeX a B).facts.length=a.facts.length∧(storeX a B).atoms.length=a.atoms.length):=Lib.hid ⟨rfl,by simp[storeX]⟩
 go_enter Tryz.func72,Tryz.ntmps72
 have k3:Blk (((w.alloc (.cells #[.slice A1 a.facts.length c1,.slice (some ⟨b,o,none⟩) a.atoms.length c2] tAs)).alloc (.cells #[.int .i64 3,.int .i64 A,.int .i64 B,.bool t.eq,.int .i64 t.a,.int .i64 t.b,.slice X1 n1 d1,.slice X2 n2 d2,.slice X3 n3 d3,.slice X4 n4 d4] tC)).alloc (.cells #[.slice none 0 0,.slice none 0 0] tAs)) w.heap.size tAs #[.slice A1 a.facts.length c1,.slice (some ⟨b,o,none⟩) a.atoms.length c2]:=blks
 have k4:Blk (((w.alloc (.cells #[.slice A1 a.facts.length c1,.slice (some ⟨b,o,none⟩) a.atoms.length c2] tAs)).alloc (.cells #[.int .i64 3,.int .i64 A,.int .i64 B,.bool t.eq,.int .i64 t.a,.int .i64 t.b,.slice X1 n1 d1,.slice X2 n2 d2,.slice X3 n3 d3,.slice X4 n4 d4] tC)).alloc (.cells #[.slice none 0 0,.slice none 0 0] tAs)) (w.heap.size+1) tC #[.int .i64 3,.int .i64 A,.int .i64 B,.bool t.eq,.int .i64 t.a,.int .i64 t.b,.slice X1 n1 d1,.slice X2 n2 d2,.slice X3 n3 d3,.slice X4 n4 d4]:=blks
 have k6:Blk (((w.alloc (.cells #[.slice A1 a.facts.length c1,.slice (some ⟨b,o,none⟩) a.atoms.length c2] tAs)).alloc (.cells #[.int .i64 3,.int .i64 A,.int .i64 B,.bool t.eq,.int .i64 t.a,.int .i64 t.b,.slice X1 n1 d1,.slice X2 n2 d2,.slice X3 n3 d3,.slice X4 n4 d4] tC)).alloc (.cells #[.slice none 0 0,.slice none 0 0] tAs)) (w.heap.size+1+1) tAs #[.slice none 0 0,.slice none 0 0]:=blks
 have HB:Hid (Below w.heap.size w (((w.alloc (.cells #[.slice A1 a.facts.length c1,.slice (some ⟨b,o,none⟩) a.atoms.length c2] tAs)).alloc (.cells #[.int .i64 3,.int .i64 A,.int .i64 B,.bool t.eq,.int .i64 t.a,.int .i64 t.b,.slice X1 n1 d1,.slice X2 n2 d2,.slice X3 n3 d3,.slice X4 n4 d4] tC)).alloc (.cells #[.slice none 0 0,.slice none 0 0] tAs))):=Lib.hid bel
 have hz:(((w.alloc (.cells #[.slice A1 a.facts.length c1,.slice (some ⟨b,o,none⟩) a.atoms.length c2] tAs)).alloc (.cells #[.int .i64 3,.int .i64 A,.int .i64 B,.bool t.eq,.int .i64 t.a,.int .i64 t.b,.slice X1 n1 d1,.slice X2 n2 d2,.slice X3 n3 d3,.slice X4 n4 d4] tC)).alloc (.cells #[.slice none 0 0,.slice none 0 0] tAs)).heap.size=w.heap.size+3:=by simp
 go_upto_region 3 with fail
 generalize (((w.alloc (.cells #[.slice A1 a.facts.length c1,.slice (some ⟨b,o,none⟩) a.atoms.length c2] tAs)).alloc (.cells #[.int .i64 3,.int .i64 A,.int .i64 B,.bool t.eq,.int .i64 t.a,.int .i64 t.b,.slice X1 n1 d1,.slice X2 n2 d2,.slice X3 n3 d3,.slice X4 n4 d4] tC)).alloc (.cells #[.slice none 0 0,.slice none 0 0] tAs))=W at k3 k4 k6 HB hz ⊢
 have hdz:W.drew.heap.size=W.heap.size:=rfl
 (replace qk3:=k3.cell;replace rk3:=k3.frozen;replace lk3:=k3.lt;replace qk4:=k4.cell;replace rk4:=k4.frozen;replace lk4:=k4.lt;replace qk6:=k6.cell;replace rk6:=k6.frozen;replace lk6:=k6.lt)
 go_wp2_with fail
 refine (c_l3Copy _ a _ (hV.out.V.below HB.out)).mono ?_
 rintro e w1 ⟨r,rfl,oC,hB1⟩
 obtain ⟨fv,av,rfl,of,oa⟩:=oC
 obtain ⟨F,f,rfl,-⟩:=of.reads
 obtain ⟨G,g,rfl,-⟩:=oa.reads
 obtain ⟨gb,cur,-,rfl,hg,kg,hsz,x0,x1,x2,-⟩:=oa.open_ (k:=0) h0
 simp only[Nat.zero_mul,Nat.zero_add] at x0 x1 x2
 have k41:=k4.next hB1
 have k61:=k6.next hB1
 have HB1:=Lib.hid (bgo HB.out hB1)
 have hz1:=hB1.size
 have OF:=Lib.hid of
 have OA:=Lib.hid oa
 clear of oa hB1 k3 k4 k6 qk3 rk3 lk3 qk4 rk4 lk4 qk6 rk6 lk6 HB x0 x1
 have hgl:=kg.lt
 have rg:=kg.frozen
 have q2:=(kg.cell 2).trans x2
 (replace qk41:=k41.cell;replace rk41:=k41.frozen;replace lk41:=k41.lt;replace qk61:=k61.cell;replace rk61:=k61.frozen;replace lk61:=k61.lt)
 go_wp2_with fail
 have hne:gb≠w.heap.size+1+1:=fun e=>by omega
 have k62:=k61.far (p:=⟨gb,2,none⟩) (fun e=>hne e.symm) (.int .i64 B)
 have OA1:=OA.out.storeB h0 B E0.out
 have OF1:=OF.out.setT kg (by decide) 2 (.int .i64 B)
 have z6:=(((k62.set_ 0 (.slice F a.facts.length f)).set_ 1 (.slice (some ⟨gb,0,none⟩) a.atoms.length g)).alloc (.cells #[.slice F a.facts.length f,.slice (some ⟨gb,0,none⟩) a.atoms.length g] tAs)).cell
 have OX:AsnO (w1.setCell ⟨gb,2,none⟩ (.int .i64 B)) W.heap.size (.agg #[.slice F a.facts.length f,.slice (some ⟨gb,0,none⟩) a.atoms.length g]) (storeX a B):=by
  refine ⟨_,_,rfl,OF1,?_⟩
  exact OA1
 have HB2:=(HB1.out.setCell (p:=⟨gb,2,none⟩) (by simp only;omega) (.int .i64 B))
 refine bodyPost_ret (v:=.tuple #[.agg #[.slice F a.facts.length f,.slice (some ⟨gb,0,none⟩) a.atoms.length g],.bool true]) (by simp[results,Tryz.results72,go_sem,z6]) rfl ⟨F,f,some ⟨gb,0,none⟩,g,storeX a B,true,by rw[EL.out.1,EL.out.2],?_,by rw[EL.out.1];omega,by rw[EL.out.2];omega,E.out,?_⟩
 ·rw[EL.out.1,EL.out.2]
  exact ((AsnO.setT2 OX k62 _ _).lower (by omega)).below bel
 ·exact bbox (((HB2.setCell (p:=⟨w.heap.size+1+1,0,none⟩) (by simp only;omega) _).setCell (p:=⟨w.heap.size+1+1,1,none⟩) (by simp only;omega) _)) _
theorem c_aft2 {lo hi lo' hi':Nat} (v:Value) (a:Asn) (A B:Int) (t:Fct) (X1 X2 X3 X4:Option Addr) (n1 n2 n3 n4 d1 d2 d3 d4:Nat) (Bf:Option Addr) (cf K0:Nat) (w:World) (h:AsnC w lo hi v a) (hhi:hi≤w.heap.size) (hv:a.valid=true) (h':BoolsV w lo' hi' Bf (flagsOf K0)) (hA:isTermB A=true) (h0:0<a.atoms.length) :
  Calls Tryz.prog 72 #[v,.agg #[.int .i64 2,.int .i64 A,.int .i64 B,.bool t.eq,.int .i64 t.a,.int .i64 t.b,.slice X1 n1 d1,.slice X2 n2 d2,.slice X3 n3 d3,.slice X4 n4 d4],.slice Bf 9 cf] w fun e w'=>∃ F f G g b q,e=.returned (.tuple #[.agg #[.slice F b.facts.length f,.slice G b.atoms.length g],.bool q])∧AsnO w' w.heap.size (.agg #[.slice F b.facts.length f,.slice G b.atoms.length g]) b∧b.facts.length≤1000∧b.atoms.length≤1000∧accF 2 A B a K0=okQ q b∧Below w.heap.size w w':=by
 have hV:=Lib.hid h
 have HV:=Lib.hid hv
 have HF:=Lib.hid h'
 have hvl:=valid_len hv
 obtain ⟨A1,c1,A2,c2,rfl,h1,h2,hcap⟩:=h
 have H1:=Lib.hid h1
 have H2:=Lib.hid h2
 obtain ⟨b,o,rfl,g0,g1,g2⟩:=h2.at h0
 have E0:Hid (a.atoms[0]? = some (head0 a)):=Lib.hid (by unfold head0;rw[List.getElem?_eq_getElem h0];rfl)
 have e0:a.atoms[0]=head0 a:=by unfold head0;rw[List.getElem?_eq_getElem h0];rfl
 obtain ⟨xb,hxb⟩:∃ x,x=(head0 a).b:=⟨_,rfl⟩
 rw[e0] at g0 g1 g2
 rw[←hxb] at g2
 replace hxb:=Lib.hid hxb
 have hbl:=block_lt_of_cell g2
 simp only[Nat.zero_mul,Nat.add_zero] at hbl g2
 have hii:(0:Int)<(a.atoms.length:Int):=by omega
 clear h1 h2 g0 g1 e0 h' hv
 have HE:Hid (accF 2 A B a K0=assignF a A xb K0):=Lib.hid (by rw[hxb.out];rfl)
 go_enter Tryz.func72,Tryz.ntmps72
 have k3:Blk (((w.alloc (.cells #[.slice A1 a.facts.length c1,.slice (some ⟨b,o,none⟩) a.atoms.length c2] tAs)).alloc (.cells #[.int .i64 2,.int .i64 A,.int .i64 B,.bool t.eq,.int .i64 t.a,.int .i64 t.b,.slice X1 n1 d1,.slice X2 n2 d2,.slice X3 n3 d3,.slice X4 n4 d4] tC)).alloc (.cells #[.slice none 0 0,.slice none 0 0] tAs)) w.heap.size tAs #[.slice A1 a.facts.length c1,.slice (some ⟨b,o,none⟩) a.atoms.length c2]:=blks
 have k4:Blk (((w.alloc (.cells #[.slice A1 a.facts.length c1,.slice (some ⟨b,o,none⟩) a.atoms.length c2] tAs)).alloc (.cells #[.int .i64 2,.int .i64 A,.int .i64 B,.bool t.eq,.int .i64 t.a,.int .i64 t.b,.slice X1 n1 d1,.slice X2 n2 d2,.slice X3 n3 d3,.slice X4 n4 d4] tC)).alloc (.cells #[.slice none 0 0,.slice none 0 0] tAs)) (w.heap.size+1) tC #[.int .i64 2,.int .i64 A,.int .i64 B,.bool t.eq,.int .i64 t.a,.int .i64 t.b,.slice X1 n1 d1,.slice X2 n2 d2,.slice X3 n3 d3,.slice X4 n4 d4]:=blks
 have k6:Blk (((w.alloc (.cells #[.slice A1 a.facts.length c1,.slice (some ⟨b,o,none⟩) a.atoms.length c2] tAs)).alloc (.cells #[.int .i64 2,.int .i64 A,.int .i64 B,.bool t.eq,.int .i64 t.a,.int .i64 t.b,.slice X1 n1 d1,.slice X2 n2 d2,.slice X3 n3 d3,.slice X4 n4 d4] tC)).alloc (.cells #[.slice none 0 0,.slice none 0 0] tAs)) (w.heap.size+1+1) tAs #[.slice none 0 0,.slice none 0 0]:=blks
 have HB:Hid (Below w.heap.size w (((w.alloc (.cells #[.slice A1 a.facts.length c1,.slice (some ⟨b,o,none⟩) a.atoms.length c2] tAs)).alloc (.cells #[.int .i64 2,.int .i64 A,.int .i64 B,.bool t.eq,.int .i64 t.a,.int .i64 t.b,.slice X1 n1 d1,.slice X2 n2 d2,.slice X3 n3 d3,.slice X4 n4 d4] tC)).alloc (.cells #[.slice none 0 0,.slice none 0 0] tAs))):=Lib.hid bel
 have hz:(((w.alloc (.cells #[.slice A1 a.facts.length c1,.slice (some ⟨b,o,none⟩) a.atoms.length c2] tAs)).alloc (.cells #[.int .i64 2,.int .i64 A,.int .i64 B,.bool t.eq,.int .i64 t.a,.int .i64 t.b,.slice X1 n1 d1,.slice X2 n2 d2,.slice X3 n3 d3,.slice X4 n4 d4] tC)).alloc (.cells #[.slice none 0 0,.slice none 0 0] tAs)).heap.size=w.heap.size+3:=by simp
 have hq2:(((w.alloc (.cells #[.slice A1 a.facts.length c1,.slice (some ⟨b,o,none⟩) a.atoms.length c2] tAs)).alloc (.cells #[.int .i64 2,.int .i64 A,.int .i64 B,.bool t.eq,.int .i64 t.a,.int .i64 t.b,.slice X1 n1 d1,.slice X2 n2 d2,.slice X3 n3 d3,.slice X4 n4 d4] tC)).alloc (.cells #[.slice none 0 0,.slice none 0 0] tAs)).cell? ⟨b,o+2,none⟩=some (.int .i64 xb):=(HB.out.cell (p:=⟨b,o+2,none⟩) hbl).trans g2
 go_upto_region 8 with fail
 generalize (((w.alloc (.cells #[.slice A1 a.facts.length c1,.slice (some ⟨b,o,none⟩) a.atoms.length c2] tAs)).alloc (.cells #[.int .i64 2,.int .i64 A,.int .i64 B,.bool t.eq,.int .i64 t.a,.int .i64 t.b,.slice X1 n1 d1,.slice X2 n2 d2,.slice X3 n3 d3,.slice X4 n4 d4] tC)).alloc (.cells #[.slice none 0 0,.slice none 0 0] tAs))=W at k3 k4 k6 hq2 HB hz ⊢
 have hdz:W.drew.heap.size=W.heap.size:=rfl
 have hblW:b<W.heap.size:=by omega
 (replace qk3:=k3.cell;replace rk3:=k3.frozen;replace lk3:=k3.lt;replace qk4:=k4.cell;replace rk4:=k4.frozen;replace lk4:=k4.lt)
 go_wp2_with fail
 refine (c_l10Forget _ a A Bf cf K0 _ (hV.out.V.below HB.out) (by omega) (HF.out.below HB.out) HV.out hA).mono ?_
 rintro e w1 ⟨F,f,G,g,b1,p,rfl,hVb,hl1,hl2,hq,hB1⟩
 have E:Hid (accF 2 A B a K0=okQ (forgetF a A K0).isSome (setX b1 A p xb)):=Lib.hid (by rw[HE.out];exact assign_okQ hq)
 have k41:=k4.next hB1
 have k61:=k6.next hB1
 have HB1:=Lib.hid (bgo HB.out hB1)
 have hz1:=hB1.size
 have HVb:=Lib.hid hVb
 have hl3:b1.facts.length≤12:=by omega
 have hl4:b1.atoms.length≤6:=by omega
 clear hl1 hl2 hB1 hVb hq HE k3 k4 k6 qk3 rk3 lk3 qk4 rk4 lk4 HB hq2
 generalize (forgetF a A K0).isSome=q at E ⊢
 go_upto_region 10 with fail
 have k10:Blk (w1.alloc (.cells #[.slice F b1.facts.length f,.slice G b1.atoms.length g] tAs)) w1.heap.size tAs #[.slice F b1.facts.length f,.slice G b1.atoms.length g]:=Blk.new _ _ _
 have hbq:Below w1.heap.size w1 (w1.alloc (.cells #[.slice F b1.facts.length f,.slice G b1.atoms.length g] tAs)):=bbox (Below.refl _ _) _
 replace k41:=k41.next hbq
 replace k61:=k61.next hbq
 replace HB1:=Lib.hid (bgo HB1.out hbq)
 replace HVb:=Lib.hid (HVb.out.below hbq)
 have hzV:=hbq.size
 clear hbq
 generalize (w1.alloc (.cells #[.slice F b1.facts.length f,.slice G b1.atoms.length g] tAs))=V at k10 k41 k61 HB1 HVb hzV ⊢
 obtain ⟨y,hy⟩:∃ y,y=w1.heap.size:=⟨_,rfl⟩
 rw[←hy] at k10 HVb ⊢
 have hyz:w.heap.size+3≤y:=by omega
 have hyV:y≤V.heap.size:=by omega
 clear hy hzV
 refine wp_region_noPanic ?_
 refine wp_region_held_drew (S:=(fun w'=>(∀ i,w'.cell? ⟨y,i,none⟩=#[.slice F b1.facts.length f,.slice G b1.atoms.length g][i]?)∧(∀ i,w'.cell? ⟨w.heap.size+1,i,none⟩=#[.int .i64 2,.int .i64 A,.int .i64 B,.bool t.eq,.int .i64 t.a,.int .i64 t.b,.slice X1 n1 d1,.slice X2 n2 d2,.slice X3 n3 d3,.slice X4 n4 d4][i]?))) (by kernel_rfl) (⟨k10.drew.cell,k41.drew.cell⟩) (fun hHeld=>?_)
 refine tk2 0 rfl hHeld ?_
 try simp only[zz]
 refine tk2 1 rfl hHeld ?_
 try simp only[zz]
 refine tk2 2 rfl hHeld ?_
 try simp only[zz]
 refine tk2 3 rfl hHeld ?_
 try simp only[zz]
 refine tk2 4 rfl hHeld ?_
 try simp only[zz]
 refine tk2 5 rfl hHeld ?_
 try simp only[zz]
 refine tk2 6 rfl hHeld ?_
 try simp only[zz]
 refine tk2 9 rfl hHeld ?_
 try simp only[zz]
 refine rdc 7 rfl fun K hK=>?_
 try simp only[zz]
 (go_simp;refine (c_l3Swap xb A p _).mono ?_;rintro e w2 ⟨rfl,rfl⟩)
 refine hK.out _ _ (⟨k10.drew.cell,k41.drew.cell⟩) ?_
 clear hHeld hK K
 intro hHeld
 try simp only[zz]
 refine rdc 8 rfl fun K hK=>?_
 try simp only[zz]
 (go_simp;refine (c_l10Know _ b1 A (swp A p xb) _ (HVb.out.below (Below.refl _ _).drew) (by omega)).mono ?_;rintro e w2 ⟨F2,f2,G2,g2,rfl,oX,hB2⟩;replace hB2:Below V.heap.size V w2:=(Below.refl _ _).drew.trans hB2;have k102:=k10.next hB2;have k42:=k41.next hB2;have k62:=k61.next hB2;have HB2:=Lib.hid (bgo HB1.out hB2);have hz2:=hB2.size;have OX:=Lib.hid (oX.lower (base':=w.heap.size) (by show w.heap.size≤V.heap.size;omega));clear hB2 oX)
 refine hK.out _ _ (⟨k102.cell,k42.cell⟩) ?_
 clear hHeld hK K
 intro hHeld
 try simp only[zz]
 have l62:=k62.lt
 have q62:=k62.cell
 have r62:=k62.frozen
 refine rdc 10 rfl fun K hK=>?_
 try simp only[zz]
 go_simp
 refine hK.out _ _ (⟨((k102.far (p:=⟨w.heap.size+1+1,0,none⟩) (by simp only;omega) _).far (p:=⟨w.heap.size+1+1,1,none⟩) (by simp only;omega) _).cell,((k42.far (p:=⟨w.heap.size+1+1,0,none⟩) (by simp only;omega) _).far (p:=⟨w.heap.size+1+1,1,none⟩) (by simp only;omega) _).cell⟩) ?_
 clear hHeld hK K
 intro hHeld
 try simp only[zz]
 refine tk2 11 rfl hHeld ?_
 try simp only[zz]
 refine wpAnyH_done (by kernel_rfl) ?_ _
 refine NoPanic.normal ?_
 go_wp2_with fail
 have z6:=((k62.set_ 0 (.slice F2 (b1.facts.length+1) f2)).set_ 1 (.slice G2 b1.atoms.length g2)).cell
 have EL:(setX b1 A p xb).facts.length=b1.facts.length+1∧(setX b1 A p xb).atoms.length=b1.atoms.length:=⟨by simp[setX],rfl⟩
 refine bodyPost_ret (v:=.tuple #[.agg #[.slice F2 (b1.facts.length+1) f2,.slice G2 b1.atoms.length g2],.bool q]) (by simp[results,Tryz.results72,go_sem,z6]) rfl ⟨F2,f2,G2,g2,setX b1 A p xb,q,by rw[EL.1,EL.2],?_,by rw[EL.1];omega,by rw[EL.2];omega,E.out,?_⟩
 ·rw[EL.1,EL.2]
  exact AsnO.setT2 (a:=setX b1 A p xb) OX.out k62 _ _
 ·exact (HB2.out.setCell (p:=⟨w.heap.size+1+1,0,none⟩) (by simp only;omega) _).setCell (p:=⟨w.heap.size+1+1,1,none⟩) (by simp only;omega) _
theorem Blk.next' {w w':World} {B g:Nat} {t:TypeId} {cs:Array Value} (h:Blk w g t cs) (hb:Below B w w') (hg:g<B):Blk w' g t cs:=(hb.block g hg).trans h
theorem c_aft5 {lo hi lo' hi':Nat} (v:Value) (a:Asn) (A B:Int) (t:Fct) (X1 X2 X3 X4:Option Addr) (n1 n2 n3 n4 d1 d2 d3 d4:Nat) (Bf:Option Addr) (cf K0:Nat) (w:World) (h:AsnC w lo hi v a) (hhi:hi≤w.heap.size) (hv:a.valid=true) (h':BoolsV w lo' hi' Bf (flagsOf K0)) (hA:isTermB A=true) (h0:0<a.atoms.length) :
  Calls Tryz.prog 72 #[v,.agg #[.int .i64 5,.int .i64 A,.int .i64 B,.bool t.eq,.int .i64 t.a,.int .i64 t.b,.slice X1 n1 d1,.slice X2 n2 d2,.slice X3 n3 d3,.slice X4 n4 d4],.slice Bf 9 cf] w fun e w'=>∃ F f G g b q,e=.returned (.tuple #[.agg #[.slice F b.facts.length f,.slice G b.atoms.length g],.bool q])∧AsnO w' w.heap.size (.agg #[.slice F b.facts.length f,.slice G b.atoms.length g]) b∧b.facts.length≤1000∧b.atoms.length≤1000∧accF 5 A B a K0=okQ q b∧Below w.heap.size w w':=by
 have hV:=Lib.hid h
 have HV:=Lib.hid hv
 have HF:=Lib.hid h'
 have hvl:=valid_len hv
 obtain ⟨A1,c1,A2,c2,rfl,h1,h2,hcap⟩:=h
 have H1:=Lib.hid h1
 have H2:=Lib.hid h2
 obtain ⟨b,o,rfl,g0,g1,g2⟩:=h2.at h0
 have E0:Hid (a.atoms[0]? = some (head0 a)):=Lib.hid (by unfold head0;rw[List.getElem?_eq_getElem h0];rfl)
 have e0:a.atoms[0]=head0 a:=by unfold head0;rw[List.getElem?_eq_getElem h0];rfl
 obtain ⟨xb,hxb⟩:∃ x,x=(head0 a).b:=⟨_,rfl⟩
 rw[e0] at g0 g1 g2
 rw[←hxb] at g2
 replace hxb:=Lib.hid hxb
 have hbl:=block_lt_of_cell g2
 simp only[Nat.zero_mul,Nat.add_zero] at hbl g2
 have hii:(0:Int)<(a.atoms.length:Int):=by omega
 clear h1 h2 g0 g1 e0 h' hv
 have E:Hid (accF 5 A B a K0=okQ true (freeX a)):=Lib.hid (by rw[okQ_true (freeX_ok HV.out)];rfl)
 have HLF:Hid ((freeX a).atoms.length=a.atoms.length - 1):=Lib.hid (by simp[freeX,withoutL])
 obtain ⟨A',hs2,hA'⟩:=sliceAl b o a.atoms.length c2 1 (by omega) hcap
 push_cast at hs2
 have HD:Hid (AtomsV w lo (max hi (b+1)) A' (freeX a).atoms):=Lib.hid (by
  have e:(freeX a).atoms=a.atoms.drop 1:=by simp[freeX,withoutL]
  rw[e]
  by_cases hlt:1<a.atoms.length
  ·rw[hA' (by omega)]
   exact (H2.out.drop_ (k:=1) (by omega)).mono (Nat.le_refl _) (by omega)
  ·rw[List.drop_eq_nil_of_le (by omega)]
   exact Rd.nil _ _ _ _ _)
 clear hA' hcap
 go_enter Tryz.func72,Tryz.ntmps72
 have k3:Blk (((w.alloc (.cells #[.slice A1 a.facts.length c1,.slice (some ⟨b,o,none⟩) a.atoms.length c2] tAs)).alloc (.cells #[.int .i64 5,.int .i64 A,.int .i64 B,.bool t.eq,.int .i64 t.a,.int .i64 t.b,.slice X1 n1 d1,.slice X2 n2 d2,.slice X3 n3 d3,.slice X4 n4 d4] tC)).alloc (.cells #[.slice none 0 0,.slice none 0 0] tAs)) w.heap.size tAs #[.slice A1 a.facts.length c1,.slice (some ⟨b,o,none⟩) a.atoms.length c2]:=blks
 have k4:Blk (((w.alloc (.cells #[.slice A1 a.facts.length c1,.slice (some ⟨b,o,none⟩) a.atoms.length c2] tAs)).alloc (.cells #[.int .i64 5,.int .i64 A,.int .i64 B,.bool t.eq,.int .i64 t.a,.int .i64 t.b,.slice X1 n1 d1,.slice X2 n2 d2,.slice X3 n3 d3,.slice X4 n4 d4] tC)).alloc (.cells #[.slice none 0 0,.slice none 0 0] tAs)) (w.heap.size+1) tC #[.int .i64 5,.int .i64 A,.int .i64 B,.bool t.eq,.int .i64 t.a,.int .i64 t.b,.slice X1 n1 d1,.slice X2 n2 d2,.slice X3 n3 d3,.slice X4 n4 d4]:=blks
 have k6:Blk (((w.alloc (.cells #[.slice A1 a.facts.length c1,.slice (some ⟨b,o,none⟩) a.atoms.length c2] tAs)).alloc (.cells #[.int .i64 5,.int .i64 A,.int .i64 B,.bool t.eq,.int .i64 t.a,.int .i64 t.b,.slice X1 n1 d1,.slice X2 n2 d2,.slice X3 n3 d3,.slice X4 n4 d4] tC)).alloc (.cells #[.slice none 0 0,.slice none 0 0] tAs)) (w.heap.size+1+1) tAs #[.slice none 0 0,.slice none 0 0]:=blks
 have HB:Hid (Below w.heap.size w (((w.alloc (.cells #[.slice A1 a.facts.length c1,.slice (some ⟨b,o,none⟩) a.atoms.length c2] tAs)).alloc (.cells #[.int .i64 5,.int .i64 A,.int .i64 B,.bool t.eq,.int .i64 t.a,.int .i64 t.b,.slice X1 n1 d1,.slice X2 n2 d2,.slice X3 n3 d3,.slice X4 n4 d4] tC)).alloc (.cells #[.slice none 0 0,.slice none 0 0] tAs))):=Lib.hid bel
 have hz:(((w.alloc (.cells #[.slice A1 a.facts.length c1,.slice (some ⟨b,o,none⟩) a.atoms.length c2] tAs)).alloc (.cells #[.int .i64 5,.int .i64 A,.int .i64 B,.bool t.eq,.int .i64 t.a,.int .i64 t.b,.slice X1 n1 d1,.slice X2 n2 d2,.slice X3 n3 d3,.slice X4 n4 d4] tC)).alloc (.cells #[.slice none 0 0,.slice none 0 0] tAs)).heap.size=w.heap.size+3:=by simp
 go_upto_region 7 with fail
 generalize (((w.alloc (.cells #[.slice A1 a.facts.length c1,.slice (some ⟨b,o,none⟩) a.atoms.length c2] tAs)).alloc (.cells #[.int .i64 5,.int .i64 A,.int .i64 B,.bool t.eq,.int .i64 t.a,.int .i64 t.b,.slice X1 n1 d1,.slice X2 n2 d2,.slice X3 n3 d3,.slice X4 n4 d4] tC)).alloc (.cells #[.slice none 0 0,.slice none 0 0] tAs))=W at k3 k4 k6 HB hz ⊢
 have hdz:W.drew.heap.size=W.heap.size:=rfl
 have hle:(freeX a).atoms.length≤6:=by rw[HLF.out];omega
 rw[←HLF.out] at hs2
 refine wp_region_noPanic ?_
 refine wp_region_held_drew (S:=(fun w'=>∀ i,w'.cell? ⟨w.heap.size,i,none⟩=#[.slice A1 a.facts.length c1,.slice (some ⟨b,o,none⟩) a.atoms.length c2][i]?)) (by kernel_rfl) (k3.drew.cell) (fun hHeld=>?_)
 replace k3:=k3.drew
 replace k6:=k6.drew
 replace HB:=Lib.hid HB.out.drew
 have hzq:W.heap.size≤W.drew.heap.size:=Nat.le_refl _
 generalize W.drew=wq at k3 k6 HB hzq hdz hHeld ⊢
 clear hdz
 refine tk2 1 rfl hHeld ?_
 try simp only[zz]
 refine tk2 2 rfl hHeld ?_
 try simp only[zz]
 refine tk2 5 rfl hHeld ?_
 try simp only[zz]
 refine tk2 6 rfl hHeld ?_
 try simp only[zz]
 refine tk2 7 rfl hHeld ?_
 try simp only[zz]
 refine wpAnyH_ready (rs:=[0,4]) (by kernel_rfl) (by simp) ?_
 refine AllReadyH.cons rfl (fun K hK=>?_) (AllReadyH.cons rfl (fun K hK=>?_) AllReadyH.nil)
 ·skip
  try simp only[zz]
  go_simp
  refine hK.out _ _ (rowC_ (bbox (Below.refl _ _) _) k3.lt k3.cell) (fun hHeldN=>?_)
  clear hHeld hK K
  have hHeld:=hHeldN
  clear hHeldN
  try simp only[zz]
  have hBq:Below wq.heap.size wq (wq.alloc (.cells #[] tF)):=bbox (Below.refl _ _) _
  have oN:FactsO (wq.alloc (.cells #[] tF)) W.heap.size (.slice (some ⟨wq.heap.size,0,none⟩) 0 0) []:=⟨own_ofBlk (Blk.new wq tF #[]) (by omega),by simp[Lim]⟩
  replace k3:=k3.next hBq
  replace k6:=k6.next hBq
  try replace OG:=Lib.hid (OG.out.below hBq)
  try replace OF:=Lib.hid (OF.out.below hBq)
  replace HB:=Lib.hid (bgo HB.out hBq)
  replace hzq:=Nat.le_trans hzq hBq.size
  have OF:=Lib.hid oN
  obtain ⟨yOF,hyOF⟩:∃ y,y=wq.heap.size:=⟨_,rfl⟩
  rw[←hyOF] at OF ⊢
  clear hBq oN hyOF
  generalize wq.alloc (.cells #[] tF)=wq at *
  refine wpAnyH_ready (rs:=[3,4]) (by kernel_rfl) (by simp) ?_
  refine AllReadyH.cons rfl (fun K hK=>?_) (AllReadyH.cons rfl (fun K hK=>?_) AllReadyH.nil)
  ·skip
   refine stepFL (base:=W.heap.size) (ys:=a.facts) rfl _ _ rfl rfl OF.out rfl (H1.out.below HB.out) (by simp<;>omega) hzq ?_
   intro F f wq' oN hg hBq
   replace k3:=k3.next' hBq (by omega)
   replace k6:=k6.next' hBq (by omega)
   try replace OG:=Lib.hid (OG.out.grownF OF.out hg)
   replace HB:=Lib.hid (HB.out.trans (hBq.mono (by omega)))
   replace hzq:=Nat.le_trans hzq hBq.size
   rw[List.nil_append] at oN ⊢
   replace OF:=Lib.hid oN
   clear oN hg hBq
   refine hK.out _ _ k3.cell (fun hHeldN=>?_)
   clear hHeld hK K
   have hHeld:=hHeldN
   clear hHeldN
   try simp only[zz]
   generalize wq'=wq at *
   refine wpAnyH_ready (rs:=[4]) (by kernel_rfl) (by simp) ?_
   refine AllReadyH.cons rfl (fun K hK=>?_) AllReadyH.nil
   ·skip
    try simp only[zz]
    go_simp
    refine hK.out _ _ (rowC_ (bbox (Below.refl _ _) _) k3.lt k3.cell) (fun hHeldN=>?_)
    clear hHeld hK K
    have hHeld:=hHeldN
    clear hHeldN
    try simp only[zz]
    have hBq:Below wq.heap.size wq (wq.alloc (.cells #[] tA)):=bbox (Below.refl _ _) _
    have oN:AtomsO (wq.alloc (.cells #[] tA)) W.heap.size (.slice (some ⟨wq.heap.size,0,none⟩) 0 0) []:=⟨own_ofBlk (Blk.new wq tA #[]) (by omega),by simp[Lim]⟩
    replace k3:=k3.next hBq
    replace k6:=k6.next hBq
    try replace OG:=Lib.hid (OG.out.below hBq)
    try replace OF:=Lib.hid (OF.out.below hBq)
    replace HB:=Lib.hid (bgo HB.out hBq)
    replace hzq:=Nat.le_trans hzq hBq.size
    have OG:=Lib.hid oN
    obtain ⟨yOG,hyOG⟩:∃ y,y=wq.heap.size:=⟨_,rfl⟩
    rw[←hyOG] at OG ⊢
    clear hBq oN hyOG
    generalize wq.alloc (.cells #[] tA)=wq at *
    refine wpAnyH_ready (rs:=[8]) (by kernel_rfl) (by simp) ?_
    refine AllReadyH.cons rfl (fun K hK=>?_) AllReadyH.nil
    ·skip
     refine stepAL (base:=W.heap.size) (ys:=(freeX a).atoms) rfl _ _ rfl rfl OG.out rfl (HD.out.below HB.out) (by simp<;>omega) hzq ?_
     intro G g wq' oN hg hBq
     replace k3:=k3.next' hBq (by omega)
     replace k6:=k6.next' hBq (by omega)
     try replace OF:=Lib.hid (OF.out.grownA OG.out hg)
     replace HB:=Lib.hid (HB.out.trans (hBq.mono (by omega)))
     replace hzq:=Nat.le_trans hzq hBq.size
     rw[List.nil_append] at oN ⊢
     replace OG:=Lib.hid oN
     clear oN hg hBq
     refine hK.out _ _ k3.cell (fun hHeldN=>?_)
     clear hHeld hK K
     have hHeld:=hHeldN
     clear hHeldN
     try simp only[zz]
     generalize wq'=wq at *
     refine tk2 9 rfl hHeld ?_
     try simp only[zz]
     have l62:=k6.lt
     have q62:=k6.cell
     have r62:=k6.frozen
     refine rdc 10 rfl fun K hK=>?_
     try simp only[zz]
     go_simp
     refine hK.out _ _ (((k3.far (p:=⟨w.heap.size+1+1,0,none⟩) (by simp only;omega) _).far (p:=⟨w.heap.size+1+1,1,none⟩) (by simp only;omega) _).cell) ?_
     clear hHeld hK K
     intro hHeld
     try simp only[zz]
     refine tk2 11 rfl hHeld ?_
     try simp only[zz]
     refine wpAnyH_done (by kernel_rfl) ?_ _
     refine NoPanic.normal ?_
     go_wp2_with fail
     have z6:=((k6.set_ 0 (.slice F a.facts.length f)).set_ 1 (.slice G (freeX a).atoms.length g)).cell
     refine bodyPost_ret (v:=.tuple #[.agg #[.slice F a.facts.length f,.slice G (freeX a).atoms.length g],.bool true]) (by simp[results,Tryz.results72,go_sem,z6]) rfl ⟨F,f,G,g,freeX a,true,rfl,?_,by show a.facts.length≤1000;omega,by rw[HLF.out];omega,E.out,?_⟩
     ·exact AsnO.setT2 (AsnO.lower (⟨_,_,rfl,OF.out,OG.out⟩:AsnO wq W.heap.size (.agg #[.slice F a.facts.length f,.slice G (freeX a).atoms.length g]) (freeX a)) (by omega)) k6 _ _
     ·exact (HB.out.setCell (p:=⟨w.heap.size+1+1,0,none⟩) (by simp only;omega) _).setCell (p:=⟨w.heap.size+1+1,1,none⟩) (by simp only;omega) _
  ·skip
   try simp only[zz]
   go_simp
   refine hK.out _ _ (rowC_ (bbox (Below.refl _ _) _) k3.lt k3.cell) (fun hHeldN=>?_)
   clear hHeld hK K
   have hHeld:=hHeldN
   clear hHeldN
   try simp only[zz]
   have hBq:Below wq.heap.size wq (wq.alloc (.cells #[] tA)):=bbox (Below.refl _ _) _
   have oN:AtomsO (wq.alloc (.cells #[] tA)) W.heap.size (.slice (some ⟨wq.heap.size,0,none⟩) 0 0) []:=⟨own_ofBlk (Blk.new wq tA #[]) (by omega),by simp[Lim]⟩
   replace k3:=k3.next hBq
   replace k6:=k6.next hBq
   try replace OG:=Lib.hid (OG.out.below hBq)
   try replace OF:=Lib.hid (OF.out.below hBq)
   replace HB:=Lib.hid (bgo HB.out hBq)
   replace hzq:=Nat.le_trans hzq hBq.size
   have OG:=Lib.hid oN
   obtain ⟨yOG,hyOG⟩:∃ y,y=wq.heap.size:=⟨_,rfl⟩
   rw[←hyOG] at OG ⊢
   clear hBq oN hyOG
   generalize wq.alloc (.cells #[] tA)=wq at *
   refine wpAnyH_ready (rs:=[3]) (by kernel_rfl) (by simp) ?_
   refine AllReadyH.cons rfl (fun K hK=>?_) AllReadyH.nil
   ·skip
    refine stepFL (base:=W.heap.size) (ys:=a.facts) rfl _ _ rfl rfl OF.out rfl (H1.out.below HB.out) (by simp<;>omega) hzq ?_
    intro F f wq' oN hg hBq
    replace k3:=k3.next' hBq (by omega)
    replace k6:=k6.next' hBq (by omega)
    try replace OG:=Lib.hid (OG.out.grownF OF.out hg)
    replace HB:=Lib.hid (HB.out.trans (hBq.mono (by omega)))
    replace hzq:=Nat.le_trans hzq hBq.size
    rw[List.nil_append] at oN ⊢
    replace OF:=Lib.hid oN
    clear oN hg hBq
    refine hK.out _ _ k3.cell (fun hHeldN=>?_)
    clear hHeld hK K
    have hHeld:=hHeldN
    clear hHeldN
    try simp only[zz]
    generalize wq'=wq at *
    refine wpAnyH_ready (rs:=[8]) (by kernel_rfl) (by simp) ?_
    refine AllReadyH.cons rfl (fun K hK=>?_) AllReadyH.nil
    ·skip
     refine stepAL (base:=W.heap.size) (ys:=(freeX a).atoms) rfl _ _ rfl rfl OG.out rfl (HD.out.below HB.out) (by simp<;>omega) hzq ?_
     intro G g wq' oN hg hBq
     replace k3:=k3.next' hBq (by omega)
     replace k6:=k6.next' hBq (by omega)
     try replace OF:=Lib.hid (OF.out.grownA OG.out hg)
     replace HB:=Lib.hid (HB.out.trans (hBq.mono (by omega)))
     replace hzq:=Nat.le_trans hzq hBq.size
     rw[List.nil_append] at oN ⊢
     replace OG:=Lib.hid oN
     clear oN hg hBq
     refine hK.out _ _ k3.cell (fun hHeldN=>?_)
     clear hHeld hK K
     have hHeld:=hHeldN
     clear hHeldN
     try simp only[zz]
     generalize wq'=wq at *
     refine tk2 9 rfl hHeld ?_
     try simp only[zz]
     have l62:=k6.lt
     have q62:=k6.cell
     have r62:=k6.frozen
     refine rdc 10 rfl fun K hK=>?_
     try simp only[zz]
     go_simp
     refine hK.out _ _ (((k3.far (p:=⟨w.heap.size+1+1,0,none⟩) (by simp only;omega) _).far (p:=⟨w.heap.size+1+1,1,none⟩) (by simp only;omega) _).cell) ?_
     clear hHeld hK K
     intro hHeld
     try simp only[zz]
     refine tk2 11 rfl hHeld ?_
     try simp only[zz]
     refine wpAnyH_done (by kernel_rfl) ?_ _
     refine NoPanic.normal ?_
     go_wp2_with fail
     have z6:=((k6.set_ 0 (.slice F a.facts.length f)).set_ 1 (.slice G (freeX a).atoms.length g)).cell
     refine bodyPost_ret (v:=.tuple #[.agg #[.slice F a.facts.length f,.slice G (freeX a).atoms.length g],.bool true]) (by simp[results,Tryz.results72,go_sem,z6]) rfl ⟨F,f,G,g,freeX a,true,rfl,?_,by show a.facts.length≤1000;omega,by rw[HLF.out];omega,E.out,?_⟩
     ·exact AsnO.setT2 (AsnO.lower (⟨_,_,rfl,OF.out,OG.out⟩:AsnO wq W.heap.size (.agg #[.slice F a.facts.length f,.slice G (freeX a).atoms.length g]) (freeX a)) (by omega)) k6 _ _
     ·exact (HB.out.setCell (p:=⟨w.heap.size+1+1,0,none⟩) (by simp only;omega) _).setCell (p:=⟨w.heap.size+1+1,1,none⟩) (by simp only;omega) _
 ·skip
  try simp only[zz]
  go_simp
  refine hK.out _ _ (rowC_ (bbox (Below.refl _ _) _) k3.lt k3.cell) (fun hHeldN=>?_)
  clear hHeld hK K
  have hHeld:=hHeldN
  clear hHeldN
  try simp only[zz]
  have hBq:Below wq.heap.size wq (wq.alloc (.cells #[] tA)):=bbox (Below.refl _ _) _
  have oN:AtomsO (wq.alloc (.cells #[] tA)) W.heap.size (.slice (some ⟨wq.heap.size,0,none⟩) 0 0) []:=⟨own_ofBlk (Blk.new wq tA #[]) (by omega),by simp[Lim]⟩
  replace k3:=k3.next hBq
  replace k6:=k6.next hBq
  try replace OG:=Lib.hid (OG.out.below hBq)
  try replace OF:=Lib.hid (OF.out.below hBq)
  replace HB:=Lib.hid (bgo HB.out hBq)
  replace hzq:=Nat.le_trans hzq hBq.size
  have OG:=Lib.hid oN
  obtain ⟨yOG,hyOG⟩:∃ y,y=wq.heap.size:=⟨_,rfl⟩
  rw[←hyOG] at OG ⊢
  clear hBq oN hyOG
  generalize wq.alloc (.cells #[] tA)=wq at *
  refine wpAnyH_ready (rs:=[0]) (by kernel_rfl) (by simp) ?_
  refine AllReadyH.cons rfl (fun K hK=>?_) AllReadyH.nil
  ·skip
   try simp only[zz]
   go_simp
   refine hK.out _ _ (rowC_ (bbox (Below.refl _ _) _) k3.lt k3.cell) (fun hHeldN=>?_)
   clear hHeld hK K
   have hHeld:=hHeldN
   clear hHeldN
   try simp only[zz]
   have hBq:Below wq.heap.size wq (wq.alloc (.cells #[] tF)):=bbox (Below.refl _ _) _
   have oN:FactsO (wq.alloc (.cells #[] tF)) W.heap.size (.slice (some ⟨wq.heap.size,0,none⟩) 0 0) []:=⟨own_ofBlk (Blk.new wq tF #[]) (by omega),by simp[Lim]⟩
   replace k3:=k3.next hBq
   replace k6:=k6.next hBq
   try replace OG:=Lib.hid (OG.out.below hBq)
   try replace OF:=Lib.hid (OF.out.below hBq)
   replace HB:=Lib.hid (bgo HB.out hBq)
   replace hzq:=Nat.le_trans hzq hBq.size
   have OF:=Lib.hid oN
   obtain ⟨yOF,hyOF⟩:∃ y,y=wq.heap.size:=⟨_,rfl⟩
   rw[←hyOF] at OF ⊢
   clear hBq oN hyOF
   generalize wq.alloc (.cells #[] tF)=wq at *
   refine wpAnyH_ready (rs:=[3]) (by kernel_rfl) (by simp) ?_
   refine AllReadyH.cons rfl (fun K hK=>?_) AllReadyH.nil
   ·skip
    refine stepFL (base:=W.heap.size) (ys:=a.facts) rfl _ _ rfl rfl OF.out rfl (H1.out.below HB.out) (by simp<;>omega) hzq ?_
    intro F f wq' oN hg hBq
    replace k3:=k3.next' hBq (by omega)
    replace k6:=k6.next' hBq (by omega)
    try replace OG:=Lib.hid (OG.out.grownF OF.out hg)
    replace HB:=Lib.hid (HB.out.trans (hBq.mono (by omega)))
    replace hzq:=Nat.le_trans hzq hBq.size
    rw[List.nil_append] at oN ⊢
    replace OF:=Lib.hid oN
    clear oN hg hBq
    refine hK.out _ _ k3.cell (fun hHeldN=>?_)
    clear hHeld hK K
    have hHeld:=hHeldN
    clear hHeldN
    try simp only[zz]
    generalize wq'=wq at *
    refine wpAnyH_ready (rs:=[8]) (by kernel_rfl) (by simp) ?_
    refine AllReadyH.cons rfl (fun K hK=>?_) AllReadyH.nil
    ·skip
     refine stepAL (base:=W.heap.size) (ys:=(freeX a).atoms) rfl _ _ rfl rfl OG.out rfl (HD.out.below HB.out) (by simp<;>omega) hzq ?_
     intro G g wq' oN hg hBq
     replace k3:=k3.next' hBq (by omega)
     replace k6:=k6.next' hBq (by omega)
     try replace OF:=Lib.hid (OF.out.grownA OG.out hg)
     replace HB:=Lib.hid (HB.out.trans (hBq.mono (by omega)))
     replace hzq:=Nat.le_trans hzq hBq.size
     rw[List.nil_append] at oN ⊢
     replace OG:=Lib.hid oN
     clear oN hg hBq
     refine hK.out _ _ k3.cell (fun hHeldN=>?_)
     clear hHeld hK K
     have hHeld:=hHeldN
     clear hHeldN
     try simp only[zz]
     generalize wq'=wq at *
     refine tk2 9 rfl hHeld ?_
     try simp only[zz]
     have l62:=k6.lt
     have q62:=k6.cell
     have r62:=k6.frozen
     refine rdc 10 rfl fun K hK=>?_
     try simp only[zz]
     go_simp
     refine hK.out _ _ (((k3.far (p:=⟨w.heap.size+1+1,0,none⟩) (by simp only;omega) _).far (p:=⟨w.heap.size+1+1,1,none⟩) (by simp only;omega) _).cell) ?_
     clear hHeld hK K
     intro hHeld
     try simp only[zz]
     refine tk2 11 rfl hHeld ?_
     try simp only[zz]
     refine wpAnyH_done (by kernel_rfl) ?_ _
     refine NoPanic.normal ?_
     go_wp2_with fail
     have z6:=((k6.set_ 0 (.slice F a.facts.length f)).set_ 1 (.slice G (freeX a).atoms.length g)).cell
     refine bodyPost_ret (v:=.tuple #[.agg #[.slice F a.facts.length f,.slice G (freeX a).atoms.length g],.bool true]) (by simp[results,Tryz.results72,go_sem,z6]) rfl ⟨F,f,G,g,freeX a,true,rfl,?_,by show a.facts.length≤1000;omega,by rw[HLF.out];omega,E.out,?_⟩
     ·exact AsnO.setT2 (AsnO.lower (⟨_,_,rfl,OF.out,OG.out⟩:AsnO wq W.heap.size (.agg #[.slice F a.facts.length f,.slice G (freeX a).atoms.length g]) (freeX a)) (by omega)) k6 _ _
     ·exact (HB.out.setCell (p:=⟨w.heap.size+1+1,0,none⟩) (by simp only;omega) _).setCell (p:=⟨w.heap.size+1+1,1,none⟩) (by simp only;omega) _
theorem c_l10After {lo hi lo' hi':Nat} (v:Value) (a:Asn) (k A B:Int) (t:Fct) (X1 X2 X3 X4:Option Addr) (n1 n2 n3 n4 d1 d2 d3 d4:Nat) (Bf:Option Addr) (cf K0:Nat) (w:World) (h:AsnC w lo hi v a) (hhi:hi≤w.heap.size) (hv:a.valid=true) (h':BoolsV w lo' hi' Bf (flagsOf K0)) (hA:isTermB A=true) (hB:isTermB B=true) (h0:0<a.atoms.length) (hk:k=2∨k=3∨k=5) :
  Calls Tryz.prog 72 #[v,.agg #[.int .i64 k,.int .i64 A,.int .i64 B,.bool t.eq,.int .i64 t.a,.int .i64 t.b,.slice X1 n1 d1,.slice X2 n2 d2,.slice X3 n3 d3,.slice X4 n4 d4],.slice Bf 9 cf] w fun e w'=>∃ F f G g b q,e=.returned (.tuple #[.agg #[.slice F b.facts.length f,.slice G b.atoms.length g],.bool q])∧AsnO w' w.heap.size (.agg #[.slice F b.facts.length f,.slice G b.atoms.length g]) b∧b.facts.length≤1000∧b.atoms.length≤1000∧accF k A B a K0=okQ q b∧Below w.heap.size w w':=by
 rcases hk with rfl|rfl|rfl
 ·exact c_aft2 v a A B t X1 X2 X3 X4 n1 n2 n3 n4 d1 d2 d3 d4 Bf cf K0 w h hhi hv h' hA h0
 ·exact c_aft3 v a A B t X1 X2 X3 X4 n1 n2 n3 n4 d1 d2 d3 d4 Bf cf K0 w h hhi hv h' hA hB h0
 ·exact c_aft5 v a A B t X1 X2 X3 X4 n1 n2 n3 n4 d1 d2 d3 d4 Bf cf K0 w h hhi hv h' hA h0
theorem c_pl1e {lo hi lo' hi':Nat} (v:Value) (a:Asn) (A:Int) (t:Fct) (X1 X2 X3 X4:Option Addr) (n1 n2 n3 n4 d1 d2 d3 d4:Nat) (Bf:Option Addr) (cf K0:Nat) (w:World) (h:AsnC w lo hi v a) (hhi:hi≤w.heap.size) (hv:a.valid=true) (h':BoolsV w lo' hi' Bf (flagsOf K0)) (hA:isTermB A=true) :
  Calls Tryz.prog 70 #[v,.agg #[.int .i64 1,.int .i64 A,.int .i64 A,.bool t.eq,.int .i64 t.a,.int .i64 t.b,.slice X1 n1 d1,.slice X2 n2 d2,.slice X3 n3 d3,.slice X4 n4 d4],.slice Bf 9 cf] w fun e w'=>∃ F f G g b q,e=.returned (.tuple #[.agg #[.slice F b.facts.length f,.slice G b.atoms.length g],.bool q])∧AsnO w' w.heap.size (.agg #[.slice F b.facts.length f,.slice G b.atoms.length g]) b∧b.facts.length≤1000∧b.atoms.length≤1000∧symB a 1 A A K0=((okQ q b).map fun x=>[x])∧Below w.heap.size w w':=by
 have hV:=Lib.hid h
 have HV:=Lib.hid hv
 have HF:=Lib.hid h'
 have hvl:=valid_len hv
 obtain ⟨A1,c1,A2,c2,rfl,-⟩:=h
 clear h' hv
 have E:Hid (symB a 1 A A K0=(okQ true a).map fun x=>[x]):=Lib.hid (by rw[okQ_true HV.out,symB_eq];rfl)
 go_enter Tryz.func70,Tryz.ntmps70
 have k3:Blk (((w.alloc (.cells #[.slice A1 a.facts.length c1,.slice A2 a.atoms.length c2] tAs)).alloc (.cells #[.int .i64 1,.int .i64 A,.int .i64 A,.bool t.eq,.int .i64 t.a,.int .i64 t.b,.slice X1 n1 d1,.slice X2 n2 d2,.slice X3 n3 d3,.slice X4 n4 d4] tC)).alloc (.cells #[.slice none 0 0,.slice none 0 0] tAs)) w.heap.size tAs #[.slice A1 a.facts.length c1,.slice A2 a.atoms.length c2]:=blks
 have k4:Blk (((w.alloc (.cells #[.slice A1 a.facts.length c1,.slice A2 a.atoms.length c2] tAs)).alloc (.cells #[.int .i64 1,.int .i64 A,.int .i64 A,.bool t.eq,.int .i64 t.a,.int .i64 t.b,.slice X1 n1 d1,.slice X2 n2 d2,.slice X3 n3 d3,.slice X4 n4 d4] tC)).alloc (.cells #[.slice none 0 0,.slice none 0 0] tAs)) (w.heap.size+1) tC #[.int .i64 1,.int .i64 A,.int .i64 A,.bool t.eq,.int .i64 t.a,.int .i64 t.b,.slice X1 n1 d1,.slice X2 n2 d2,.slice X3 n3 d3,.slice X4 n4 d4]:=blks
 have k6:Blk (((w.alloc (.cells #[.slice A1 a.facts.length c1,.slice A2 a.atoms.length c2] tAs)).alloc (.cells #[.int .i64 1,.int .i64 A,.int .i64 A,.bool t.eq,.int .i64 t.a,.int .i64 t.b,.slice X1 n1 d1,.slice X2 n2 d2,.slice X3 n3 d3,.slice X4 n4 d4] tC)).alloc (.cells #[.slice none 0 0,.slice none 0 0] tAs)) (w.heap.size+1+1) tAs #[.slice none 0 0,.slice none 0 0]:=blks
 have HB:Hid (Below w.heap.size w (((w.alloc (.cells #[.slice A1 a.facts.length c1,.slice A2 a.atoms.length c2] tAs)).alloc (.cells #[.int .i64 1,.int .i64 A,.int .i64 A,.bool t.eq,.int .i64 t.a,.int .i64 t.b,.slice X1 n1 d1,.slice X2 n2 d2,.slice X3 n3 d3,.slice X4 n4 d4] tC)).alloc (.cells #[.slice none 0 0,.slice none 0 0] tAs))):=Lib.hid bel
 have hz:(((w.alloc (.cells #[.slice A1 a.facts.length c1,.slice A2 a.atoms.length c2] tAs)).alloc (.cells #[.int .i64 1,.int .i64 A,.int .i64 A,.bool t.eq,.int .i64 t.a,.int .i64 t.b,.slice X1 n1 d1,.slice X2 n2 d2,.slice X3 n3 d3,.slice X4 n4 d4] tC)).alloc (.cells #[.slice none 0 0,.slice none 0 0] tAs)).heap.size=w.heap.size+3:=by simp
 go_upto_region 1 with fail
 generalize (((w.alloc (.cells #[.slice A1 a.facts.length c1,.slice A2 a.atoms.length c2] tAs)).alloc (.cells #[.int .i64 1,.int .i64 A,.int .i64 A,.bool t.eq,.int .i64 t.a,.int .i64 t.b,.slice X1 n1 d1,.slice X2 n2 d2,.slice X3 n3 d3,.slice X4 n4 d4] tC)).alloc (.cells #[.slice none 0 0,.slice none 0 0] tAs))=W at k3 k4 k6 HB hz ⊢
 have hdz:W.drew.heap.size=W.heap.size:=rfl
 (replace qk3:=k3.cell;replace rk3:=k3.frozen;replace lk3:=k3.lt;replace qk4:=k4.cell;replace rk4:=k4.frozen;replace lk4:=k4.lt;replace qk6:=k6.cell;replace rk6:=k6.frozen;replace lk6:=k6.lt)
 go_wp2_with fail
 refine (c_l3Copy _ a _ (hV.out.V.below HB.out)).mono ?_
 rintro e w1 ⟨r,rfl,oC,hB1⟩
 obtain ⟨F,f,G,g,rfl⟩:=oC.I.form
 have OC:=Lib.hid (oC.lower (base':=w.heap.size) (by omega))
 have k61:=k6.next hB1
 have HB1:=Lib.hid (bgo HB.out hB1)
 have hz1:=hB1.size
 clear hB1 oC k3 k4 k6 qk3 rk3 lk3 qk4 rk4 lk4 qk6 rk6 lk6 HB
 (replace qk61:=k61.cell;replace rk61:=k61.frozen;replace lk61:=k61.lt)
 go_wp2_with fail
 have z6:=((k61.set_ 0 (.slice F a.facts.length f)).set_ 1 (.slice G a.atoms.length g)).cell
 refine bodyPost_ret (v:=.tuple #[.agg #[.slice F a.facts.length f,.slice G a.atoms.length g],.bool true]) (by simp[results,Tryz.results70,go_sem,z6]) rfl ⟨F,f,G,g,a,true,rfl,?_,by omega,by omega,E.out,?_⟩
 ·exact AsnO.setT2 OC.out k61 _ _
 ·exact (HB1.out.setCell (p:=⟨w.heap.size+1+1,0,none⟩) (by simp only;omega) _).setCell (p:=⟨w.heap.size+1+1,1,none⟩) (by simp only;omega) _
theorem c_pl1 {lo hi lo' hi':Nat} (v:Value) (a:Asn) (A B:Int) (t:Fct) (X1 X2 X3 X4:Option Addr) (n1 n2 n3 n4 d1 d2 d3 d4:Nat) (Bf:Option Addr) (cf K0:Nat) (w:World) (h:AsnC w lo hi v a) (hhi:hi≤w.heap.size) (hv:a.valid=true) (h':BoolsV w lo' hi' Bf (flagsOf K0)) (hA:isTermB A=true) (hAB:¬A=B) :
  Calls Tryz.prog 70 #[v,.agg #[.int .i64 1,.int .i64 A,.int .i64 B,.bool t.eq,.int .i64 t.a,.int .i64 t.b,.slice X1 n1 d1,.slice X2 n2 d2,.slice X3 n3 d3,.slice X4 n4 d4],.slice Bf 9 cf] w fun e w'=>∃ F f G g b q,e=.returned (.tuple #[.agg #[.slice F b.facts.length f,.slice G b.atoms.length g],.bool q])∧AsnO w' w.heap.size (.agg #[.slice F b.facts.length f,.slice G b.atoms.length g]) b∧b.facts.length≤1000∧b.atoms.length≤1000∧symB a 1 A B K0=((okQ q b).map fun x=>[x])∧Below w.heap.size w w':=by
 have hV:=Lib.hid h
 have HV:=Lib.hid hv
 have HF:=Lib.hid h'
 have hvl:=valid_len hv
 obtain ⟨A1,c1,A2,c2,rfl,-⟩:=h
 clear h' hv
 have hb:(A == B)=false:=beq_false_of_ne hAB
 go_enter Tryz.func70,Tryz.ntmps70
 have k3:Blk (((w.alloc (.cells #[.slice A1 a.facts.length c1,.slice A2 a.atoms.length c2] tAs)).alloc (.cells #[.int .i64 1,.int .i64 A,.int .i64 B,.bool t.eq,.int .i64 t.a,.int .i64 t.b,.slice X1 n1 d1,.slice X2 n2 d2,.slice X3 n3 d3,.slice X4 n4 d4] tC)).alloc (.cells #[.slice none 0 0,.slice none 0 0] tAs)) w.heap.size tAs #[.slice A1 a.facts.length c1,.slice A2 a.atoms.length c2]:=blks
 have k4:Blk (((w.alloc (.cells #[.slice A1 a.facts.length c1,.slice A2 a.atoms.length c2] tAs)).alloc (.cells #[.int .i64 1,.int .i64 A,.int .i64 B,.bool t.eq,.int .i64 t.a,.int .i64 t.b,.slice X1 n1 d1,.slice X2 n2 d2,.slice X3 n3 d3,.slice X4 n4 d4] tC)).alloc (.cells #[.slice none 0 0,.slice none 0 0] tAs)) (w.heap.size+1) tC #[.int .i64 1,.int .i64 A,.int .i64 B,.bool t.eq,.int .i64 t.a,.int .i64 t.b,.slice X1 n1 d1,.slice X2 n2 d2,.slice X3 n3 d3,.slice X4 n4 d4]:=blks
 have k6:Blk (((w.alloc (.cells #[.slice A1 a.facts.length c1,.slice A2 a.atoms.length c2] tAs)).alloc (.cells #[.int .i64 1,.int .i64 A,.int .i64 B,.bool t.eq,.int .i64 t.a,.int .i64 t.b,.slice X1 n1 d1,.slice X2 n2 d2,.slice X3 n3 d3,.slice X4 n4 d4] tC)).alloc (.cells #[.slice none 0 0,.slice none 0 0] tAs)) (w.heap.size+1+1) tAs #[.slice none 0 0,.slice none 0 0]:=blks
 have HB:Hid (Below w.heap.size w (((w.alloc (.cells #[.slice A1 a.facts.length c1,.slice A2 a.atoms.length c2] tAs)).alloc (.cells #[.int .i64 1,.int .i64 A,.int .i64 B,.bool t.eq,.int .i64 t.a,.int .i64 t.b,.slice X1 n1 d1,.slice X2 n2 d2,.slice X3 n3 d3,.slice X4 n4 d4] tC)).alloc (.cells #[.slice none 0 0,.slice none 0 0] tAs))):=Lib.hid bel
 have hz:(((w.alloc (.cells #[.slice A1 a.facts.length c1,.slice A2 a.atoms.length c2] tAs)).alloc (.cells #[.int .i64 1,.int .i64 A,.int .i64 B,.bool t.eq,.int .i64 t.a,.int .i64 t.b,.slice X1 n1 d1,.slice X2 n2 d2,.slice X3 n3 d3,.slice X4 n4 d4] tC)).alloc (.cells #[.slice none 0 0,.slice none 0 0] tAs)).heap.size=w.heap.size+3:=by simp
 go_upto_region 1 with fail
 generalize (((w.alloc (.cells #[.slice A1 a.facts.length c1,.slice A2 a.atoms.length c2] tAs)).alloc (.cells #[.int .i64 1,.int .i64 A,.int .i64 B,.bool t.eq,.int .i64 t.a,.int .i64 t.b,.slice X1 n1 d1,.slice X2 n2 d2,.slice X3 n3 d3,.slice X4 n4 d4] tC)).alloc (.cells #[.slice none 0 0,.slice none 0 0] tAs))=W at k3 k4 k6 HB hz ⊢
 have hdz:W.drew.heap.size=W.heap.size:=rfl
 (replace qk3:=k3.cell;replace rk3:=k3.frozen;replace lk3:=k3.lt;replace qk4:=k4.cell;replace rk4:=k4.frozen;replace lk4:=k4.lt)
 go_wp2_with fail
 refine (c_l10Forget _ a A Bf cf K0 _ (hV.out.V.below HB.out) (by omega) (HF.out.below HB.out) HV.out hA).mono ?_
 rintro e w1 ⟨F,f,G,g,b1,p,rfl,hVb,hl1,hl2,hq,hB1⟩
 have E:Hid (symB a 1 A B K0=(okQ (forgetF a A K0).isSome (setX b1 A p B)).map fun x=>[x]):=Lib.hid (by rw[symB_set hAB,assign_okQ hq])
 have k41:=k4.next hB1
 have k61:=k6.next hB1
 have HB1:=Lib.hid (bgo HB.out hB1)
 have hz1:=hB1.size
 have HVb:=Lib.hid hVb
 have hl3:b1.facts.length≤12:=by omega
 have hl4:b1.atoms.length≤6:=by omega
 clear hl1 hl2 hB1 hVb hq k3 k4 k6 qk3 rk3 lk3 qk4 rk4 lk4 HB
 generalize (forgetF a A K0).isSome=q at E ⊢
 clear hAB
 (replace qk41:=k41.cell;replace rk41:=k41.frozen;replace lk41:=k41.lt)
 go_upto_region 5 with fail
 clear qk41 rk41 lk41
 have k10:Blk (w1.alloc (.cells #[.slice F b1.facts.length f,.slice G b1.atoms.length g] tAs)) w1.heap.size tAs #[.slice F b1.facts.length f,.slice G b1.atoms.length g]:=Blk.new _ _ _
 have hbq:Below w1.heap.size w1 (w1.alloc (.cells #[.slice F b1.facts.length f,.slice G b1.atoms.length g] tAs)):=bbox (Below.refl _ _) _
 replace k41:=k41.next hbq
 replace k61:=k61.next hbq
 replace HB1:=Lib.hid (bgo HB1.out hbq)
 replace HVb:=Lib.hid (HVb.out.below hbq)
 have hzV:=hbq.size
 clear hbq
 generalize (w1.alloc (.cells #[.slice F b1.facts.length f,.slice G b1.atoms.length g] tAs))=V at k10 k41 k61 HB1 HVb hzV ⊢
 obtain ⟨y,hy⟩:∃ y,y=w1.heap.size:=⟨_,rfl⟩
 rw[←hy] at k10 HVb ⊢
 have hyz:w.heap.size+3≤y:=by omega
 have hyV:y≤V.heap.size:=by omega
 clear hy hzV
 refine wp_region_noPanic ?_
 refine wp_region_held_drew (S:=(fun w'=>(∀ i,w'.cell? ⟨y,i,none⟩=#[.slice F b1.facts.length f,.slice G b1.atoms.length g][i]?)∧(∀ i,w'.cell? ⟨w.heap.size+1,i,none⟩=#[.int .i64 1,.int .i64 A,.int .i64 B,.bool t.eq,.int .i64 t.a,.int .i64 t.b,.slice X1 n1 d1,.slice X2 n2 d2,.slice X3 n3 d3,.slice X4 n4 d4][i]?))) (by kernel_rfl) (⟨k10.drew.cell,k41.drew.cell⟩) (fun hHeld=>?_)
 refine tk2 0 rfl hHeld ?_
 try simp only[zz]
 refine tk2 1 rfl hHeld ?_
 try simp only[zz]
 refine tk2 2 rfl hHeld ?_
 try simp only[zz]
 refine tk2 3 rfl hHeld ?_
 try simp only[zz]
 refine tk2 4 rfl hHeld ?_
 try simp only[zz]
 refine tk2 5 rfl hHeld ?_
 try simp only[zz]
 refine tk2 6 rfl hHeld ?_
 try simp only[zz]
 refine tk2 7 rfl hHeld ?_
 try simp only[zz]
 refine tk2 10 rfl hHeld ?_
 try simp only[zz]
 refine rdc 8 rfl fun K hK=>?_
 try simp only[zz]
 (go_simp;refine (c_l3Swap B A p _).mono ?_;rintro e w2 ⟨rfl,rfl⟩)
 refine hK.out _ _ (⟨k10.drew.cell,k41.drew.cell⟩) ?_
 clear hHeld hK K
 intro hHeld
 try simp only[zz]
 refine rdc 9 rfl fun K hK=>?_
 try simp only[zz]
 (go_simp;refine (c_l10Know _ b1 A (swp A p B) _ (HVb.out.below (Below.refl _ _).drew) (by omega)).mono ?_;rintro e w2 ⟨F2,f2,G2,g2,rfl,oX,hB2⟩;replace hB2:Below V.heap.size V w2:=(Below.refl _ _).drew.trans hB2;have k102:=k10.next hB2;have k42:=k41.next hB2;have k62:=k61.next hB2;have HB2:=Lib.hid (bgo HB1.out hB2);have hz2:=hB2.size;have OX:=Lib.hid (oX.lower (base':=w.heap.size) (by show w.heap.size≤V.heap.size;omega));clear hB2 oX)
 refine hK.out _ _ (⟨k102.cell,k42.cell⟩) ?_
 clear hHeld hK K
 intro hHeld
 try simp only[zz]
 have l62:=k62.lt
 have q62:=k62.cell
 have r62:=k62.frozen
 refine rdc 11 rfl fun K hK=>?_
 try simp only[zz]
 go_simp
 refine hK.out _ _ (⟨((k102.far (p:=⟨w.heap.size+1+1,0,none⟩) (by simp only;omega) _).far (p:=⟨w.heap.size+1+1,1,none⟩) (by simp only;omega) _).cell,((k42.far (p:=⟨w.heap.size+1+1,0,none⟩) (by simp only;omega) _).far (p:=⟨w.heap.size+1+1,1,none⟩) (by simp only;omega) _).cell⟩) ?_
 clear hHeld hK K
 intro hHeld
 try simp only[zz]
 refine tk2 12 rfl hHeld ?_
 try simp only[zz]
 refine wpAnyH_done (by kernel_rfl) ?_ _
 refine NoPanic.normal ?_
 go_wp2_with fail
 have z6:=((k62.set_ 0 (.slice F2 (b1.facts.length+1) f2)).set_ 1 (.slice G2 b1.atoms.length g2)).cell
 have EL:(setX b1 A p B).facts.length=b1.facts.length+1∧(setX b1 A p B).atoms.length=b1.atoms.length:=⟨by simp[setX],rfl⟩
 refine bodyPost_ret (v:=.tuple #[.agg #[.slice F2 (b1.facts.length+1) f2,.slice G2 b1.atoms.length g2],.bool q]) (by simp[results,Tryz.results70,go_sem,z6]) rfl ⟨F2,f2,G2,g2,setX b1 A p B,q,by rw[EL.1,EL.2],?_,by rw[EL.1];omega,by rw[EL.2];omega,E.out,?_⟩
 ·rw[EL.1,EL.2]
  exact AsnO.setT2 (a:=setX b1 A p B) OX.out k62 _ _
 ·exact (HB2.out.setCell (p:=⟨w.heap.size+1+1,0,none⟩) (by simp only;omega) _).setCell (p:=⟨w.heap.size+1+1,1,none⟩) (by simp only;omega) _
theorem c_pl4 {lo hi lo' hi':Nat} (v:Value) (a:Asn) (A B:Int) (t:Fct) (X1 X2 X3 X4:Option Addr) (n1 n2 n3 n4 d1 d2 d3 d4:Nat) (Bf:Option Addr) (cf K0:Nat) (w:World) (h:AsnC w lo hi v a) (hhi:hi≤w.heap.size) (hv:a.valid=true) (h':BoolsV w lo' hi' Bf (flagsOf K0)) (hA:isTermB A=true) :
  Calls Tryz.prog 70 #[v,.agg #[.int .i64 4,.int .i64 A,.int .i64 B,.bool t.eq,.int .i64 t.a,.int .i64 t.b,.slice X1 n1 d1,.slice X2 n2 d2,.slice X3 n3 d3,.slice X4 n4 d4],.slice Bf 9 cf] w fun e w'=>∃ F f G g b q,e=.returned (.tuple #[.agg #[.slice F b.facts.length f,.slice G b.atoms.length g],.bool q])∧AsnO w' w.heap.size (.agg #[.slice F b.facts.length f,.slice G b.atoms.length g]) b∧b.facts.length≤1000∧b.atoms.length≤1000∧symB a 4 A B K0=((okQ q b).map fun x=>[x])∧Below w.heap.size w w':=by
 have hV:=Lib.hid h
 have HV:=Lib.hid hv
 have HF:=Lib.hid h'
 have hvl:=valid_len hv
 obtain ⟨A1,c1,A2,c2,rfl,-⟩:=h
 clear h' hv
 go_enter Tryz.func70,Tryz.ntmps70
 have k3:Blk (((w.alloc (.cells #[.slice A1 a.facts.length c1,.slice A2 a.atoms.length c2] tAs)).alloc (.cells #[.int .i64 4,.int .i64 A,.int .i64 B,.bool t.eq,.int .i64 t.a,.int .i64 t.b,.slice X1 n1 d1,.slice X2 n2 d2,.slice X3 n3 d3,.slice X4 n4 d4] tC)).alloc (.cells #[.slice none 0 0,.slice none 0 0] tAs)) w.heap.size tAs #[.slice A1 a.facts.length c1,.slice A2 a.atoms.length c2]:=blks
 have k4:Blk (((w.alloc (.cells #[.slice A1 a.facts.length c1,.slice A2 a.atoms.length c2] tAs)).alloc (.cells #[.int .i64 4,.int .i64 A,.int .i64 B,.bool t.eq,.int .i64 t.a,.int .i64 t.b,.slice X1 n1 d1,.slice X2 n2 d2,.slice X3 n3 d3,.slice X4 n4 d4] tC)).alloc (.cells #[.slice none 0 0,.slice none 0 0] tAs)) (w.heap.size+1) tC #[.int .i64 4,.int .i64 A,.int .i64 B,.bool t.eq,.int .i64 t.a,.int .i64 t.b,.slice X1 n1 d1,.slice X2 n2 d2,.slice X3 n3 d3,.slice X4 n4 d4]:=blks
 have k6:Blk (((w.alloc (.cells #[.slice A1 a.facts.length c1,.slice A2 a.atoms.length c2] tAs)).alloc (.cells #[.int .i64 4,.int .i64 A,.int .i64 B,.bool t.eq,.int .i64 t.a,.int .i64 t.b,.slice X1 n1 d1,.slice X2 n2 d2,.slice X3 n3 d3,.slice X4 n4 d4] tC)).alloc (.cells #[.slice none 0 0,.slice none 0 0] tAs)) (w.heap.size+1+1) tAs #[.slice none 0 0,.slice none 0 0]:=blks
 have HB:Hid (Below w.heap.size w (((w.alloc (.cells #[.slice A1 a.facts.length c1,.slice A2 a.atoms.length c2] tAs)).alloc (.cells #[.int .i64 4,.int .i64 A,.int .i64 B,.bool t.eq,.int .i64 t.a,.int .i64 t.b,.slice X1 n1 d1,.slice X2 n2 d2,.slice X3 n3 d3,.slice X4 n4 d4] tC)).alloc (.cells #[.slice none 0 0,.slice none 0 0] tAs))):=Lib.hid bel
 have hz:(((w.alloc (.cells #[.slice A1 a.facts.length c1,.slice A2 a.atoms.length c2] tAs)).alloc (.cells #[.int .i64 4,.int .i64 A,.int .i64 B,.bool t.eq,.int .i64 t.a,.int .i64 t.b,.slice X1 n1 d1,.slice X2 n2 d2,.slice X3 n3 d3,.slice X4 n4 d4] tC)).alloc (.cells #[.slice none 0 0,.slice none 0 0] tAs)).heap.size=w.heap.size+3:=by simp
 go_upto_region 1 with fail
 generalize (((w.alloc (.cells #[.slice A1 a.facts.length c1,.slice A2 a.atoms.length c2] tAs)).alloc (.cells #[.int .i64 4,.int .i64 A,.int .i64 B,.bool t.eq,.int .i64 t.a,.int .i64 t.b,.slice X1 n1 d1,.slice X2 n2 d2,.slice X3 n3 d3,.slice X4 n4 d4] tC)).alloc (.cells #[.slice none 0 0,.slice none 0 0] tAs))=W at k3 k4 k6 HB hz ⊢
 have hdz:W.drew.heap.size=W.heap.size:=rfl
 (replace qk3:=k3.cell;replace rk3:=k3.frozen;replace lk3:=k3.lt;replace qk4:=k4.cell;replace rk4:=k4.frozen;replace lk4:=k4.lt)
 go_wp2_with fail
 refine (c_l10Forget _ a A Bf cf K0 _ (hV.out.V.below HB.out) (by omega) (HF.out.below HB.out) HV.out hA).mono ?_
 rintro e w1 ⟨F,f,G,g,b1,p,rfl,hVb,hl1,hl2,hq,hB1⟩
 have E:Hid (symB a 4 A B K0=(okQ (forgetF a A K0).isSome (newX b1 A)).map fun x=>[x]):=Lib.hid (by rw[symB_new,cell_okQ hq])
 have k41:=k4.next hB1
 have k61:=k6.next hB1
 have HB1:=Lib.hid (bgo HB.out hB1)
 have hz1:=hB1.size
 have HVb:=Lib.hid hVb
 have hl3:b1.facts.length≤12:=by omega
 have hl4:b1.atoms.length≤6:=by omega
 clear hl1 hl2 hB1 hVb hq k3 k4 k6 qk3 rk3 lk3 qk4 rk4 lk4 HB
 generalize (forgetF a A K0).isSome=q at E ⊢
 (replace qk41:=k41.cell;replace rk41:=k41.frozen;replace lk41:=k41.lt)
 go_upto_region 4 with fail
 clear qk41 rk41 lk41
 have k10:Blk (w1.alloc (.cells #[.slice F b1.facts.length f,.slice G b1.atoms.length g] tAs)) w1.heap.size tAs #[.slice F b1.facts.length f,.slice G b1.atoms.length g]:=Blk.new _ _ _
 have hbq:Below w1.heap.size w1 (w1.alloc (.cells #[.slice F b1.facts.length f,.slice G b1.atoms.length g] tAs)):=bbox (Below.refl _ _) _
 replace k41:=k41.next hbq
 replace k61:=k61.next hbq
 replace HB1:=Lib.hid (bgo HB1.out hbq)
 replace HVb:=Lib.hid (HVb.out.below hbq)
 have hzV:=hbq.size
 clear hbq
 generalize (w1.alloc (.cells #[.slice F b1.facts.length f,.slice G b1.atoms.length g] tAs))=V at k10 k41 k61 HB1 HVb hzV ⊢
 obtain ⟨y,hy⟩:∃ y,y=w1.heap.size:=⟨_,rfl⟩
 rw[←hy] at k10 HVb ⊢
 have hyz:w.heap.size+3≤y:=by omega
 have hyV:y≤V.heap.size:=by omega
 clear hy hzV
 (replace qk10:=k10.cell;replace rk10:=k10.frozen;replace lk10:=k10.lt;replace qk41:=k41.cell;replace rk41:=k41.frozen;replace lk41:=k41.lt)
 go_wp2_with fail
 have kn:Blk (V.alloc (.cells #[.int .i64 1,.int .i64 A,.int .i64 0] tA)) V.heap.size tA #[.int .i64 1,.int .i64 A,.int .i64 0]:=Blk.new _ _ _
 obtain ⟨hVF,hVA⟩:=HVb.out.parts
 refine (c_spec_l3Star (lo:=0) (hi:=V.heap.size+1) (lo':=0) (hi':=y) _ _ ⟨b1.facts,[⟨1,A,0⟩]⟩ ⟨[],b1.atoms⟩ _ ⟨F,f,_,1,rfl,(hVF.below (bbox (Below.refl _ _) _)).mono (Nat.le_refl _) (by omega),(AtomsV.one (f:=⟨1,A,0⟩) kn).mono (Nat.zero_le _) (Nat.le_refl _)⟩ ⟨none,0,G,g,rfl,Rd.nil _ _ _ _ _,hVA.below (bbox (Below.refl _ _) _)⟩ (by simp;omega) (by simp;omega)).mono ?_
 rintro e w2 ⟨r,rfl,oS,hB2⟩
 have hbx:Below V.heap.size V (V.alloc (.cells #[.int .i64 1,.int .i64 A,.int .i64 0] tA)):=bbox (Below.refl _ _) _
 have eS:starA ⟨b1.facts,[⟨1,A,0⟩]⟩ ⟨[],b1.atoms⟩=newX b1 A:=by simp[starA,newX]
 rw[eS] at oS
 obtain ⟨F2,f2,G2,g2,rfl⟩:=oS.I.form
 replace hB2:Below V.heap.size V w2:=hbx.trans (hB2.mono hbx.size)
 have k62:=k61.next hB2
 have HB2:=Lib.hid (bgo HB1.out hB2)
 have hz2:=hB2.size
 have OX:=Lib.hid (oS.lower (base':=w.heap.size) (by simp;omega))
 clear hB2 oS hbx kn k10 k41 qk10 rk10 lk10 qk41 rk41 lk41 HVb hVF hVA eS
 (replace qk62:=k62.cell;replace rk62:=k62.frozen;replace lk62:=k62.lt)
 go_wp2_with fail
 have z6:=((k62.set_ 0 (.slice F2 (newX b1 A).facts.length f2)).set_ 1 (.slice G2 (newX b1 A).atoms.length g2)).cell
 refine bodyPost_ret (v:=.tuple #[.agg #[.slice F2 (newX b1 A).facts.length f2,.slice G2 (newX b1 A).atoms.length g2],.bool q]) (by simp[results,Tryz.results70,go_sem,z6]) rfl ⟨F2,f2,G2,g2,newX b1 A,q,rfl,?_,by show b1.facts.length≤1000;omega,by show b1.atoms.length+1≤1000;omega,E.out,?_⟩
 ·exact AsnO.setT2 OX.out k62 _ _
 ·exact (HB2.out.setCell (p:=⟨w.heap.size+1+1,0,none⟩) (by simp only;omega) _).setCell (p:=⟨w.heap.size+1+1,1,none⟩) (by simp only;omega) _
end

/- Symbolic execution: impl.SymBasic. Printed by genSymM.py. -/
section
open Go Go.RowKit Go.Proofs
attribute [local go_sem ↓] Go.wp_at_zero Go.wp_at_succ
def okC (k A B:Int) (t:Fct) (i:Asn) (body els:Cms):Bool:=plainB t i body els&&fieldsB k A B
theorem okC_eq (k A B:Int) (t:Fct) (i:Asn) (body els:Cms):okC k A B t i body els=(basicB k&&fvalB k A B t i body els):=by
 unfold okC basicB fvalB
 by_cases h:1≤k∧k≤5
 ·rw[decide_eq_true h,if_neg (by omega),if_neg (by omega),Bool.true_and]
 ·rw[decide_eq_false h,Bool.false_and]
  unfold fieldsB
  rw[if_neg (by omega),if_neg (by omega),if_neg (by omega),if_neg (by omega),Bool.and_false]
theorem okC_term {k A B:Int} {t:Fct} {i:Asn} {body els:Cms} (h:okC k A B t i body els=true):isTermB A=true∧isTermB B=true∧(1≤k∧k≤5):=by
 unfold okC fieldsB at h
 rw[Bool.and_eq_true] at h
 have hp:∀ x,isProgB x=true→isTermB x=true:=fun x hx=>by simp[isProgB] at hx;simp[isTermB];omega
 have h0:isTermB 0=true:=by decide
 have h2:=h.2
 split at h2
 ·rw[Bool.and_eq_true] at h2
  exact ⟨hp _ h2.1,h2.2,by omega⟩
 ·split at h2
  ·rw[Bool.and_eq_true] at h2
   exact ⟨h2.1,h2.2,by omega⟩
  ·split at h2
   ·rw[Bool.and_eq_true,decide_eq_true_eq] at h2
    exact ⟨hp _ h2.1,by rw[h2.2];exact h0,by omega⟩
   ·split at h2
    ·rw[Bool.and_eq_true,decide_eq_true_eq] at h2
     exact ⟨h2.1,by rw[h2.2];exact h0,by omega⟩
    ·cases h2
theorem symBasic_all {lo hi:Nat} (v:Value) (a:Asn) (k A B:Int) (t:Fct) (X1 X2 X3 X4:Option Addr) (n1 n2 n3 n4 d1 d2 d3 d4 K0:Nat) (w:World) (h:AsnC w lo hi v a) (hhi:hi≤w.heap.size) (hv:a.valid=true) (hK0:K0<512) (hA:isTermB A=true) :
  Calls Tryz.prog 65 #[v,.agg #[.int .i64 k,.int .i64 A,.int .i64 B,.bool t.eq,.int .i64 t.a,.int .i64 t.b,.slice X1 n1 d1,.slice X2 n2 d2,.slice X3 n3 d3,.slice X4 n4 d4],.int .u16 K0] w fun e w'=>∃ r vs,e=.returned (.tuple #[r,.bool (symB a k A B (keepK K0 A B)).isSome])∧A2O w' w.heap.size r vs ((symB a k A B (keepK K0 A B)).getD [])∧Below w.heap.size w w':=by
 by_cases h1:k=1
 ·subst h1;exact c_symB1 v a A B t X1 X2 X3 X4 n1 n2 n3 n4 d1 d2 d3 d4 K0 w h hhi hv hK0 hA
 ·by_cases h4:k=4
  ·subst h4;exact c_symB4 v a A B t X1 X2 X3 X4 n1 n2 n3 n4 d1 d2 d3 d4 K0 w h hhi hv hK0 hA
  ·exact c_symBc v a k A B t X1 X2 X3 X4 n1 n2 n3 n4 d1 d2 d3 d4 K0 w h hhi hv hK0 hA h1 h4
theorem c_impl_SymBasic {lo hi loi hii lo' hi':Nat} (v:Value) (a:Asn) (k A B:Int) (t:Fct) (i:Asn) (body els:Cms) (X1 X2 X3 X4:Option Addr) (d1 d2 d3 d4:Nat) (Ak:Option Addr) (ck:Nat) (ks:List Int) (w:World) (h:AsnC w lo hi v a) (hhi:hi≤w.heap.size)
  (hI:AsnV w loi hii (.agg #[.slice X1 i.facts.length d1,.slice X2 i.atoms.length d2]) i) (h3:body.len≤1049600) (h4:els.len≤1049600) (hk:IntsV w lo' hi' Ak ks) :
  Calls Tryz.prog 12 #[v,.agg #[.int .i64 k,.int .i64 A,.int .i64 B,.bool t.eq,.int .i64 t.a,.int .i64 t.b,.slice X1 i.facts.length d1,.slice X2 i.atoms.length d2,.slice X3 body.len d3,.slice X4 els.len d4],.slice Ak ks.length ck] w fun e w'=>∃ r,e=.returned (.tuple #[r,.bool (symR a (okC k A B t i body els) k A B ks).isSome])∧AsnsR w' w.heap.size r ((symR a (okC k A B t i body els) k A B ks).getD [])∧Below w.heap.size w w':=by
 have hV:=Lib.hid h
 obtain ⟨A1,c1,A2,c2,rfl,-⟩:=h
 have HI:=Lib.hid hI
 have HK:=Lib.hid hk
 have HOK:=Lib.hid (symR_ok (a:=a) (ok:=okC k A B t i body els) (k:=k) (A:=A) (B:=B) (ks:=ks) fun e _=>(okC_term e).2.1)
 have HT:=Lib.hid (fun e=>(okC_term (k:=k) (A:=A) (B:=B) (t:=t) (i:=i) (body:=body) (els:=els) e).1)
 have HD:Hid (symR a (okC k A B t i body els) k A B ks=if a.valid&&(basicB k&&fvalB k A B t i body els) then symB a k A B (keepK (tset ks) A B) else none):=Lib.hid (by rw[okC_eq];rfl)
 have HQ:=Lib.hid (okC_eq k A B t i body els)
 clear hk hI
 generalize okC k A B t i body els=ok at HOK HT HD HQ ⊢
 go_enter Tryz.func12,Tryz.ntmps12
 have k3:Blk ((w.alloc (.cells #[.slice A1 a.facts.length c1,.slice A2 a.atoms.length c2] tAs)).alloc (.cells #[.int .i64 k,.int .i64 A,.int .i64 B,.bool t.eq,.int .i64 t.a,.int .i64 t.b,.slice X1 i.facts.length d1,.slice X2 i.atoms.length d2,.slice X3 body.len d3,.slice X4 els.len d4] tC)) w.heap.size tAs #[.slice A1 a.facts.length c1,.slice A2 a.atoms.length c2]:=blks
 have k4:Blk ((w.alloc (.cells #[.slice A1 a.facts.length c1,.slice A2 a.atoms.length c2] tAs)).alloc (.cells #[.int .i64 k,.int .i64 A,.int .i64 B,.bool t.eq,.int .i64 t.a,.int .i64 t.b,.slice X1 i.facts.length d1,.slice X2 i.atoms.length d2,.slice X3 body.len d3,.slice X4 els.len d4] tC)) (w.heap.size+1) tC #[.int .i64 k,.int .i64 A,.int .i64 B,.bool t.eq,.int .i64 t.a,.int .i64 t.b,.slice X1 i.facts.length d1,.slice X2 i.atoms.length d2,.slice X3 body.len d3,.slice X4 els.len d4]:=blks
 go_wp2_with fail
 refine (c_impl_AssertionValid _ a _ (hV.out.V.below bel)).mono ?_
 rintro e w1 ⟨rfl,hB1⟩
 have hB:=bgo (w:=w) bel hB1
 replace k3:=k3.next hB1
 replace k4:=k4.next hB1
 clear hB1
 cases hv:a.valid
 ·have E:Hid (symR a ok k A B ks=none):=Lib.hid (by rw[HD.out,hv];rfl)
  clear hv
  go_wp2_with fail
  go_ret2
  exact ⟨_,by rw[E.out];rfl,by rw[E.out];exact AsnsR.nil _ _,hB⟩
 have HV:=Lib.hid hv
 clear hv
 (replace qk3:=k3.cell;replace rk3:=k3.frozen;replace lk3:=k3.lt;replace qk4:=k4.cell;replace rk4:=k4.frozen;replace lk4:=k4.lt)
 go_wp2_with fail
 refine (c_impl_isBasic k A B t _ _ _ _ _).mono ?_
 rintro e w2 ⟨rfl,hB2⟩
 (replace hB:=bgo hB hB2;replace k3:=k3.next hB2;replace qk3:=k3.cell;replace rk3:=k3.frozen;replace lk3:=k3.lt;replace k4:=k4.next hB2;replace qk4:=k4.cell;replace rk4:=k4.frozen;replace lk4:=k4.lt)
 clear hB2
 cases hbk:basicB k
 ·have E:Hid (symR a ok k A B ks=none):=Lib.hid (by rw[HD.out,hbk];simp)
  clear hbk
  go_wp2_with fail
  go_ret2
  exact ⟨_,by rw[E.out];rfl,by rw[E.out];exact AsnsR.nil _ _,hB⟩
 have HBK:=Lib.hid hbk
 clear hbk
 go_wp2_with fail
 refine (c_impl_fieldsValid k A B t i X1 X2 X3 X4 d1 d2 d3 d4 body els _ (HI.out.below hB) h3 h4).mono ?_
 rintro e w3 ⟨rfl,hB3⟩
 (replace hB:=bgo hB hB3;replace k3:=k3.next hB3;replace qk3:=k3.cell;replace rk3:=k3.frozen;replace lk3:=k3.lt;replace k4:=k4.next hB3;replace qk4:=k4.cell;replace rk4:=k4.frozen;replace lk4:=k4.lt)
 clear hB3
 cases hfv:fvalB k A B t i body els
 ·have E:Hid (symR a ok k A B ks=none):=Lib.hid (by rw[HD.out,hfv];simp)
  clear hfv
  go_wp2_with fail
  go_ret2
  exact ⟨_,by rw[E.out];rfl,by rw[E.out];exact AsnsR.nil _ _,hB⟩
 have E:Hid (symR a ok k A B ks=symB a k A B (keepK (tset ks) A B)):=Lib.hid (by rw[HD.out,HV.out,HBK.out,hfv];rfl)
 have hA:isTermB A=true:=HT.out (by rw[HQ.out,HBK.out,hfv];rfl)
 clear hfv HD HT HQ
 rw[E.out] at HOK
 have HB:=Lib.hid hB
 have hs1:=hB.size
 clear hB
 go_wp2_with fail
 clear qk3 rk3 lk3 qk4 rk4 lk4
 refine wp_region_noPanic ?_
 refine wp_region_held_drew (S:=(fun w'=>(∀ i,w'.cell? ⟨w.heap.size,i,none⟩=#[.slice A1 a.facts.length c1,.slice A2 a.atoms.length c2][i]?)∧(∀ j,w'.cell? ⟨w.heap.size+1,j,none⟩=#[.int .i64 k,.int .i64 A,.int .i64 B,.bool t.eq,.int .i64 t.a,.int .i64 t.b,.slice X1 i.facts.length d1,.slice X2 i.atoms.length d2,.slice X3 body.len d3,.slice X4 els.len d4][j]?))) (by kernel_rfl) (⟨k3.drew.cell,k4.drew.cell⟩) (fun hHeld=>?_)
 refine tk2 0 rfl hHeld ?_
 try simp only[zz]
 refine tk2 1 rfl hHeld ?_
 try simp only[zz]
 refine tk2 2 rfl hHeld ?_
 try simp only[zz]
 refine rdc 3 rfl fun K hK=>?_
 try simp only[zz]
 (go_simp;refine (c_impl_setOfTerms Ak ck ks _ (HK.out.below HB.out.drew)).mono ?_;rintro e w4 ⟨rfl,hB4⟩;replace hB4:Below w3.heap.size w3 w4:=(Below.refl _ _).drew.trans hB4;replace k3:=k3.next hB4;replace k4:=k4.next hB4;have HB4:=Lib.hid (bgo HB.out hB4);have hs4:=hB4.size;clear hB4 HB)
 refine hK.out _ _ (⟨k3.cell,k4.cell⟩) ?_
 clear hHeld hK K
 intro hHeld
 try simp only[zz]
 refine rdc 4 rfl fun K hK=>?_
 try simp only[zz]
 (go_simp;refine (symBasic_all _ a k A B t X1 X2 X3 X4 _ _ _ _ d1 d2 d3 d4 (tset ks) _ (hV.out.below HB4.out) (by omega) HV.out (tset_lt ks) hA).mono ?_;rintro e w5 ⟨r,vs,rfl,oR,hB5⟩;obtain ⟨R1,r1,rfl⟩:=oR.form;replace k3:=k3.next hB5;replace k4:=k4.next hB5;have HB5:=Lib.hid (bgo HB4.out hB5);have OR:=Lib.hid (oR.lower (base':=w.heap.size) (by omega));clear hB5 HB4 oR)
 refine hK.out _ _ (⟨k3.cell,k4.cell⟩) ?_
 clear hHeld hK K
 intro hHeld
 try simp only[zz]
 refine tk2 5 rfl hHeld ?_
 try simp only[zz]
 refine tk2 6 rfl hHeld ?_
 try simp only[zz]
 refine tk2 7 rfl hHeld ?_
 try simp only[zz]
 refine rdc 8 rfl fun K hK=>?_
 try simp only[zz]
 go_simp
 refine hK.out _ _ (⟨k3.cell,k4.cell⟩) ?_
 clear hHeld hK K
 intro hHeld
 try simp only[zz]
 refine wpAnyH_done (by kernel_rfl) ?_ _
 refine NoPanic.normal ?_
 go_wp2_with fail
 go_ret2
 refine ⟨_,by rw[E.out];rfl,?_,HB5.out⟩
 rw[E.out]
 exact ⟨⟨vs,OR.out⟩,HOK.out.2⟩
end

end Go.Proofs.YtmcgbeladjlcpaaGreat
