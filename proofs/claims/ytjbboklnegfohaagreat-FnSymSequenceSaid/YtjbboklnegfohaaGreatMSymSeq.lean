/- Symbolic execution: spec.l10After, spec.l10Plain. Printed by genSymT.py. -/
import Derived.Test.YtjbboklnegfohaaGreatMSymS
import Derived.Deep.RegionHeld3
import Derived.Deep.DeepCutAuto
import Derived.IntWalk
set_option linter.unusedSimpArgs false
set_option linter.unusedVariables false
set_option maxRecDepth 100000
set_option maxHeartbeats 25600000
namespace Go.Proofs.YtjbboklnegfohaaGreat
open List (dropLast drop_length getElem_mem getLast length_cons length_nil mem_append nil_append)
section
open Go Go.RowKit Go.Proofs
attribute [local go_sem ↓] Go.wp_at_zero Go.wp_at_succ
def yS(q:Bool)(b:au):Option au:=if q&&b.valid then some b else none
theorem sj{b:au}(h:b.valid=true):yS true b=some b:=by unfold yS;rw[h];rfl
theorem J4{b:au}:yS true b=JQ b:=by unfold yS JQ;rw[Bool.true_and]
theorem Ay{a b:au}{x t p:Int}{K:Nat}(h:∀q,bf a x K=some q->q=(b,p)):dY a x t K=yS (bf a x K).isSome (ib b x p t):=by
 unfold dY
 cases hf:bf a x K with
 | none=>rfl
 | some q=>
  rw[h q hf,Option.isSome_some,J4];rfl
theorem NG{a b:au}{x p:Int}{K:Nat}(h:∀q,bf a x K=some q->q=(b,p)):iR a x K=yS (bf a x K).isSome (gL b x):=by
 unfold iR
 cases hf:bf a x K with
 | none=>rfl
 | some q=>
  rw[h q hf,Option.isSome_some,J4];rfl
theorem aM.parts{w:World}{lo hi:Nat}{F G:Option Addr}{n m f g:Nat}{b:au}(h:aM w lo hi (.agg #[.slice F n f,.slice G m g]) b):aG w lo hi F b.facts/\aB w lo hi G b.atoms:=by
 obtain⟨A1,c1,A2,c2,e,h1,h2⟩:=h;injection e with e;injection e with e;injection e with e1 e2;injection e1 with e1;injection e2 with e2;injection e2 with e2;subst e1 e2;exact⟨h1,h2⟩
theorem SX{lo hi bJ hi':Nat}(v:Value)(a:au)(A B:Int)(t:aF)(X1 X2 X3 X4:Option Addr)(n1 n2 n3 n4 d1 d2 d3 d4:Nat)(Bf:Option Addr)(cf K0:Nat)(w:World)(h:eB w lo hi v a)(hhi:hi<=w.heap.size)(hv:a.valid=true)(h':bB w bJ hi' Bf (zj K0))(hA:jq A=true)(hB:jq B=true)(h0:0<a.atoms.length) :
  Calls Tryz.prog 111 #[v,.agg #[.int .i64 3,.int .i64 A,.int .i64 B,.bool t.eq,.int .i64 t.a,.int .i64 t.b,.slice X1 n1 d1,.slice X2 n2 d2,.slice X3 n3 d3,.slice X4 n4 d4],.slice Bf 9 cf] w fun e w'=>∃F f G g b q,e=.returned (.tuple #[.agg #[.slice F b.facts.length f,.slice G b.atoms.length g],.bool q])/\aI w' w.heap.size (.agg #[.slice F b.facts.length f,.slice G b.atoms.length g]) b/\b.facts.length<=1000/\b.atoms.length<=1000/\gy 3 A B a K0=yS q b/\Below w.heap.size w w':=by
 have hV:=ax h;have HV:=ax hv;have HF:=ax h';have hvl:=tT hv;obtain⟨A1,c1,A2,c2,rfl,h1,h2,hcap⟩:=h;have H1:=ax h1;have H2:=ax h2;obtain⟨b,o,rfl,g0,g1,g2⟩:=h2.at h0;have E0:aJ (a.atoms[0]? = some (dR a)):=ax (by unfold dR;rw[List.getElem?_eq_getElem h0];rfl);have e0:a.atoms[0]=dR a:=by unfold dR;rw[List.getElem?_eq_getElem h0];rfl
 obtain⟨xb,hxb⟩:∃x,x=(dR a).b:=⟨_,rfl⟩;rw[e0] at g0 g1 g2;rw[<-hxb] at g2;replace hxb:=ax hxb;have hbl:=block_lt_of_cell g2;simp only[Nat.zero_mul,Nat.add_zero] at hbl g2;have hii:(0:Int)<(a.atoms.length:Int):=by omega
 clear h1 h2 g0 g1 e0 h' hv;have E:aJ (gy 3 A B a K0=yS true (mY a B)):=ax (by rw[sj (Cr HV.o hB)];rfl);have EL:aJ ((mY a B).facts.length=a.facts.length/\(mY a B).atoms.length=a.atoms.length):=ax ⟨rfl,by simp[mY]⟩;(go_enter Tryz.func111,Tryz.ntmps111);(go_upto_region 3 with fail);refine Ro (w:=w) (F:=Code.wp _ _ _ _) ?_;rintro W k3 k4 k6 HB hz;replace HB:=ax HB;have hdz:W.drew.heap.size=W.heap.size:=rfl;(replace fq:=k3.z;replace eZ:=k4.z;replace oD:=k6.z);(go_wp2_with fail);refine(oG _ a _ (hV.o.V.bz HB.o)).mono ?_;rintro e w1 ⟨r,rfl,oC,hB1⟩;obtain⟨fv,av,rfl,of,oa⟩:=oC;obtain⟨F,f,rfl,-⟩:=of.rj;obtain⟨G,g,rfl,-⟩:=oa.rj;obtain⟨gb,cur,-,rfl,hg,kg,hsz,x0,x1,x2,-⟩:=oa.open_ (k:=0) h0;simp only[Nat.zero_mul,Nat.zero_add] at x0 x1 x2;have k41:=k4.nz hB1;have k61:=k6.nz hB1;have HB1:=bF HB hB1;have hz1:=hB1.size;have OF:=ax of;have OA:=ax oa;clear of oa hB1 k3 k4 k6 fq eZ oD HB x0 x1;have hgl:=kg.lt;have rg:=kg.frozen;have q2:=(kg.cell 2).trans x2;(replace Fz:=k41.z;replace Vo:=k61.z);(go_wp2_with fail);have hne:gb≠w.heap.size+1+1:=fun e=>by omega
 have k62:=k61.far (p:=⟨gb,2,none⟩) (fun e=>hne e.symm) (.int .i64 B);have Ul:=OA.o.Nh h0 B E0.o;have MZ:=OF.o.aA kg (by decide) 2 (.int .i64 B);have z6:=(((k62.ag 0 (.slice F a.facts.length f)).ag 1 (.slice (some ⟨gb,0,none⟩) a.atoms.length g)).alloc (.cells #[.slice F a.facts.length f,.slice (some ⟨gb,0,none⟩) a.atoms.length g] aC)).cell
 have OX:aI (w1.setCell ⟨gb,2,none⟩ (.int .i64 B)) W.heap.size (.agg #[.slice F a.facts.length f,.slice (some ⟨gb,0,none⟩) a.atoms.length g]) (mY a B):=by
  refine⟨_,_,rfl,MZ,?_⟩;exact Ul
 have HB2:=(iq HB1.o gb 2 (.int .i64 B));refine bodyPost_ret (v:=.tuple #[.agg #[.slice F a.facts.length f,.slice (some ⟨gb,0,none⟩) a.atoms.length g],.bool true]) (by simp[results,Tryz.results111,go_sem,z6]) rfl ⟨F,f,some ⟨gb,0,none⟩,g,mY a B,true,by rw[EL.o.1,EL.o.2],?_,by rw[EL.o.1];omega,by rw[EL.o.2];omega,E.o,?_⟩
 ·rw[EL.o.1,EL.o.2];exact((aI.lJ OX k62 _ _).bq).bz aj
 ·exact ai ((iq (iq HB2 (w.heap.size+1+1) 0 _) (w.heap.size+1+1) 1 _)) _
theorem SY{lo hi bJ hi':Nat}(v:Value)(a:au)(A B:Int)(t:aF)(X1 X2 X3 X4:Option Addr)(n1 n2 n3 n4 d1 d2 d3 d4:Nat)(Bf:Option Addr)(cf K0:Nat)(w:World)(h:eB w lo hi v a)(hhi:hi<=w.heap.size)(hv:a.valid=true)(h':bB w bJ hi' Bf (zj K0))(hA:jq A=true)(h0:0<a.atoms.length) :
  Calls Tryz.prog 111 #[v,.agg #[.int .i64 2,.int .i64 A,.int .i64 B,.bool t.eq,.int .i64 t.a,.int .i64 t.b,.slice X1 n1 d1,.slice X2 n2 d2,.slice X3 n3 d3,.slice X4 n4 d4],.slice Bf 9 cf] w fun e w'=>∃F f G g b q,e=.returned (.tuple #[.agg #[.slice F b.facts.length f,.slice G b.atoms.length g],.bool q])/\aI w' w.heap.size (.agg #[.slice F b.facts.length f,.slice G b.atoms.length g]) b/\b.facts.length<=1000/\b.atoms.length<=1000/\gy 2 A B a K0=yS q b/\Below w.heap.size w w':=by
 have hV:=ax h;have HV:=ax hv;have HF:=ax h';have hvl:=tT hv;obtain⟨A1,c1,A2,c2,rfl,h1,h2,hcap⟩:=h;have H1:=ax h1;have H2:=ax h2;obtain⟨b,o,rfl,g0,g1,g2⟩:=h2.at h0;have E0:aJ (a.atoms[0]? = some (dR a)):=ax (by unfold dR;rw[List.getElem?_eq_getElem h0];rfl);have e0:a.atoms[0]=dR a:=by unfold dR;rw[List.getElem?_eq_getElem h0];rfl
 obtain⟨xb,hxb⟩:∃x,x=(dR a).b:=⟨_,rfl⟩;rw[e0] at g0 g1 g2;rw[<-hxb] at g2;replace hxb:=ax hxb;have hbl:=block_lt_of_cell g2;simp only[Nat.zero_mul,Nat.add_zero] at hbl g2;have hii:(0:Int)<(a.atoms.length:Int):=by omega
 clear h1 h2 g0 g1 e0 h' hv;have HE:aJ (gy 2 A B a K0=dY a A xb K0):=ax (by rw[hxb.o];rfl);(go_enter Tryz.func111,Tryz.ntmps111);have k3:ae (((w.alloc (.cells #[.slice A1 a.facts.length c1,.slice (some ⟨b,o,none⟩) a.atoms.length c2] aC)).alloc (.cells #[.int .i64 2,.int .i64 A,.int .i64 B,.bool t.eq,.int .i64 t.a,.int .i64 t.b,.slice X1 n1 d1,.slice X2 n2 d2,.slice X3 n3 d3,.slice X4 n4 d4] tC)).alloc (.cells #[.slice none 0 0,.slice none 0 0] aC)) w.heap.size aC #[.slice A1 a.facts.length c1,.slice (some ⟨b,o,none⟩) a.atoms.length c2]:=az;have k4:ae (((w.alloc (.cells #[.slice A1 a.facts.length c1,.slice (some ⟨b,o,none⟩) a.atoms.length c2] aC)).alloc (.cells #[.int .i64 2,.int .i64 A,.int .i64 B,.bool t.eq,.int .i64 t.a,.int .i64 t.b,.slice X1 n1 d1,.slice X2 n2 d2,.slice X3 n3 d3,.slice X4 n4 d4] tC)).alloc (.cells #[.slice none 0 0,.slice none 0 0] aC)) (w.heap.size+1) tC #[.int .i64 2,.int .i64 A,.int .i64 B,.bool t.eq,.int .i64 t.a,.int .i64 t.b,.slice X1 n1 d1,.slice X2 n2 d2,.slice X3 n3 d3,.slice X4 n4 d4]:=az;have k6:ae (((w.alloc (.cells #[.slice A1 a.facts.length c1,.slice (some ⟨b,o,none⟩) a.atoms.length c2] aC)).alloc (.cells #[.int .i64 2,.int .i64 A,.int .i64 B,.bool t.eq,.int .i64 t.a,.int .i64 t.b,.slice X1 n1 d1,.slice X2 n2 d2,.slice X3 n3 d3,.slice X4 n4 d4] tC)).alloc (.cells #[.slice none 0 0,.slice none 0 0] aC)) (w.heap.size+1+1) aC #[.slice none 0 0,.slice none 0 0]:=az;have HB:aJ (Below w.heap.size w (((w.alloc (.cells #[.slice A1 a.facts.length c1,.slice (some ⟨b,o,none⟩) a.atoms.length c2] aC)).alloc (.cells #[.int .i64 2,.int .i64 A,.int .i64 B,.bool t.eq,.int .i64 t.a,.int .i64 t.b,.slice X1 n1 d1,.slice X2 n2 d2,.slice X3 n3 d3,.slice X4 n4 d4] tC)).alloc (.cells #[.slice none 0 0,.slice none 0 0] aC))):=ax aj;have hz:(((w.alloc (.cells #[.slice A1 a.facts.length c1,.slice (some ⟨b,o,none⟩) a.atoms.length c2] aC)).alloc (.cells #[.int .i64 2,.int .i64 A,.int .i64 B,.bool t.eq,.int .i64 t.a,.int .i64 t.b,.slice X1 n1 d1,.slice X2 n2 d2,.slice X3 n3 d3,.slice X4 n4 d4] tC)).alloc (.cells #[.slice none 0 0,.slice none 0 0] aC)).heap.size=w.heap.size+3:=by simp
 have hq2:(((w.alloc (.cells #[.slice A1 a.facts.length c1,.slice (some ⟨b,o,none⟩) a.atoms.length c2] aC)).alloc (.cells #[.int .i64 2,.int .i64 A,.int .i64 B,.bool t.eq,.int .i64 t.a,.int .i64 t.b,.slice X1 n1 d1,.slice X2 n2 d2,.slice X3 n3 d3,.slice X4 n4 d4] tC)).alloc (.cells #[.slice none 0 0,.slice none 0 0] aC)).cell? ⟨b,o+2,none⟩=some (.int .i64 xb):=(HB.o.cell (p:=⟨b,o+2,none⟩) hbl).trans g2;(go_upto_region 8 with fail);generalize (((w.alloc (.cells #[.slice A1 a.facts.length c1,.slice (some ⟨b,o,none⟩) a.atoms.length c2] aC)).alloc (.cells #[.int .i64 2,.int .i64 A,.int .i64 B,.bool t.eq,.int .i64 t.a,.int .i64 t.b,.slice X1 n1 d1,.slice X2 n2 d2,.slice X3 n3 d3,.slice X4 n4 d4] tC)).alloc (.cells #[.slice none 0 0,.slice none 0 0] aC))=W at k3 k4 k6 hq2 HB hz⊢;have hdz:W.drew.heap.size=W.heap.size:=rfl;have hblW:b<W.heap.size:=by omega
 (replace fq:=k3.z;replace eZ:=k4.z);(go_wp2_with fail);refine(si _ a A Bf cf K0 _ (hV.o.V.bz HB.o) (by omega) (HF.o.bz HB.o) HV.o hA).mono ?_;rintro e w1 ⟨F,f,G,g,b1,p,rfl,Rc,hl1,hl2,hq,hB1⟩;have E:aJ (gy 2 A B a K0=yS (bf a A K0).isSome (ib b1 A p xb)):=ax (by rw[HE.o];exact Ay hq);have k41:=k4.nz hB1;have k61:=k6.nz hB1;have HB1:=bF HB hB1;have hz1:=hB1.size;have wu:=ax Rc;have hl3:b1.facts.length<=12:=by omega
 have hl4:b1.atoms.length<=6:=by omega
 clear hl1 hl2 hB1 Rc hq HE k3 k4 k6 fq eZ HB hq2;generalize (bf a A K0).isSome=q at E⊢;(go_upto_region 10 with fail);have k10:ae (w1.alloc (.cells #[.slice F b1.facts.length f,.slice G b1.atoms.length g] aC)) w1.heap.size aC #[.slice F b1.facts.length f,.slice G b1.atoms.length g]:=ae.new _ _ _;have hbq:Below w1.heap.size w1 (w1.alloc (.cells #[.slice F b1.facts.length f,.slice G b1.atoms.length g] aC)):=ai aU _;replace k41:=k41.nz hbq;replace k61:=k61.nz hbq;replace HB1:=bF HB1 hbq;replace wu:=ax (wu.o.bz hbq);have Mc:=hbq.size;clear hbq;generalize (w1.alloc (.cells #[.slice F b1.facts.length f,.slice G b1.atoms.length g] aC))=V at k10 k41 k61 HB1 wu Mc⊢;obtain⟨y,hy⟩:∃y,y=w1.heap.size:=⟨_,rfl⟩;rw[<-hy] at k10 wu⊢;have OL:w.heap.size+3<=y:=by omega
 have hyV:y<=V.heap.size:=by omega
 clear hy Mc;refine lS (S:=(fun w'=>(∀i,w'.cell? ⟨y,i,none⟩=#[.slice F b1.facts.length f,.slice G b1.atoms.length g][i]?)/\(∀i,w'.cell? ⟨w.heap.size+1,i,none⟩=#[.int .i64 2,.int .i64 A,.int .i64 B,.bool t.eq,.int .i64 t.a,.int .i64 t.b,.slice X1 n1 d1,.slice X2 n2 d2,.slice X3 n3 d3,.slice X4 n4 d4][i]?))) (⟨k10.drew.cell,k41.drew.cell⟩) fun aH=>?_;refine jQ 0 1 2 3 4 ?_;refine yU 5 6 9 ?_;refine aX 7 rfl fun K hK=>?_;(try simp only[zz]);(go_simp;refine(oK xb A p _).mono ?_;rintro e w2 ⟨rfl,rfl⟩);refine hK.out _ _ (⟨k10.drew.cell,k41.drew.cell⟩) ?_;clear aH hK K;intro aH;refine aX 8 rfl fun K hK=>?_;(try simp only[zz]);(go_simp;refine(wT _ b1 A (swp A p xb) _ (wu.o.bz aU.drew) (by omega)).mono ?_;rintro e w2 ⟨F2,f2,G2,g2,rfl,oX,hB2⟩;replace hB2:Below V.heap.size V w2:=aU.drew.trans hB2;have k102:=k10.nz hB2;have k42:=k41.nz hB2;have k62:=k61.nz hB2;have HB2:=bF HB1 hB2;have hz2:=hB2.size;have OX:=ax (oX.bq (base':=w.heap.size) (by show w.heap.size<=V.heap.size;omega));clear hB2 oX);refine hK.out _ _ (⟨k102.cell,k42.cell⟩) ?_;clear aH hK K;intro aH;(try simp only[zz]);have l62:=k62.lt;have q62:=k62.cell;have r62:=k62.frozen;refine aX 10 rfl fun K hK=>?_;(try simp only[zz]);go_simp;refine hK.out _ _ (⟨((k102.fz (w.heap.size+1+1) 0 _).fz (w.heap.size+1+1) 1 _).cell,((k42.fz (w.heap.size+1+1) 0 _).fz (w.heap.size+1+1) 1 _).cell⟩) ?_;clear aH hK K;intro aH;refine jh 11 ?_;refine jP ?_;(go_wp2_with fail);have z6:=((k62.ag 0 (.slice F2 (b1.facts.length+1) f2)).ag 1 (.slice G2 b1.atoms.length g2)).cell;have EL:(ib b1 A p xb).facts.length=b1.facts.length+1/\(ib b1 A p xb).atoms.length=b1.atoms.length:=⟨by simp[ib],rfl⟩;refine bodyPost_ret (v:=.tuple #[.agg #[.slice F2 (b1.facts.length+1) f2,.slice G2 b1.atoms.length g2],.bool q]) (by simp[results,Tryz.results111,go_sem,z6]) rfl ⟨F2,f2,G2,g2,ib b1 A p xb,q,by rw[EL.1,EL.2],?_,by rw[EL.1];omega,by rw[EL.2];omega,E.o,?_⟩
 ·rw[EL.1,EL.2];exact aI.lJ (a:=ib b1 A p xb) OX.o k62 _ _
 ·exact iq (iq HB2.o (w.heap.size+1+1) 0 _) (w.heap.size+1+1) 1 _
theorem ae.next'{w w':World}{B g:Nat}{t:TypeId}{cs:Array Value}(h:ae w g t cs)(hb:Below B w w')(hg:g<B):ae w' g t cs:=(hb.block g hg).trans h
theorem S7{lo hi bJ hi':Nat}(v:Value)(a:au)(A B:Int)(t:aF)(X1 X2 X3 X4:Option Addr)(n1 n2 n3 n4 d1 d2 d3 d4:Nat)(Bf:Option Addr)(cf K0:Nat)(w:World)(h:eB w lo hi v a)(hhi:hi<=w.heap.size)(hv:a.valid=true)(h':bB w bJ hi' Bf (zj K0))(hA:jq A=true)(h0:0<a.atoms.length) :
  Calls Tryz.prog 111 #[v,.agg #[.int .i64 5,.int .i64 A,.int .i64 B,.bool t.eq,.int .i64 t.a,.int .i64 t.b,.slice X1 n1 d1,.slice X2 n2 d2,.slice X3 n3 d3,.slice X4 n4 d4],.slice Bf 9 cf] w fun e w'=>∃F f G g b q,e=.returned (.tuple #[.agg #[.slice F b.facts.length f,.slice G b.atoms.length g],.bool q])/\aI w' w.heap.size (.agg #[.slice F b.facts.length f,.slice G b.atoms.length g]) b/\b.facts.length<=1000/\b.atoms.length<=1000/\gy 5 A B a K0=yS q b/\Below w.heap.size w w':=by
 have hV:=ax h;have HV:=ax hv;have HF:=ax h';have hvl:=tT hv;obtain⟨A1,c1,A2,c2,rfl,h1,h2,hcap⟩:=h;have H1:=ax h1;have H2:=ax h2;obtain⟨b,o,rfl,g0,g1,g2⟩:=h2.at h0;have E0:aJ (a.atoms[0]? = some (dR a)):=ax (by unfold dR;rw[List.getElem?_eq_getElem h0];rfl);have e0:a.atoms[0]=dR a:=by unfold dR;rw[List.getElem?_eq_getElem h0];rfl
 obtain⟨xb,hxb⟩:∃x,x=(dR a).b:=⟨_,rfl⟩;rw[e0] at g0 g1 g2;rw[<-hxb] at g2;replace hxb:=ax hxb;have hbl:=block_lt_of_cell g2;simp only[Nat.zero_mul,Nat.add_zero] at hbl g2;have hii:(0:Int)<(a.atoms.length:Int):=by omega
 clear h1 h2 g0 g1 e0 h' hv;have E:aJ (gy 5 A B a K0=yS true (iI a)):=ax (by rw[sj (Fj HV.o)];rfl);have HLF:aJ ((iI a).atoms.length=a.atoms.length - 1):=ax (by simp[iI,zv]);obtain⟨A',hs2,hA'⟩:=Dq b o a.atoms.length c2 1 (by omega) hcap
 push_cast at hs2
 have HD:aJ (aB w lo (max hi (b+1)) A' (iI a).atoms):=ax (by
  have e:(iI a).atoms=a.atoms.drop 1:=by simp[iI,zv]
  rw[e];by_cases hlt:1<a.atoms.length
  ·rw[hA' (by omega)];exact(H2.o.MQ (k:=1) (by omega)).mono bn (by omega)
  ·rw[List.drop_eq_nil_of_le (by omega)]
   exact Rd.nil _ _ _ _ _)
 clear hA' hcap;(go_enter Tryz.func111,Tryz.ntmps111);(go_upto_region 7 with fail);refine Ro (w:=w) (F:=Code.wp _ _ _ _) ?_;rintro W k3 k4 k6 HB hz;replace HB:=ax HB;have hdz:W.drew.heap.size=W.heap.size:=rfl;have hle:(iI a).atoms.length<=6:=by rw[HLF.o];omega
 rw[<-HLF.o] at hs2;refine lS (S:=(fun w'=>∀i,w'.cell? ⟨w.heap.size,i,none⟩=#[.slice A1 a.facts.length c1,.slice (some ⟨b,o,none⟩) a.atoms.length c2][i]?)) (k3.drew.cell) fun aH=>?_;replace k3:=k3.drew;replace k6:=k6.drew;replace HB:=ax HB.o.drew;have df:W.heap.size<=W.drew.heap.size:=bn;generalize W.drew=wq at k3 k6 HB df hdz aH⊢;clear hdz;refine jQ 1 2 5 6 7 ?_;refine wB 0 4 rfl rfl (fun K hK=>?_) fun K hK=>?_;(try simp only[zz]);go_simp;refine hK.out _ _ (oM (ai aU _) k3.lt k3.cell) ?_;clear aH hK K;intro aH;(try simp only[zz]);have aN:Below wq.heap.size wq (wq.alloc (.cells #[] tF)):=ai aU _;have oN:ah (wq.alloc (.cells #[] tF)) W.heap.size (.slice (some ⟨wq.heap.size,0,none⟩) 0 0) []:=⟨ig (ae.new wq tF #[]) (by omega),by simp[il]⟩;replace k3:=k3.nz aN;replace k6:=k6.nz aN;(try replace OG:=ax (OG.o.bz aN));(try replace OF:=ax (OF.o.bz aN));replace HB:=bF HB aN;replace df:=Nat.le_trans df aN.size;have OF:=ax oN;obtain⟨yOF,NH⟩:∃y,y=wq.heap.size:=⟨_,rfl⟩;rw[<-NH] at OF⊢;clear aN oN NH;generalize wq.alloc (.cells #[] tF)=wq at*;refine wB 3 4 rfl rfl (fun K hK=>?_) fun K hK=>?_;refine jT (base:=W.heap.size) (ys:=a.facts) rfl _ _ rfl rfl OF.o rfl (H1.o.bz HB.o) (by simp<;>omega) df ?_;intro F f NJ oN hg aN;replace k3:=k3.next' aN (by omega);replace k6:=k6.next' aN (by omega);(try replace OG:=ax (OG.o.lY OF.o hg));replace HB:=ax (HB.o.trans (aN.mono (by omega)));replace df:=Nat.le_trans df aN.size;rw[nil_append] at oN⊢;replace OF:=ax oN;clear oN hg aN;refine hK.out _ _ k3.cell ?_;clear aH hK K;intro aH;(try simp only[zz]);generalize NJ=wq at*;refine aX 4 rfl fun K hK=>?_
 all_goals
  (try simp only[zz]);go_simp;refine hK.out _ _ (oM (ai aU _) k3.lt k3.cell) ?_;clear aH hK K;intro aH;(try simp only[zz]);have aN:Below wq.heap.size wq (wq.alloc (.cells #[] tA)):=ai aU _;have oN:af (wq.alloc (.cells #[] tA)) W.heap.size (.slice (some ⟨wq.heap.size,0,none⟩) 0 0) []:=⟨ig (ae.new wq tA #[]) (by omega),by simp[il]⟩;replace k3:=k3.nz aN;replace k6:=k6.nz aN;(try replace OG:=ax (OG.o.bz aN));(try replace OF:=ax (OF.o.bz aN));replace HB:=bF HB aN;replace df:=Nat.le_trans df aN.size;have OG:=ax oN;obtain⟨yOG,Wd⟩:∃y,y=wq.heap.size:=⟨_,rfl⟩;rw[<-Wd] at OG⊢;clear aN oN Wd;generalize wq.alloc (.cells #[] tA)=wq at*
 rotate_right
 refine aX 0 rfl fun K hK=>?_;(try simp only[zz]);go_simp;refine hK.out _ _ (oM (ai aU _) k3.lt k3.cell) ?_;clear aH hK K;intro aH;(try simp only[zz]);have aN:Below wq.heap.size wq (wq.alloc (.cells #[] tF)):=ai aU _;have oN:ah (wq.alloc (.cells #[] tF)) W.heap.size (.slice (some ⟨wq.heap.size,0,none⟩) 0 0) []:=⟨ig (ae.new wq tF #[]) (by omega),by simp[il]⟩;replace k3:=k3.nz aN;replace k6:=k6.nz aN;(try replace OG:=ax (OG.o.bz aN));(try replace OF:=ax (OF.o.bz aN));replace HB:=bF HB aN;replace df:=Nat.le_trans df aN.size;have OF:=ax oN;obtain⟨yOF,NH⟩:∃y,y=wq.heap.size:=⟨_,rfl⟩;rw[<-NH] at OF⊢;clear aN oN NH;generalize wq.alloc (.cells #[] tF)=wq at*
 any_goals
  refine aX 3 rfl fun K hK=>?_;refine jT (base:=W.heap.size) (ys:=a.facts) rfl _ _ rfl rfl OF.o rfl (H1.o.bz HB.o) (by simp<;>omega) df ?_;intro F f NJ oN hg aN;replace k3:=k3.next' aN (by omega);replace k6:=k6.next' aN (by omega);(try replace OG:=ax (OG.o.lY OF.o hg));replace HB:=ax (HB.o.trans (aN.mono (by omega)));replace df:=Nat.le_trans df aN.size;rw[nil_append] at oN⊢;replace OF:=ax oN;clear oN hg aN;refine hK.out _ _ k3.cell ?_;clear aH hK K;intro aH;(try simp only[zz]);generalize NJ=wq at*
 all_goals
  refine aX 8 rfl fun K hK=>?_;refine lW (base:=W.heap.size) (ys:=(iI a).atoms) rfl _ _ rfl rfl OG.o rfl (HD.o.bz HB.o) (by simp<;>omega) df ?_;intro G g NJ oN hg aN;replace k3:=k3.next' aN (by omega);replace k6:=k6.next' aN (by omega);(try replace OF:=ax (OF.o.jF OG.o hg));replace HB:=ax (HB.o.trans (aN.mono (by omega)));replace df:=Nat.le_trans df aN.size;rw[nil_append] at oN⊢;replace OG:=ax oN;clear oN hg aN;refine hK.out _ _ k3.cell ?_;clear aH hK K;intro aH;(try simp only[zz]);generalize NJ=wq at*;refine jh 9 ?_;have l62:=k6.lt;have q62:=k6.cell;have r62:=k6.frozen;refine aX 10 rfl fun K hK=>?_;(try simp only[zz]);go_simp;refine hK.out _ _ (((k3.fz (w.heap.size+1+1) 0 _).fz (w.heap.size+1+1) 1 _).cell) ?_;clear aH hK K;intro aH;refine jh 11 ?_;refine jP ?_;(go_wp2_with fail);have z6:=((k6.ag 0 (.slice F a.facts.length f)).ag 1 (.slice G (iI a).atoms.length g)).cell;refine bodyPost_ret (v:=.tuple #[.agg #[.slice F a.facts.length f,.slice G (iI a).atoms.length g],.bool true]) (by simp[results,Tryz.results111,go_sem,z6]) rfl ⟨F,f,G,g,iI a,true,rfl,?_,by show a.facts.length<=1000;omega,by rw[HLF.o];omega,E.o,?_⟩
  ·exact aI.lJ (aI.bq (⟨_,_,rfl,OF.o,OG.o⟩:aI wq W.heap.size (.agg #[.slice F a.facts.length f,.slice G (iI a).atoms.length g]) (iI a)) (by omega)) k6 _ _
  ·exact iq (iq HB.o (w.heap.size+1+1) 0 _) (w.heap.size+1+1) 1 _
theorem Az{lo hi bJ hi':Nat}(v:Value)(a:au)(k A B:Int)(t:aF)(X1 X2 X3 X4:Option Addr)(n1 n2 n3 n4 d1 d2 d3 d4:Nat)(Bf:Option Addr)(cf K0:Nat)(w:World)(h:eB w lo hi v a)(hhi:hi<=w.heap.size)(hv:a.valid=true)(h':bB w bJ hi' Bf (zj K0))(hA:jq A=true)(hB:jq B=true)(h0:0<a.atoms.length)(hk:k=2\/k=3\/k=5) :
  Calls Tryz.prog 111 #[v,.agg #[.int .i64 k,.int .i64 A,.int .i64 B,.bool t.eq,.int .i64 t.a,.int .i64 t.b,.slice X1 n1 d1,.slice X2 n2 d2,.slice X3 n3 d3,.slice X4 n4 d4],.slice Bf 9 cf] w fun e w'=>∃F f G g b q,e=.returned (.tuple #[.agg #[.slice F b.facts.length f,.slice G b.atoms.length g],.bool q])/\aI w' w.heap.size (.agg #[.slice F b.facts.length f,.slice G b.atoms.length g]) b/\b.facts.length<=1000/\b.atoms.length<=1000/\gy k A B a K0=yS q b/\Below w.heap.size w w':=by
 rcases hk with rfl|rfl|rfl
 ·exact SY v a A B t X1 X2 X3 X4 n1 n2 n3 n4 d1 d2 d3 d4 Bf cf K0 w h hhi hv h' hA h0
 ·exact SX v a A B t X1 X2 X3 X4 n1 n2 n3 n4 d1 d2 d3 d4 Bf cf K0 w h hhi hv h' hA hB h0
 ·exact S7 v a A B t X1 X2 X3 X4 n1 n2 n3 n4 d1 d2 d3 d4 Bf cf K0 w h hhi hv h' hA h0
theorem S8{lo hi bJ hi':Nat}(v:Value)(a:au)(A:Int)(t:aF)(X1 X2 X3 X4:Option Addr)(n1 n2 n3 n4 d1 d2 d3 d4:Nat)(Bf:Option Addr)(cf K0:Nat)(w:World)(h:eB w lo hi v a)(hhi:hi<=w.heap.size)(hv:a.valid=true)(h':bB w bJ hi' Bf (zj K0))(hA:jq A=true) :
  Calls Tryz.prog 109 #[v,.agg #[.int .i64 1,.int .i64 A,.int .i64 A,.bool t.eq,.int .i64 t.a,.int .i64 t.b,.slice X1 n1 d1,.slice X2 n2 d2,.slice X3 n3 d3,.slice X4 n4 d4],.slice Bf 9 cf] w fun e w'=>∃F f G g b q,e=.returned (.tuple #[.agg #[.slice F b.facts.length f,.slice G b.atoms.length g],.bool q])/\aI w' w.heap.size (.agg #[.slice F b.facts.length f,.slice G b.atoms.length g]) b/\b.facts.length<=1000/\b.atoms.length<=1000/\eH a 1 A A K0=((yS q b).map fun x=>[x])/\Below w.heap.size w w':=by
 have hV:=ax h;have HV:=ax hv;have HF:=ax h';have hvl:=tT hv;obtain⟨A1,c1,A2,c2,rfl,-⟩:=h;clear h' hv;have E:aJ (eH a 1 A A K0=(yS true a).map fun x=>[x]):=ax (by rw[sj HV.o,J2];rfl);(go_enter Tryz.func109,Tryz.ntmps109);(go_upto_region 1 with fail);refine Ro (w:=w) (F:=Code.wp _ _ _ _) ?_;rintro W k3 k4 k6 HB hz;replace HB:=ax HB;have hdz:W.drew.heap.size=W.heap.size:=rfl;(replace fq:=k3.z;replace eZ:=k4.z;replace oD:=k6.z);(go_wp2_with fail);refine(oG _ a _ (hV.o.V.bz HB.o)).mono ?_;rintro e w1 ⟨r,rfl,oC,hB1⟩;obtain⟨F,f,G,g,rfl⟩:=oC.I.form;have OC:=ax (oC.bq (base':=w.heap.size));have k61:=k6.nz hB1;have HB1:=bF HB hB1;have hz1:=hB1.size;clear hB1 oC k3 k4 k6 fq eZ oD HB;(replace Vo:=k61.z);(go_wp2_with fail);have z6:=((k61.ag 0 (.slice F a.facts.length f)).ag 1 (.slice G a.atoms.length g)).cell;refine bodyPost_ret (v:=.tuple #[.agg #[.slice F a.facts.length f,.slice G a.atoms.length g],.bool true]) (by simp[results,Tryz.results109,go_sem,z6]) rfl ⟨F,f,G,g,a,true,rfl,?_,by omega,by omega,E.o,?_⟩
 ·exact aI.lJ OC.o k61 _ _
 ·exact iq (iq HB1.o (w.heap.size+1+1) 0 _) (w.heap.size+1+1) 1 _
theorem We{lo hi bJ hi':Nat}(v:Value)(a:au)(A B:Int)(t:aF)(X1 X2 X3 X4:Option Addr)(n1 n2 n3 n4 d1 d2 d3 d4:Nat)(Bf:Option Addr)(cf K0:Nat)(w:World)(h:eB w lo hi v a)(hhi:hi<=w.heap.size)(hv:a.valid=true)(h':bB w bJ hi' Bf (zj K0))(hA:jq A=true)(Bo:¬A=B) :
  Calls Tryz.prog 109 #[v,.agg #[.int .i64 1,.int .i64 A,.int .i64 B,.bool t.eq,.int .i64 t.a,.int .i64 t.b,.slice X1 n1 d1,.slice X2 n2 d2,.slice X3 n3 d3,.slice X4 n4 d4],.slice Bf 9 cf] w fun e w'=>∃F f G g b q,e=.returned (.tuple #[.agg #[.slice F b.facts.length f,.slice G b.atoms.length g],.bool q])/\aI w' w.heap.size (.agg #[.slice F b.facts.length f,.slice G b.atoms.length g]) b/\b.facts.length<=1000/\b.atoms.length<=1000/\eH a 1 A B K0=((yS q b).map fun x=>[x])/\Below w.heap.size w w':=by
 have hV:=ax h;have HV:=ax hv;have HF:=ax h';have hvl:=tT hv;obtain⟨A1,c1,A2,c2,rfl,-⟩:=h;clear h' hv;have hb:(A == B)=false:=beq_false_of_ne Bo;(go_enter Tryz.func109,Tryz.ntmps109);(go_upto_region 1 with fail);refine Ro (w:=w) (F:=Code.wp _ _ _ _) ?_;rintro W k3 k4 k6 HB hz;replace HB:=ax HB;have hdz:W.drew.heap.size=W.heap.size:=rfl;(replace fq:=k3.z;replace eZ:=k4.z);(go_wp2_with fail);refine(si _ a A Bf cf K0 _ (hV.o.V.bz HB.o) (by omega) (HF.o.bz HB.o) HV.o hA).mono ?_;rintro e w1 ⟨F,f,G,g,b1,p,rfl,Rc,hl1,hl2,hq,hB1⟩;have E:aJ (eH a 1 A B K0=(yS (bf a A K0).isSome (ib b1 A p B)).map fun x=>[x]):=ax (by rw[FL Bo,Ay hq]);have k41:=k4.nz hB1;have k61:=k6.nz hB1;have HB1:=bF HB hB1;have hz1:=hB1.size;have wu:=ax Rc;have hl3:b1.facts.length<=12:=by omega
 have hl4:b1.atoms.length<=6:=by omega
 clear hl1 hl2 hB1 Rc hq k3 k4 k6 fq eZ HB;generalize (bf a A K0).isSome=q at E⊢;clear Bo;(replace Fz:=k41.z);(go_upto_region 5 with fail);clear Fz;have k10:ae (w1.alloc (.cells #[.slice F b1.facts.length f,.slice G b1.atoms.length g] aC)) w1.heap.size aC #[.slice F b1.facts.length f,.slice G b1.atoms.length g]:=ae.new _ _ _;have hbq:Below w1.heap.size w1 (w1.alloc (.cells #[.slice F b1.facts.length f,.slice G b1.atoms.length g] aC)):=ai aU _;replace k41:=k41.nz hbq;replace k61:=k61.nz hbq;replace HB1:=bF HB1 hbq;replace wu:=ax (wu.o.bz hbq);have Mc:=hbq.size;clear hbq;generalize (w1.alloc (.cells #[.slice F b1.facts.length f,.slice G b1.atoms.length g] aC))=V at k10 k41 k61 HB1 wu Mc⊢;obtain⟨y,hy⟩:∃y,y=w1.heap.size:=⟨_,rfl⟩;rw[<-hy] at k10 wu⊢;have OL:w.heap.size+3<=y:=by omega
 have hyV:y<=V.heap.size:=by omega
 clear hy Mc;refine lS (S:=(fun w'=>(∀i,w'.cell? ⟨y,i,none⟩=#[.slice F b1.facts.length f,.slice G b1.atoms.length g][i]?)/\(∀i,w'.cell? ⟨w.heap.size+1,i,none⟩=#[.int .i64 1,.int .i64 A,.int .i64 B,.bool t.eq,.int .i64 t.a,.int .i64 t.b,.slice X1 n1 d1,.slice X2 n2 d2,.slice X3 n3 d3,.slice X4 n4 d4][i]?))) (⟨k10.drew.cell,k41.drew.cell⟩) fun aH=>?_;refine jQ 0 1 2 3 4 ?_;refine O7 5 6 7 10 ?_;refine aX 8 rfl fun K hK=>?_;(try simp only[zz]);(go_simp;refine(oK B A p _).mono ?_;rintro e w2 ⟨rfl,rfl⟩);refine hK.out _ _ (⟨k10.drew.cell,k41.drew.cell⟩) ?_;clear aH hK K;intro aH;refine aX 9 rfl fun K hK=>?_;(try simp only[zz]);(go_simp;refine(wT _ b1 A (swp A p B) _ (wu.o.bz aU.drew) (by omega)).mono ?_;rintro e w2 ⟨F2,f2,G2,g2,rfl,oX,hB2⟩;replace hB2:Below V.heap.size V w2:=aU.drew.trans hB2;have k102:=k10.nz hB2;have k42:=k41.nz hB2;have k62:=k61.nz hB2;have HB2:=bF HB1 hB2;have hz2:=hB2.size;have OX:=ax (oX.bq (base':=w.heap.size) (by show w.heap.size<=V.heap.size;omega));clear hB2 oX);refine hK.out _ _ (⟨k102.cell,k42.cell⟩) ?_;clear aH hK K;intro aH;(try simp only[zz]);have l62:=k62.lt;have q62:=k62.cell;have r62:=k62.frozen;refine aX 11 rfl fun K hK=>?_;(try simp only[zz]);go_simp;refine hK.out _ _ (⟨((k102.fz (w.heap.size+1+1) 0 _).fz (w.heap.size+1+1) 1 _).cell,((k42.fz (w.heap.size+1+1) 0 _).fz (w.heap.size+1+1) 1 _).cell⟩) ?_;clear aH hK K;intro aH;refine jh 12 ?_;refine jP ?_;(go_wp2_with fail);have z6:=((k62.ag 0 (.slice F2 (b1.facts.length+1) f2)).ag 1 (.slice G2 b1.atoms.length g2)).cell;have EL:(ib b1 A p B).facts.length=b1.facts.length+1/\(ib b1 A p B).atoms.length=b1.atoms.length:=⟨by simp[ib],rfl⟩;refine bodyPost_ret (v:=.tuple #[.agg #[.slice F2 (b1.facts.length+1) f2,.slice G2 b1.atoms.length g2],.bool q]) (by simp[results,Tryz.results109,go_sem,z6]) rfl ⟨F2,f2,G2,g2,ib b1 A p B,q,by rw[EL.1,EL.2],?_,by rw[EL.1];omega,by rw[EL.2];omega,E.o,?_⟩
 ·rw[EL.1,EL.2];exact aI.lJ (a:=ib b1 A p B) OX.o k62 _ _
 ·exact iq (iq HB2.o (w.heap.size+1+1) 0 _) (w.heap.size+1+1) 1 _
theorem Wh{lo hi bJ hi':Nat}(v:Value)(a:au)(A B:Int)(t:aF)(X1 X2 X3 X4:Option Addr)(n1 n2 n3 n4 d1 d2 d3 d4:Nat)(Bf:Option Addr)(cf K0:Nat)(w:World)(h:eB w lo hi v a)(hhi:hi<=w.heap.size)(hv:a.valid=true)(h':bB w bJ hi' Bf (zj K0))(hA:jq A=true) :
  Calls Tryz.prog 109 #[v,.agg #[.int .i64 4,.int .i64 A,.int .i64 B,.bool t.eq,.int .i64 t.a,.int .i64 t.b,.slice X1 n1 d1,.slice X2 n2 d2,.slice X3 n3 d3,.slice X4 n4 d4],.slice Bf 9 cf] w fun e w'=>∃F f G g b q,e=.returned (.tuple #[.agg #[.slice F b.facts.length f,.slice G b.atoms.length g],.bool q])/\aI w' w.heap.size (.agg #[.slice F b.facts.length f,.slice G b.atoms.length g]) b/\b.facts.length<=1000/\b.atoms.length<=1000/\eH a 4 A B K0=((yS q b).map fun x=>[x])/\Below w.heap.size w w':=by
 have hV:=ax h;have HV:=ax hv;have HF:=ax h';have hvl:=tT hv;obtain⟨A1,c1,A2,c2,rfl,-⟩:=h;clear h' hv;(go_enter Tryz.func109,Tryz.ntmps109);(go_upto_region 1 with fail);refine Ro (w:=w) (F:=Code.wp _ _ _ _) ?_;rintro W k3 k4 k6 HB hz;replace HB:=ax HB;have hdz:W.drew.heap.size=W.heap.size:=rfl;(replace fq:=k3.z;replace eZ:=k4.z);(go_wp2_with fail);refine(si _ a A Bf cf K0 _ (hV.o.V.bz HB.o) (by omega) (HF.o.bz HB.o) HV.o hA).mono ?_;rintro e w1 ⟨F,f,G,g,b1,p,rfl,Rc,hl1,hl2,hq,hB1⟩;have E:aJ (eH a 4 A B K0=(yS (bf a A K0).isSome (gL b1 A)).map fun x=>[x]):=ax (by rw[FM,NG hq]);have k41:=k4.nz hB1;have k61:=k6.nz hB1;have HB1:=bF HB hB1;have hz1:=hB1.size;have wu:=ax Rc;have hl3:b1.facts.length<=12:=by omega
 have hl4:b1.atoms.length<=6:=by omega
 clear hl1 hl2 hB1 Rc hq k3 k4 k6 fq eZ HB;generalize (bf a A K0).isSome=q at E⊢;(replace Fz:=k41.z);(go_upto_region 4 with fail);clear Fz;have k10:ae (w1.alloc (.cells #[.slice F b1.facts.length f,.slice G b1.atoms.length g] aC)) w1.heap.size aC #[.slice F b1.facts.length f,.slice G b1.atoms.length g]:=ae.new _ _ _;have hbq:Below w1.heap.size w1 (w1.alloc (.cells #[.slice F b1.facts.length f,.slice G b1.atoms.length g] aC)):=ai aU _;replace k41:=k41.nz hbq;replace k61:=k61.nz hbq;replace HB1:=bF HB1 hbq;replace wu:=ax (wu.o.bz hbq);have Mc:=hbq.size;clear hbq;generalize (w1.alloc (.cells #[.slice F b1.facts.length f,.slice G b1.atoms.length g] aC))=V at k10 k41 k61 HB1 wu Mc⊢;obtain⟨y,hy⟩:∃y,y=w1.heap.size:=⟨_,rfl⟩;rw[<-hy] at k10 wu⊢;have OL:w.heap.size+3<=y:=by omega
 have hyV:y<=V.heap.size:=by omega
 clear hy Mc;(replace DU:=k10.z;replace Fz:=k41.z);(go_wp2_with fail);have kn:ae (V.alloc (.cells #[.int .i64 1,.int .i64 A,.int .i64 0] tA)) V.heap.size tA #[.int .i64 1,.int .i64 A,.int .i64 0]:=ae.new _ _ _;obtain⟨hVF,hVA⟩:=wu.o.parts;refine(jv (lo:=0) (hi:=V.heap.size+1) (bJ:=0) (hi':=y) _ _ ⟨b1.facts,[⟨1,A,0⟩]⟩ ⟨[],b1.atoms⟩ _ ⟨F,f,_,1,rfl,(hVF.bz (ai aU _)).mono bn (by omega),(aB.one (f:=⟨1,A,0⟩) kn).mono dJ bn⟩ ⟨none,0,G,g,rfl,Rd.nil _ _ _ _ _,hVA.bz (ai aU _)⟩ (by simp;omega) (by simp;omega)).mono ?_;rintro e w2 ⟨r,rfl,oS,hB2⟩;have hbx:Below V.heap.size V (V.alloc (.cells #[.int .i64 1,.int .i64 A,.int .i64 0] tA)):=ai aU _;have eS:jU ⟨b1.facts,[⟨1,A,0⟩]⟩ ⟨[],b1.atoms⟩=gL b1 A:=by simp[jU,gL]
 rw[eS] at oS;obtain⟨F2,f2,G2,g2,rfl⟩:=oS.I.form;replace hB2:Below V.heap.size V w2:=hbx.trans (hB2.mono hbx.size);have k62:=k61.nz hB2;have HB2:=bF HB1 hB2;have hz2:=hB2.size;have OX:=ax (oS.bq (base':=w.heap.size) (by simp;omega));clear hB2 oS hbx kn k10 k41 DU Fz wu hVF hVA eS;(replace qk62:=k62.z);(go_wp2_with fail);have z6:=((k62.ag 0 (.slice F2 (gL b1 A).facts.length f2)).ag 1 (.slice G2 (gL b1 A).atoms.length g2)).cell;refine bodyPost_ret (v:=.tuple #[.agg #[.slice F2 (gL b1 A).facts.length f2,.slice G2 (gL b1 A).atoms.length g2],.bool q]) (by simp[results,Tryz.results109,go_sem,z6]) rfl ⟨F2,f2,G2,g2,gL b1 A,q,rfl,?_,by show b1.facts.length<=1000;omega,by show b1.atoms.length+1<=1000;omega,E.o,?_⟩
 ·exact aI.lJ OX.o k62 _ _
 ·exact iq (iq HB2.o (w.heap.size+1+1) 0 _) (w.heap.size+1+1) 1 _
theorem AJ(a:au)(t:Int)(Ks:Nat):OpC 0 a t Ks:=by
 intro lo hi bJ hi' v B cB w h hB0 hl1 hl2;have hV:=ax h;obtain⟨A1,c1,A2,c2,rfl,-⟩:=h;have E:aJ (aR 0 a t Ks=none):=rfl;clear hB0;(go_enter Tryz.func110,Tryz.ntmps110);(go_wp2_with fail);refine(vz _ a _ (hV.o.V.bz aj)).mono ?_;rintro e w1 ⟨rfl,hB1⟩;have HB:=ax (aP (w:=w) aj hB1);have hz1:w.heap.size<=w1.heap.size:=HB.o.size;clear hB1;cases hv:a.valid
 all_goals
  clear hv;go_wp2;go_ret2;exact⟨_,[],[],by rw[E.o];rfl,(bg.empty w1 rfl).bq hz1,dJ,.inl E.o,ai HB.o _⟩
theorem AL(n:Nat)(a:au)(t:Int)(Ks:Nat)(hn:n<=6)(HL:∀i x,a.valid=true->iQ a 1 t=none->iQ a 2 t=some i->a.atoms[i]? = some x->x.kind=2->mF a ⟨true,x.a,t⟩=true->UnC n a x i t Ks):OpC (n+1) a t Ks:=by
 intro lo hi bJ hi' v B cB w h hB0 hl1 hl2;rw[show ((n+1:Nat):Int)=(n:Int)+1 from by omega];have hV:=ax h;have PO:=ax hB0;obtain⟨A1,c1,A2,c2,rfl,-,h2,-⟩:=h;have H2:=ax h2;have YZ:=ax HL;have hge:¬((n:Int)+1<1):=by omega
 clear h2 hB0 HL;(go_enter Tryz.func110,Tryz.ntmps110);have k0:ae (w.alloc (.cells #[.slice A1 a.facts.length c1,.slice A2 a.atoms.length c2] aC)) w.heap.size aC #[.slice A1 a.facts.length c1,.slice A2 a.atoms.length c2]:=az;(go_wp2_with fail);refine(vz _ a _ (hV.o.V.bz aj)).mono ?_;rintro e w1 ⟨rfl,hB1⟩;have HB:=ax (aP (w:=w) aj hB1);replace k0:=k0.nz hB1;have hz1:w.heap.size<=w1.heap.size:=HB.o.size;clear hB1;cases hv:a.valid
 ·have E:=ax (qd (n:=n+1) (t:=t) (K:=Ks) hv);clear hv;go_wp2;go_ret2;exact⟨_,[],[],by rw[E.o];rfl,(bg.empty w1 rfl).bq hz1,dJ,.inl E.o,ai HB.o _⟩
 have HV:=ax hv;have hvl:=tT hv;clear hv;(replace bT:=k0.z);(go_wp2_with fail);refine(nP _ a _ (hV.o.V.bz HB.o)).mono ?_;rintro e w2 ⟨rfl,hB2⟩;rw[show (a.valid && !(cases a (dP a 0)).isEmpty)=dE a from rfl];have HB2:=bF HB hB2;replace k0:=k0.nz hB2;have hz2:=HB2.o.size;clear hB2 HB bT;cases hc:dE a
 ·have E:=ax (wO (n:=n) (t:=t) (K:=Ks) HV.o hc);clear hc;go_wp2;go_ret2;exact⟨_,[],[],by rw[E.o];rfl,(bg.empty w2 rfl).bq hz2,dJ,.inr E.o,ai HB2.o _⟩
 have HC:=ax hc;clear hc hz1 hge;(go_wp2_with fail)
 go_loopw [10] (fun i wr=>∃k:Nat,k<=a.atoms.length/\i=.int .i64 k/\aJ (∀j,j<k->jd a 1 t j=false)/\ae wr w.heap.size aC #[.slice A1 a.facts.length c1,.slice A2 a.atoms.length c2]/\aJ (Below w.heap.size w wr)) (fun i _=>a.atoms.length - (intOf i).toNat)
 case atStart=>exact⟨0,dJ,rfl,ax fun j h=>by omega,k0,HB2.o⟩
 case round=>
  clear k0 HB2 hz2;obtain⟨k,hk,rfl,HA,k0,HB⟩:=hrel;have xx:=HB.o.size;by_cases hlt:k<a.atoms.length
  ·obtain⟨b,off,rfl,g0,g1,g2⟩:=(H2.o.bz HB.o).at hlt;have hki:(k:Int)<(a.atoms.length:Int):=by omega
   have HP:aJ (jd a 1 t k=(decide (a.atoms[k].kind=1)&&mF a ⟨true,a.atoms[k].a,t⟩)):=ax (by unfold jd;rw[List.getElem?_eq_getElem hlt]);have Qj:aJ (a.atoms[k]? = some a.atoms[k]):=ax (List.getElem?_eq_getElem hlt);obtain⟨x,hx⟩:∃x,x=a.atoms[k]:=⟨_,rfl⟩;rw[<-hx] at g0 g1 g2 HP Qj;have hbx:Below wr.heap.size wr (wr.alloc (.cells #[.int .i64 x.kind,.int .i64 x.a,.int .i64 x.b] tA)):=ai aU _;have kx:ae (wr.alloc (.cells #[.int .i64 x.kind,.int .i64 x.a,.int .i64 x.b] tA)) wr.heap.size tA #[.int .i64 x.kind,.int .i64 x.a,.int .i64 x.b]:=ae.new _ _ _;have k1:=k0.nz hbx;have HB1:=bF HB hbx;have hzx:(wr.alloc (.cells #[.int .i64 x.kind,.int .i64 x.a,.int .i64 x.b] tA)).heap.size=wr.heap.size+1:=by simp
   clear hx hbx;(replace bT:=k0.z);(go_upto_region 9 with fail);clear bT g0 g1 g2 k0 HB;generalize (wr.alloc (.cells #[.int .i64 x.kind,.int .i64 x.a,.int .i64 x.b] tA))=W at k1 HB1 kx hzx⊢;obtain⟨yx,hyx⟩:∃y,y=wr.heap.size:=⟨_,rfl⟩;rw[<-hyx] at kx hzx xx⊢;have hzy:yx<W.heap.size:=by omega
   clear hyx hzx;(replace fI:=k1.z;replace uk:=kx.z);by_cases hkd:x.kind=1
   case neg=>
    have hkb:(x.kind == 1)=false:=by simpa using hkd
    have HA2:aJ (∀j,j<k+1->jd a 1 t j=false):=ax fun j hj=>by
     by_cases e:j=k
     ·rw[e,HP.o];simp[hkd]
     ·exact HA.o j (by omega)
    clear HA HP hkd;(go_wp2_with fail)
    go_round
    case rel=>exact⟨k+1,by omega,by go_num,HA2,k1,HB1.o⟩
    case measure=>simp[intOf];omega
   have hkb:(x.kind == 1)=true:=by simpa using hkd
   have XH:=ax hkd;clear hkd;(go_wp2_with fail);refine(Am _ a x.a t _ (hV.o.V.bz HB1.o)).mono ?_;rintro e w3 ⟨rfl,hB3⟩;replace k1:=k1.nz hB3;replace kx:=kx.nz hB3;have HB3:=bF HB1 hB3;have hz3:=hB3.size;clear hB3 fI uk HB1 hkb;cases him:mF a ⟨true,x.a,t⟩
   ·have HA2:aJ (∀j,j<k+1->jd a 1 t j=false):=ax fun j hj=>by
     by_cases e:j=k
     ·rw[e,HP.o,him];simp
     ·exact HA.o j (by omega)
    clear HA HP him;(go_wp2_with fail)
    go_round
    case rel=>exact⟨k+1,by omega,by go_num,HA2,k1,HB3.o⟩
    case measure=>simp[intOf];omega
   have Uv:=ax (sO hlt HA.o (by rw[HP.o,him,XH.o];rfl));have E:=ax (rT (n:=n) (K:=Ks) HV.o HC.o Uv.o Qj.o);clear HA HP him Uv Qj;have hwl:=ja hlt;have HLT:=ax hlt;(replace fI:=k1.z;replace uk:=kx.z);(go_wp2_with fail);refine(Ao _ a ⟨1,t,x.b⟩ k _ (hV.o.V.bz HB3.o) HV.o HLT.o).mono ?_;rintro e w4 ⟨F,d,G,g,rfl,oF,hB4⟩;have OF:=ax oF;replace kx:=kx.nz hB4;have mJ:=bF HB3 hB4;have Dp:=hB4.size;clear oF hB4 fI uk HB3 k1;(replace uk:=kx.z);(go_upto_region 11 with fail);have hbq:=ai (Below.refl w4.heap.size w4) (.cells #[.slice F a.facts.length d,.slice G a.atoms.length g] aC);have ko:ae (w4.alloc (.cells #[.slice F a.facts.length d,.slice G a.atoms.length g] aC)) w4.heap.size aC #[.slice F a.facts.length d,.slice G a.atoms.length g]:=ae.new _ _ _;replace kx:=kx.nz hbq;replace OF:=ax (OF.o.bz hbq);replace mJ:=bF mJ hbq;have Wi:w4.heap.size<(w4.alloc (.cells #[.slice F a.facts.length d,.slice G a.atoms.length g] aC)).heap.size:=by simp
   clear hbq uk;generalize (w4.alloc (.cells #[.slice F a.facts.length d,.slice G a.atoms.length g] aC))=W4 at ko kx OF mJ Wi⊢;obtain⟨yo,hyo⟩:∃y,y=w4.heap.size:=⟨_,rfl⟩;rw[<-hyo] at ko Wi Dp⊢;clear hyo;(replace Kz:=ko.z;replace uk:=kx.z);by_cases hxt:x.a=t
   ·have hb:(x.a != t)=false:=by simpa using hxt
    have KW:aJ (cZ a x k t=⟨a.facts,[⟨1,t,x.b⟩]++zv a.atoms k⟩):=ax (by unfold cZ;rw[if_pos hxt,List.append_nil];rfl);have OX:aJ (aI W4 w.heap.size (.agg #[.slice F a.facts.length d,.slice G a.atoms.length g]) (cZ a x k t)):=ax (by rw[KW.o];exact OF.o.bq);have hlf:a.facts.length<=1000:=by omega
    clear hxt KW OF kx;generalize a.facts.length=lf at ko OX hlf⊢;(go_upto_region 13 with fail);refine lS (S:=(fun w'=>∀i,w'.cell? ⟨yo,i,none⟩=#[.slice F lf d,.slice G a.atoms.length g][i]?)) (ko.drew.cell) fun aH=>?_;have kH:aJ (Below W4.heap.size W4 W4.drew):=ax aU.drew;have df:W4.heap.size<=W4.drew.heap.size:=bn;clear Kz;generalize W4.drew=wq at kH df aH⊢;refine uM 0 2 ?_;refine wB 1 3 rfl rfl (fun K hK=>?_) fun K hK=>?_;(try simp only[zz]);go_simp;refine hK.out _ _ ((ko.nz kH.o).alloc _).cell ?_;clear aH hK K;intro aH;(try simp only[zz]);have aN:Below wq.heap.size wq (wq.alloc (.cells #[.slice F lf d,.slice G a.atoms.length g] aC)):=ai aU _;obtain⟨yA,IX⟩:∃y,y=wq.heap.size:=⟨_,rfl⟩;have S9:W4.heap.size<=yA:=by omega
    replace kH:=ax (kH.o.trans (aN.mono df));replace df:=Nat.le_trans df aN.size;(try replace kA:=kA.nz aN);have kA:ae (wq.alloc (.cells #[.slice F lf d,.slice G a.atoms.length g] aC)) yA aC #[.slice F lf d,.slice G a.atoms.length g]:=ae.dA IX;rw[<-IX];clear aN IX;generalize wq.alloc (.cells #[.slice F lf d,.slice G a.atoms.length g] aC)=wq at*;refine aX 3 rfl fun K hK=>?_
    all_goals
     (try simp only[zz]);go_simp;refine(vz _ (cZ a x k t) _ (OX.o.rj.bz kH.o)).mono ?_;rintro e wq ⟨rfl,aN⟩;replace kH:=ax (kH.o.trans (aN.mono df));replace df:=Nat.le_trans df aN.size;(try replace kA:=kA.nz aN);clear aN;refine hK.out _ _ (ko.nz kH.o).cell ?_;clear aH hK K;intro aH;(try simp only[zz])
    rotate_left
    refine aX 1 rfl fun K hK=>?_;(try simp only[zz]);go_simp;refine hK.out _ _ ((ko.nz kH.o).alloc _).cell ?_;clear aH hK K;intro aH;(try simp only[zz]);have aN:Below wq.heap.size wq (wq.alloc (.cells #[.slice F lf d,.slice G a.atoms.length g] aC)):=ai aU _;obtain⟨yA,IX⟩:∃y,y=wq.heap.size:=⟨_,rfl⟩;have S9:W4.heap.size<=yA:=by omega
    replace kH:=ax (kH.o.trans (aN.mono df));replace df:=Nat.le_trans df aN.size;(try replace kA:=kA.nz aN);have kA:ae (wq.alloc (.cells #[.slice F lf d,.slice G a.atoms.length g] aC)) yA aC #[.slice F lf d,.slice G a.atoms.length g]:=ae.dA IX;rw[<-IX];clear aN IX;generalize wq.alloc (.cells #[.slice F lf d,.slice G a.atoms.length g] aC)=wq at*
    all_goals
     refine uM 4 5 ?_;refine jP ?_;have hzw4:=mJ.o.size;go_wp2;go_ret2;have hA:bg wq w.heap.size (.slice (some ⟨yA,0,none⟩) 1 1) [.slice F lf d,.slice G a.atoms.length g] [cZ a x k t]:=bg.one kA (by omega) (OX.o.bz kH.o);have QW:Below w.heap.size w wq:=aP mJ.o kH.o;have Wj:1<=2 ^ (n+1):=Nat.one_le_two_pow;cases hcv:(cZ a x k t).valid
     ·have E2:aR (n+1) a t Ks=none:=by rw[E.o,hcv];rfl
      exact⟨_,_,_,by rw[E2];rfl,hA,Wj,.inl E2,QW⟩
     ·have E2:aR (n+1) a t Ks=some [cZ a x k t]:=by rw[E.o,hcv];rfl
      exact⟨_,_,_,by rw[E2];rfl,hA,Wj,.inr E2,QW⟩
   ·have hb:(x.a != t)=true:=by simpa using hxt
    have KW:aJ (cZ a x k t=⟨a.facts++[⟨true,x.a,t⟩],[⟨1,t,x.b⟩]++zv a.atoms k⟩):=ax (by unfold cZ;rw[if_neg hxt];rfl);clear hxt;(go_wp2_with fail);have Un:(⟨a.facts,[⟨1,t,x.b⟩]++zv a.atoms k⟩:au).atoms.length=a.atoms.length:=by simp;omega
    have DC:=ax (fun(Z:World) (hz:Below W4.heap.size W4 Z)=>wT _ ⟨a.facts,[⟨1,t,x.b⟩]++zv a.atoms k⟩ x.a t Z (OF.o.rj.bz hz) (by simp only;omega));rw[Un] at DC;refine(DC.o _ aU).mono ?_;rintro e w5 ⟨F5,d5,G5,g5,rfl,o5,bW⟩;have Wk:aJ (aI w5 w.heap.size (.agg #[.slice F5 (a.facts.length+1) d5,.slice G5 a.atoms.length g5]) (cZ a x k t)):=ax (by rw[KW.o];exact o5.bq);have wm:=bF mJ bW;replace ko:=ko.nz bW;have PM:=bW.size;clear DC Un OF o5 bW KW mJ kx Kz uk;(replace Kz:=ko.z);(go_upto_region 13 with fail)
    have XI:ae ((w5.setCell ⟨yo,0,none⟩ (.slice F5 (a.facts.length+1) d5)).setCell ⟨yo,1,none⟩ (.slice G5 a.atoms.length g5)) yo aC #[.slice F5 (a.facts.length+1) d5,.slice G5 a.atoms.length g5]:=by
     have:=(ko.ag 0 (.slice F5 (a.facts.length+1) d5)).ag 1 (.slice G5 a.atoms.length g5);simpa using this
    have VQ:aJ (aI ((w5.setCell ⟨yo,0,none⟩ (.slice F5 (a.facts.length+1) d5)).setCell ⟨yo,1,none⟩ (.slice G5 a.atoms.length g5)) w.heap.size (.agg #[.slice F5 (a.facts.length+1) d5,.slice G5 a.atoms.length g5]) (cZ a x k t)):=ax ⟨_,_,rfl,(Wk.o.parts.1.aA ko (by decide) 0 _).aA (ko.ag 0 _) (by decide) 1 _,(Wk.o.parts.2.aA ko (by decide) 0 _).aA (ko.ag 0 _) (by decide) 1 _⟩;have qY:aJ (Below w.heap.size w ((w5.setCell ⟨yo,0,none⟩ (.slice F5 (a.facts.length+1) d5)).setCell ⟨yo,1,none⟩ (.slice G5 a.atoms.length g5))):=ax (iq (iq wm.o yo 0 _) yo 1 _);have Ta:yo<((w5.setCell ⟨yo,0,none⟩ (.slice F5 (a.facts.length+1) d5)).setCell ⟨yo,1,none⟩ (.slice G5 a.atoms.length g5)).heap.size:=XI.lt;clear ko Wk wm PM Wi Kz;generalize ((w5.setCell ⟨yo,0,none⟩ (.slice F5 (a.facts.length+1) d5)).setCell ⟨yo,1,none⟩ (.slice G5 a.atoms.length g5))=W5 at XI VQ qY Ta⊢;have ko:=XI;have OX:=VQ;have mJ:=qY;have Wi:=Ta;have hlf:a.facts.length+1<=1000:=by omega
    clear XI VQ qY Ta;generalize W5=W4 at ko OX mJ Wi⊢;generalize F5=F at ko OX⊢;generalize d5=d at ko OX⊢;generalize G5=G at ko OX⊢;generalize g5=g at ko OX⊢;generalize a.facts.length+1=lf at ko OX hlf⊢;(replace Kz:=ko.z);refine lS (S:=(fun w'=>∀i,w'.cell? ⟨yo,i,none⟩=#[.slice F lf d,.slice G a.atoms.length g][i]?)) (ko.drew.cell) fun aH=>?_;have kH:aJ (Below W4.heap.size W4 W4.drew):=ax aU.drew;have df:W4.heap.size<=W4.drew.heap.size:=bn;clear Kz;generalize W4.drew=wq at kH df aH⊢;refine uM 0 2 ?_;refine wB 1 3 rfl rfl (fun K hK=>?_) fun K hK=>?_;(try simp only[zz]);go_simp;refine hK.out _ _ ((ko.nz kH.o).alloc _).cell ?_;clear aH hK K;intro aH;(try simp only[zz]);have aN:Below wq.heap.size wq (wq.alloc (.cells #[.slice F lf d,.slice G a.atoms.length g] aC)):=ai aU _;obtain⟨yA,IX⟩:∃y,y=wq.heap.size:=⟨_,rfl⟩;have S9:W4.heap.size<=yA:=by omega
    replace kH:=ax (kH.o.trans (aN.mono df));replace df:=Nat.le_trans df aN.size;(try replace kA:=kA.nz aN);have kA:ae (wq.alloc (.cells #[.slice F lf d,.slice G a.atoms.length g] aC)) yA aC #[.slice F lf d,.slice G a.atoms.length g]:=ae.dA IX;rw[<-IX];clear aN IX;generalize wq.alloc (.cells #[.slice F lf d,.slice G a.atoms.length g] aC)=wq at*;refine aX 3 rfl fun K hK=>?_
    all_goals
     (try simp only[zz]);go_simp;refine(vz _ (cZ a x k t) _ (OX.o.rj.bz kH.o)).mono ?_;rintro e wq ⟨rfl,aN⟩;replace kH:=ax (kH.o.trans (aN.mono df));replace df:=Nat.le_trans df aN.size;(try replace kA:=kA.nz aN);clear aN;refine hK.out _ _ (ko.nz kH.o).cell ?_;clear aH hK K;intro aH;(try simp only[zz])
    rotate_left
    refine aX 1 rfl fun K hK=>?_;(try simp only[zz]);go_simp;refine hK.out _ _ ((ko.nz kH.o).alloc _).cell ?_;clear aH hK K;intro aH;(try simp only[zz]);have aN:Below wq.heap.size wq (wq.alloc (.cells #[.slice F lf d,.slice G a.atoms.length g] aC)):=ai aU _;obtain⟨yA,IX⟩:∃y,y=wq.heap.size:=⟨_,rfl⟩;have S9:W4.heap.size<=yA:=by omega
    replace kH:=ax (kH.o.trans (aN.mono df));replace df:=Nat.le_trans df aN.size;(try replace kA:=kA.nz aN);have kA:ae (wq.alloc (.cells #[.slice F lf d,.slice G a.atoms.length g] aC)) yA aC #[.slice F lf d,.slice G a.atoms.length g]:=ae.dA IX;rw[<-IX];clear aN IX;generalize wq.alloc (.cells #[.slice F lf d,.slice G a.atoms.length g] aC)=wq at*
    all_goals
     refine uM 4 5 ?_;refine jP ?_;have hzw4:=mJ.o.size;go_wp2;go_ret2;have hA:bg wq w.heap.size (.slice (some ⟨yA,0,none⟩) 1 1) [.slice F lf d,.slice G a.atoms.length g] [cZ a x k t]:=bg.one kA (by omega) (OX.o.bz kH.o);have QW:Below w.heap.size w wq:=aP mJ.o kH.o;have Wj:1<=2 ^ (n+1):=Nat.one_le_two_pow;cases hcv:(cZ a x k t).valid
     ·have E2:aR (n+1) a t Ks=none:=by rw[E.o,hcv];rfl
      exact⟨_,_,_,by rw[E2];rfl,hA,Wj,.inl E2,QW⟩
     ·have E2:aR (n+1) a t Ks=some [cZ a x k t]:=by rw[E.o,hcv];rfl
      exact⟨_,_,_,by rw[E2];rfl,hA,Wj,.inr E2,QW⟩
  ·obtain rfl:k=a.atoms.length:=by omega
   have uh:=ax (zX (fun j hj=>HA.o j hj));clear HA;(replace bT:=k0.z);(go_wp2_with fail);clear bT
   go_loopw [13] (fun i wr=>∃k:Nat,k<=a.atoms.length/\i=.int .i64 k/\aJ (∀j,j<k->jd a 2 t j=false)/\ae wr w.heap.size aC #[.slice A1 a.facts.length c1,.slice A2 a.atoms.length c2]/\aJ (Below w.heap.size w wr)) (fun i _=>a.atoms.length - (intOf i).toNat)
   case atStart=>exact⟨0,dJ,rfl,ax fun j h=>by omega,k0,HB.o⟩
   case round=>
    clear k0 HB xx;obtain⟨k,hk,rfl,HA,k0,HB⟩:=hrel;have xx:=HB.o.size;by_cases hlt:k<a.atoms.length
    ·obtain⟨b,off,rfl,g0,g1,g2⟩:=(H2.o.bz HB.o).at hlt;have hki:(k:Int)<(a.atoms.length:Int):=by omega
     have HP:aJ (jd a 2 t k=(decide (a.atoms[k].kind=2)&&mF a ⟨true,a.atoms[k].a,t⟩)):=ax (by unfold jd;rw[List.getElem?_eq_getElem hlt]);have Qj:aJ (a.atoms[k]? = some a.atoms[k]):=ax (List.getElem?_eq_getElem hlt);obtain⟨x,hx⟩:∃x,x=a.atoms[k]:=⟨_,rfl⟩;rw[<-hx] at g0 g1 g2 HP Qj;have hbl:=block_lt_of_cell g0;simp only at hbl;clear hx g2;(replace bT:=k0.z);by_cases hkd:x.kind=2
     case neg=>
      have hkb:(x.kind == 2)=false:=by simpa using hkd
      have HA2:aJ (∀j,j<k+1->jd a 2 t j=false):=ax fun j hj=>by
       by_cases e:j=k
       ·rw[e,HP.o];simp[hkd]
       ·exact HA.o j (by omega)
      clear HA HP hkd Qj;(go_wp2_with fail);clear bT;refine lS (S:=(fun w'=>(∀i,w'.cell? ⟨w.heap.size,i,none⟩=#[.slice A1 a.facts.length c1,.slice (some ⟨b,off,none⟩) a.atoms.length c2][i]?)/\w'.cell? ⟨b,off+k * 3,none⟩=some (.int .i64 x.kind)/\w'.cell? ⟨b,off+k * 3+1,none⟩=some (.int .i64 x.a))) (⟨k0.drew.cell,g0,g1⟩) fun aH=>?_;refine jQ 0 1 2 3 4 ?_;refine yU 5 6 7 ?_;refine yC 8 rfl aH ?_;(try simp only[zz]);refine yC 9 rfl aH ?_;(try simp only[zz]);refine yC 10 rfl aH ?_;(try simp only[zz]);refine yC 11 rfl aH ?_;(try simp only[zz]);refine yC 12 rfl aH ?_;(try simp only[zz]);refine yC 13 rfl aH ?_;(try simp only[zz]);refine yC 14 rfl aH ?_;(try simp only[zz]);refine yC 15 rfl aH ?_;(try simp only[zz]);refine yC 16 rfl aH ?_;refine jh 17 ?_;refine jP ?_;have k0d:=k0.drew;have HBd:=ax HB.o.drew;clear g0 g1 aH;(go_wp2_with fail)
      go_round
      case rel=>exact⟨k+1,by omega,by go_num,HA2,k0d,HBd.o⟩
      case measure=>simp[intOf];omega
     have hkb:(x.kind == 2)=true:=by simpa using hkd
     have XH:=ax hkd;clear hkd;(go_wp2_with fail);clear bT;refine lS (S:=(fun w'=>(∀i,w'.cell? ⟨w.heap.size,i,none⟩=#[.slice A1 a.facts.length c1,.slice (some ⟨b,off,none⟩) a.atoms.length c2][i]?)/\w'.cell? ⟨b,off+k * 3,none⟩=some (.int .i64 x.kind)/\w'.cell? ⟨b,off+k * 3+1,none⟩=some (.int .i64 x.a))) (⟨k0.drew.cell,g0,g1⟩) fun aH=>?_;refine jQ 0 1 2 3 4 ?_;refine jQ 5 6 7 8 9 ?_;refine jQ 10 11 12 13 14 ?_;refine jh 15 ?_;refine aX 16 rfl fun K hK=>?_;(try simp only[zz]);(go_simp;refine(Am _ a x.a t _ (hV.o.V.bz HB.o.drew)).mono ?_;rintro e w3 ⟨rfl,hB3⟩;replace hB3:Below wr.heap.size wr w3:=aU.drew.trans hB3;have k3:=k0.nz hB3;have HB3:=bF HB hB3;have q0:=(hB3.cell (p:=⟨b,off+k * 3,none⟩) hbl).trans g0;have q1:=(hB3.cell (p:=⟨b,off+k * 3+1,none⟩) hbl).trans g1);refine hK.out _ _ (⟨k3.cell,q0,q1⟩) ?_;clear aH hK K;intro aH;refine jh 17 ?_;refine jP ?_;have hz3:=hB3.size;clear hB3 k0 HB hkb aH g0 g1 q0 q1;cases him:mF a ⟨true,x.a,t⟩
     ·have HA2:aJ (∀j,j<k+1->jd a 2 t j=false):=ax fun j hj=>by
       by_cases e:j=k
       ·rw[e,HP.o,him];simp
       ·exact HA.o j (by omega)
      clear HA HP him;(go_wp2_with fail)
      go_round
      case rel=>exact⟨k+1,by omega,by go_num,HA2,k3,HB3.o⟩
      case measure=>simp[intOf];omega
     have Uv:=ax (sO hlt HA.o (by rw[HP.o,him,XH.o];rfl));have E:=ax (rV (n:=n) (K:=Ks) HV.o HC.o uh.o Uv.o Qj.o);have HUN:=ax (YZ.o k x HV.o uh.o Uv.o Qj.o XH.o him);clear HA HP him Uv Qj;(replace fq:=k3.z);(go_wp2_with fail);refine(HUN.o lo hi bJ hi' _ B cB _ (hV.o.bz HB3.o) (PO.o.bz HB3.o)).mono ?_;rintro e w4 ⟨r,vs,l,rfl,oR,hll,hRR,hB4⟩;have OR:=ax oR;obtain⟨R1,r1,rfl⟩:=oR.form;have HLL4:=ax hll;have HRR:=ax hRR;have mJ:=bF HB3 hB4;have Dp:=hB4.size;clear oR hll hRR hB4;go_wp2;go_ret2;exact⟨_,vs,l,by rw[E.o];rfl,OR.o.bq,HLL4.o,by rw[E.o];exact HRR.o,mJ.o⟩
    ·obtain rfl:k=a.atoms.length:=by omega
     have E:=ax (rU (n:=n) (K:=Ks) HV.o HC.o uh.o (zX (fun j hj=>HA.o j hj)));clear HA;(replace bT:=k0.z);go_wp2;go_ret2;exact⟨_,[],[],by rw[E.o];rfl,(bg.empty wr rfl).bq xx,dJ,.inl E.o,ai HB.o _⟩
theorem wW:∀(n:Nat),n<=7->∀(a:au) (t:Int) (K:Nat),OpC n a t K
 | 0,_,a,t,K=>AJ a t K
 | n+1,hn,a,t,K=>AL n a t K (by omega) fun i x hv _ _ hx _ _=>FD n a x i t K hv hx (by omega) (wW n (by omega) _ t K) fun m=>wW n (by omega) _ t K
theorem bX.DW{w:World}{base:Nat}{A:Option Addr}{n c:Nat}{fs:List Bool}(h:bX w base (.slice A n c) fs):bB w base w.heap.size A fs:=by
 obtain⟨A',c',e,h1⟩:=h.rj;injection e with e1 e2 e3;subst e1;exact h1
end
section
open Go Go.RowKit Go.Proofs
theorem su(k a b:Int)(t:aF)(i:au)(A1 A2 A3 A4:Option Addr)(c1 c2 c3 c4:Nat)(body els:ay)(w:World)(h1:i.facts.length<=1049600)(h2:i.atoms.length<=1049600)(h3:body.len<=1049600)(h4:els.len<=1049600) :
  Calls Tryz.prog 80 #[.agg #[.int .i64 k,.int .i64 a,.int .i64 b,.bool t.eq,.int .i64 t.a,.int .i64 t.b,.slice A1 i.facts.length c1,.slice A2 i.atoms.length c2,.slice A3 body.len c3,.slice A4 els.len c4]] w fun e w'=>e=.returned (.bool (iC t i body els&&fieldsB k a b))/\Below w.heap.size w w':=by
 cases hn:iC t i body els
 ·exact vD k a b t i A1 A2 A3 A4 c1 c2 c3 c4 body els w h1 h2 h3 h4 hn
 ·exact uz k a b t i A1 A2 A3 A4 c1 c2 c3 c4 body els w h1 h2 hn
theorem and4{R F x y z:Bool}(h:R=(F&&(x&&(y&&z)))):(F=false->R=false)/\(x=false->R=false)/\(y=false->R=false)/\(F=true->x=true->y=true->R=z):=by
 subst h;cases F<;>cases x<;>cases y<;>simp
theorem IY:∀(N:Nat) (L:ay),L.sz<N->∀(A:Option Addr) (c d lo hi:Nat) (w:World),bH w lo hi A L->L.len<=1049600->L.small 1049600->d<=4->
  Calls Tryz.prog 52 #[.slice A L.len c,.int .i64 d] w fun e w'=>e=.returned (.bool (L.shape d))/\Below w.heap.size w w':=by
 intro N
 induction N with
 | zero=>intro L h;omega
 | succ N IH=>
  intro L hsz A c d lo hi w hV hlen hsm hd;replace IH:=ax IH;replace hV:=ax hV;replace hsm:=ax hsm;replace hsz:=ax hsz;obtain⟨n,hn⟩:∃n,n=L.len:=⟨_,rfl⟩;obtain⟨R,hR⟩:∃R,R=L.shape d:=⟨_,rfl⟩;rw[<-hn,<-hR];rw[<-hn] at hlen;replace hn:=ax hn;replace hR:=ax hR;rcases Nat.eq_zero_or_pos d with rfl|hd0
  ·by_cases q1:0<n
   ·(go_enter Tryz.func52,Tryz.ntmps52);go_wp2;go_ret;refine⟨dz ?_,aj⟩;rw[hR.o];obtain⟨k,a,b,t,i,body,els,r,eL⟩:=ay.dF (L:=L) (by rw[<-hn.o];exact q1);rw[eL];rfl
   ·obtain rfl:n=0:=by omega
    have e0:R=true:=by
     rw[hR.o]
     have e1:L=.nil:=by
      have:=hn.o
      cases L with
      | nil=>rfl
      | cons=>simp[ay.len] at this
     rw[e1];rfl
    replace e0:=ax e0;(go_enter Tryz.func52,Tryz.ntmps52);(go_wp2_with fail)
    go_loopw [5] (fun x wr=>x=.int .i64 0/\Below w.heap.size w wr) (fun _ _=>0)
    case atStart=>exact⟨rfl,aj⟩
    case round=>
     obtain⟨rfl,hB⟩:=hrel;go_wp2;go_ret;exact⟨dz e0.o.symm,hB⟩
  obtain⟨d,rfl⟩:∃e,d=e+1:=⟨d - 1,by omega⟩;clear hd0;(go_enter Tryz.func52,Tryz.ntmps52);(go_wp2_with fail)
  go_loopw [5] (fun x wr=>∃j:Nat,j<=n/\x=.int .i64 j/\aJ (R=(L.drop j).shape (d+1))/\Below w.heap.size w wr) (fun x _=>n - (intOf x).toNat)
  case atStart=>exact⟨0,dJ,rfl,hR,aj⟩
  case round=>
   obtain⟨j,hj,rfl,HR,hB⟩:=hrel;by_cases hlt:j<n
   ·have hpos:0<(L.drop j).len:=by rw[ay.iT,<-hn.o];omega
    obtain⟨k,a,b,t,i,body,els,r,eL⟩:=ay.dF hpos;obtain⟨bl,o,rfl,-,-,hAt⟩:=(hV.o.bz hB) (by rw[<-hn.o];omega);have hD:=hAt.drop j;have hS:=ay.fG j hsm.o;have hZ:=ay.kv j L;have hDs:=ay.ik j L eL;have iU:=HR.o;rw[eL] at hD hS hZ iU;obtain⟨⟨p0,p1,p2,p3,p4,p5⟩,⟨A6,c6,p6,g6⟩,⟨A7,c7,p7,g7⟩,⟨A8,c8,p8,g8⟩,⟨A9,c9,p9,g9⟩,-⟩:=hD;obtain⟨s1,s2,s3,s4,s5,s6,-⟩:=hS;simp only[ay.sz] at hZ;have hbs:body.sz<N:=by have:=hsz.o;omega
    have hes:els.sz<N:=by have:=hsz.o;omega
    have gA:aJ (aM wr lo hi (.agg #[.slice A6 i.facts.length c6,.slice A7 i.atoms.length c7]) i):=⟨_,_,_,_,rfl,⟨g6,s1⟩,⟨g7,s2⟩⟩;have gB:aJ (bH wr lo hi A8 body):=g8;have gE:aJ (bH wr lo hi A9 els):=g9;rw[ay.shape,decide_eq_true (by omega),Bool.true_and,Nat.add_sub_cancel,<-hDs] at iU;obtain⟨F,hF⟩:∃F,F=dK k a b t i body els:=⟨_,rfl⟩;obtain⟨x1,hx1⟩:∃x,x=body.shape d:=⟨_,rfl⟩;obtain⟨x2,hx2⟩:∃x,x=els.shape d:=⟨_,rfl⟩;rw[<-hF,<-hx1,<-hx2] at iU;obtain⟨z1,z2,z3,z4⟩:=and4 iU;replace z1:=ax z1;replace z2:=ax z2;replace z3:=ax z3;replace z4:=ax z4;replace hF:=ax hF;replace hx1:=ax hx1;replace hx2:=ax hx2;replace hbs:=ax hbs;replace hes:=ax hes;replace s5:=ax s5;replace s6:=ax s6;obtain⟨tv,Fx⟩:∃x,x=t.valid:=⟨_,rfl⟩;obtain⟨ni,hni⟩:∃x,x=kI i:=⟨_,rfl⟩;obtain⟨iv,Fy⟩:∃x,x=i.valid:=⟨_,rfl⟩;obtain⟨pf,G6⟩:∃x,x=(iC t i body els&&fieldsB k a b):=⟨_,rfl⟩;replace Fx:=ax Fx;replace hni:=ax hni;replace Fy:=ax Fy;replace G6:=ax G6;clear hZ hpos hAt g6 g7 g8 g9 HR iU hDs eL;by_cases k6:k=6
    ·subst k6;by_cases a0:a=0
     case neg=>
      go_wp2;go_ret;exact⟨dz (z1.o (hF.o.trans (by unfold dK;rw[if_pos rfl];simp[a0]))).symm,(ai hB _)⟩
     subst a0;by_cases b0:b=0
     case neg=>
      go_wp2;go_ret;exact⟨dz (z1.o (hF.o.trans (by unfold dK;rw[if_pos rfl];simp[b0]))).symm,(ai hB _)⟩
     subst b0;(go_wp2_with fail);refine(iY t _).mono ?_;rintro e w1 ⟨rfl,hBx⟩;rw[<-Fx.o];have hB2:Below w.heap.size w w1:=aP (ai hB _) hBx;have k0:ae w1 wr.heap.size tC #[.int .i64 6,.int .i64 0,.int .i64 0,.bool t.eq,.int .i64 t.a,.int .i64 t.b,.slice A6 i.facts.length c6,.slice A7 i.atoms.length c7,.slice A8 body.len c8,.slice A9 els.len c9]:=ae.nz az hBx;have q0:=k0.cell;have l0:=k0.lt;have hW:Below wr.heap.size wr w1:=aP (ai aU _) hBx;clear hBx;cases tv
     case false=>
      go_wp2;go_ret;exact⟨dz (z1.o (hF.o.trans (by unfold dK;rw[if_pos rfl];simp[<-Fx.o]))).symm,hB2⟩
     (go_wp2_with fail);refine(ng A6 A7 c6 c7 i _ s1 s2).mono ?_;rintro e w2 ⟨rfl,hBx⟩;rw[<-hni.o];replace hB2:=aP hB2 hBx;replace k0:=k0.nz hBx;replace q0:=k0.cell;replace l0:=k0.lt;replace hW:=aP hW hBx;clear hBx;cases ni
     case false=>
      go_wp2;go_ret;exact⟨dz (z1.o (hF.o.trans (by unfold dK;rw[if_pos rfl];simp[<-hni.o]))).symm,hB2⟩
     have Wl:=ax (show F=true from hF.o.trans (by unfold dK;rw[if_pos rfl];simp[<-hni.o,<-Fx.o]));(go_wp2_with fail);refine(IH.o body hbs.o A8 c8 d lo hi _ (gB.o.bz hW) s3 s5.o (by omega)).mono ?_;rintro e w8 ⟨rfl,hBx⟩;rw[<-hx1.o];replace hB2:=aP hB2 hBx;replace k0:=k0.nz hBx;replace q0:=k0.cell;replace l0:=k0.lt;replace hW:=aP hW hBx;clear hBx;cases x1
     ·go_wp2;go_ret;exact⟨dz (z2.o (by simp)).symm,hB2⟩
     (go_wp2_with fail);refine(IH.o els hes.o A9 c9 d lo hi _ (gE.o.bz hW) s4 s6.o (by omega)).mono ?_;rintro e w9 ⟨rfl,hBx⟩;rw[<-hx2.o];replace hB2:=aP hB2 hBx;replace k0:=k0.nz hBx;replace q0:=k0.cell;replace l0:=k0.lt;clear hBx hW;cases x2
     ·go_wp2;go_ret;exact⟨dz (z3.o (by simp)).symm,hB2⟩
     go_wp2_with fail
     go_round
     case rel=>exact⟨j+1,by omega,by go_num,ax (z4.o Wl.o (by simp) (by simp)),hB2⟩
     case measure=>simp[intOf];omega
    by_cases k7:k=7
    ·subst k7;by_cases a0:a=0
     case neg=>
      go_wp2;go_ret;exact⟨dz (z1.o (hF.o.trans (by unfold dK;rw[if_neg (by decide),if_pos rfl];simp[a0]))).symm,(ai hB _)⟩
     subst a0;by_cases b0:b=0
     case neg=>
      go_wp2;go_ret;exact⟨dz (z1.o (hF.o.trans (by unfold dK;rw[if_neg (by decide),if_pos rfl];simp[b0]))).symm,(ai hB _)⟩
     subst b0;(go_wp2_with fail);refine(iY t _).mono ?_;rintro e w4 ⟨rfl,hBx⟩;rw[<-Fx.o];have hB2:Below w.heap.size w w4:=aP (ai hB _) hBx;have k0:ae w4 wr.heap.size tC #[.int .i64 7,.int .i64 0,.int .i64 0,.bool t.eq,.int .i64 t.a,.int .i64 t.b,.slice A6 i.facts.length c6,.slice A7 i.atoms.length c7,.slice A8 body.len c8,.slice A9 els.len c9]:=ae.nz az hBx;have q0:=k0.cell;have l0:=k0.lt;have hW:Below wr.heap.size wr w4:=aP (ai aU _) hBx;clear hBx;cases tv
     case false=>
      go_wp2;go_ret;exact⟨dz (z1.o (hF.o.trans (by unfold dK;rw[if_neg (by decide),if_pos rfl];simp[<-Fx.o]))).symm,hB2⟩
     (go_wp2_with fail);refine(vz _ i _ (gA.o.bz hW)).mono ?_;rintro e w5 ⟨rfl,hBx⟩;rw[<-Fy.o];replace hB2:=aP hB2 hBx;replace k0:=k0.nz hBx;replace q0:=k0.cell;replace l0:=k0.lt;replace hW:=aP hW hBx;clear hBx;cases iv
     case false=>
      go_wp2;go_ret;exact⟨dz (z1.o (hF.o.trans (by unfold dK;rw[if_neg (by decide),if_pos rfl];simp[<-Fy.o]))).symm,hB2⟩
     by_cases e0:els.len=0
     case neg=>
      have e1:0<els.len:=by omega
      go_wp2;go_ret;exact⟨dz (z1.o (hF.o.trans (by unfold dK;rw[if_neg (by decide),if_pos rfl];simp[e0]))).symm,hB2⟩
     have HFt0:=ax (show F=true from hF.o.trans (by unfold dK;rw[if_neg (by decide),if_pos rfl];simp[<-Fy.o,<-Fx.o,e0]));have HI2:aJ (∀(w:World),bH w lo hi A9 els->Calls Tryz.prog 52 #[.slice A9 0 c9,.int .i64 d] w fun e w'=>e=.returned (.bool (els.shape d))/\Below w.heap.size w w'):=fun w h=>by have h2:=IH.o els hes.o A9 c9 d lo hi w h s4 s6.o (by omega);rwa [e0] at h2
     rw[e0] at k0 q0;have Ex:=ax e0;clear e0;have Wl:=ax (HFt0.o);(go_wp2_with fail);refine(IH.o body hbs.o A8 c8 d lo hi _ (gB.o.bz hW) s3 s5.o (by omega)).mono ?_;rintro e w8 ⟨rfl,hBx⟩;rw[<-hx1.o];replace hB2:=aP hB2 hBx;replace k0:=k0.nz hBx;replace q0:=k0.cell;replace l0:=k0.lt;replace hW:=aP hW hBx;clear hBx;cases x1
     ·go_wp2;go_ret;exact⟨dz (z2.o (by simp)).symm,hB2⟩
     (go_wp2_with fail);refine(HI2.o _ (gE.o.bz hW)).mono ?_;rintro e w9 ⟨rfl,hBx⟩;rw[<-hx2.o];replace hB2:=aP hB2 hBx;replace k0:=k0.nz hBx;replace q0:=k0.cell;replace l0:=k0.lt;clear hBx hW;cases x2
     ·go_wp2;go_ret;exact⟨dz (z3.o (by simp)).symm,hB2⟩
     go_wp2_with fail
     go_round
     case rel=>exact⟨j+1,by omega,by go_num,ax (z4.o Wl.o (by simp) (by simp)),hB2⟩
     case measure=>simp[intOf];omega
    have HFb:=ax (hF.o.trans ((jM k6 k7).trans G6.o.symm));(go_wp2_with fail);refine(su k a b t i A6 A7 A8 A9 c6 c7 c8 c9 body els _ s1 s2 s3 s4).mono ?_;rintro e w7 ⟨rfl,hBx⟩;rw[<-G6.o];have hB2:Below w.heap.size w w7:=aP (ai hB _) hBx;have k0:ae w7 wr.heap.size tC #[.int .i64 k,.int .i64 a,.int .i64 b,.bool t.eq,.int .i64 t.a,.int .i64 t.b,.slice A6 i.facts.length c6,.slice A7 i.atoms.length c7,.slice A8 body.len c8,.slice A9 els.len c9]:=ae.nz az hBx;have q0:=k0.cell;have l0:=k0.lt;have hW:Below wr.heap.size wr w7:=aP (ai aU _) hBx;clear hBx;cases pf
    case false=>
     go_wp2;go_ret;exact⟨dz (z1.o HFb.o).symm,hB2⟩
    have Wl:=ax (HFb.o);(go_wp2_with fail);refine(IH.o body hbs.o A8 c8 d lo hi _ (gB.o.bz hW) s3 s5.o (by omega)).mono ?_;rintro e w8 ⟨rfl,hBx⟩;rw[<-hx1.o];replace hB2:=aP hB2 hBx;replace k0:=k0.nz hBx;replace q0:=k0.cell;replace l0:=k0.lt;replace hW:=aP hW hBx;clear hBx;cases x1
    ·go_wp2;go_ret;exact⟨dz (z2.o (by simp)).symm,hB2⟩
    (go_wp2_with fail);refine(IH.o els hes.o A9 c9 d lo hi _ (gE.o.bz hW) s4 s6.o (by omega)).mono ?_;rintro e w9 ⟨rfl,hBx⟩;rw[<-hx2.o];replace hB2:=aP hB2 hBx;replace k0:=k0.nz hBx;replace q0:=k0.cell;replace l0:=k0.lt;clear hBx hW;cases x2
    ·go_wp2;go_ret;exact⟨dz (z3.o (by simp)).symm,hB2⟩
    go_wp2_with fail
    go_round
    case rel=>exact⟨j+1,by omega,by go_num,ax (z4.o Wl.o (by simp) (by simp)),hB2⟩
    case measure=>simp[intOf];omega
   ·go_wp2;go_ret;obtain rfl:j=n:=by omega
    have e1:L.drop j=.nil:=by rw[hn.o];exact ay.jw L
    have h2:=HR.o;rw[e1] at h2;exact⟨dz h2.symm,hB⟩
end
section
open Go Go.RowKit Go.Proofs
attribute [local go_sem ↓] Go.wp_at_zero Go.wp_at_succ
theorem bG.two{w:World}{g:Nat}{a b:Int}(h:ae w g tI #[.int .i64 a,.int .i64 b]):bG w g (g+1) (some ⟨g,0,none⟩) [a,b]:=
 ⟨⟨by simp[encI],fun _=>⟨g,0,rfl,bn,Nat.lt_succ_self _,fun j u hu=>by rw[Nat.zero_add,h.cell];simpa[encI] using hu⟩⟩,by simp[il]⟩
theorem Lt(ks:List Int)(A B:Int):aO (ks++[A,B])=fo (aO ks) A B:=by
 unfold fo aO;rw[List.foldl_append];rfl
theorem Lu{S:Nat}{A B T:Int}(h:T=A\/T=B):aQ (fo S A B) T=fo S A B:=by
 refine Nat.eq_of_testBit_eq fun n=>?_;unfold fo;rw[cr,cr,cr];rcases h with rfl|rfl
 ·generalize decide (jq T=true/\T=(n:Int))=x;cases S.testBit n<;>cases x<;>simp
 ·generalize decide (jq T=true/\T=(n:Int))=x;cases S.testBit n<;>cases x<;>simp
section
variable{w w':World}{b b':Nat}{v v':Value}{vs vs':List Value}{ss ss':List au}
theorem bg.other(h:bg w b v vs ss)(h':bg w b' v' vs' ss')(hg:w.grownBy w' v'.ownBlock)(hne:∀g,v'.ownBlock=some g->v.ownBlock≠some g):bg w' b v vs ss:=by
 refine⟨?_,h.lim,h.els.grown h'.row hg (by decide) (by decide)⟩;rcases h.row.2 with h1|⟨g,cap,cur,rfl,hb,hk,hr⟩
 ·exact⟨h.row.1,.inl h1⟩
 ·exact⟨h.row.1,.inr ⟨g,cap,cur,rfl,hb,(hg.block g (Array.getElem?_eq_some_iff.1 hk).1 (fun e=>hne g e.symm rfl)).trans hk,hr⟩⟩
end
theorem J5{R V V':Value}{n m:Nat}(h:∀g,V.ownBlock=some g->R.ownBlock≠some g)(hR:∀g,R.ownBlock=some g->g<n)(hv:V'.ownBlock=V.ownBlock\/V'.ownBlock=some m)(hm:n<=m):∀g,V'.ownBlock=some g->R.ownBlock≠some g:=fun g hg hr=>by
 rcases hv with e|e
 ·exact h g (e.symm.trans hg) hr
 ·have e2:m=g:=Option.some.inj (e.symm.trans hg);have:=hR g hr;omega
theorem ae.apart{w w':World}{g:Nat}{t:TypeId}{cs:Array Value}{row:Option Nat}(h:ae w g t cs)(hg:w.grownBy w' row)(hne:some g=row->False):ae w' g t cs:=(hg.block g h.lt hne).trans h
theorem sZ{ops:Array Oper}{o:Oper}{a:Act}{K:Act->World->Prop}{Q:Exit->Act->World->Prop}{E:Prop}{w:World}{base lo hi c:Nat}{v:Value}{A:Option Addr}(hgd:o.guard=none)(s x:Operand)(ho:o.op=.call { callee:=.builtin .append,args:=#[s,x],argTypes:=#[28,28] })
  {xs ys:List Int} (hs:a.eval s=v) (hown:aD w base v xs) (hx:a.eval x=.slice A ys.length c) (hR:bG w lo hi A ys) (hn:xs.length+ys.length<=1049600) (hb:base<=w.heap.size)
  (h:∀A' c' w',aD w' base (.slice A' (xs++ys).length c') (xs++ys)->w.grownBy w' v.ownBlock->Below base w w'->K (a.put o.dst (.slice A' (xs++ys).length c')) w'):if Region.wanted o (yielded ops a.tmps)=true then Oper.wp Tryz.prog o a w K Q else E:=by
 have hw:Region.wanted o (yielded ops a.tmps)=true:=by simp[Region.wanted,hgd]
 rw[if_pos hw];refine uP s x 28 ho Tryz.underlying28 Jy rfl (by decide) (by decide) hs hown.1 hx hR.raw (zg _) hn hb ?_;intro v' w' h1 h2 h3;have hO:aD w' base v' (xs++ys):=⟨by rw[List.length_append,show encI (xs++ys)=encI xs++encI ys from List.map_append];exact h1,by simp[il];omega⟩;obtain⟨A',c',rfl,-⟩:=hO.rj;exact h A' c' w' hO h2 h3
section
variable{ops:Array Oper}{rest:List Oper}{o:Oper}{a:Act}{Q:Exit->Act->World->Prop}{w w0:World}{base mid:Nat}{v v2:Value}{vs vs2:List Value}{ss mX:List au}
theorem NK(hgd:o.guard=none)(s x:Operand)(ho:o.op=.call { callee:=.builtin .append,args:=#[s,x],argTypes:=#[31,31] })
  (hs:a.eval s=v) (h0:bg w0 base v vs ss) (hb0:Below w0.heap.size w0 w) (hbase:base<=w0.heap.size) (h2:bg w mid v2 vs2 mX) (hm:w0.heap.size<=mid) (hx:a.eval x=v2) (hl:ss.length+mX.length<=1049600)
  (h:∀A' c' w',bg w' base (.slice A' (ss.length+mX.length) c') (vs++vs2) (ss++mX)->w.grownBy w' v.ownBlock->Below base w w'->((Value.slice A' (ss.length+mX.length) c').ownBlock=v.ownBlock\/(Value.slice A' (ss.length+mX.length) c').ownBlock=some w.heap.size)->wpList Tryz.prog ops Q rest (a.put o.dst (.slice A' (ss.length+mX.length) c')) w'):wpList Tryz.prog ops Q (o :: rest) a w:=by
 obtain⟨A,c,rfl⟩:=h2.form;unfold wpList;rw[if_pos (show Region.wanted o (yielded ops a.tmps)=true by simp[Region.wanted,hgd])];refine Or.inl (Nq s x 31 ho Tryz.underlying31 qc rfl (by decide) (by decide) hs (own_below h0.row hb0) hx h2.rd.raw h2.els.one_cell hl (Nat.le_trans hbase hb0.size) ?_);intro v' w' hO hg hB hv;have hC:=h0.cat hb0 h2 (Nat.le_trans hbase hm) hm hl hg hO;obtain⟨A',d,rfl,-⟩:=bZ hO hl;exact h A' d w' hC hg hB hv
end
theorem IZ{lo hi bJ hi':Nat}(v:Value)(a:au)(k A B:Int)(t:aF)(X1 X2 X3 X4:Option Addr)(n1 n2 n3 n4 d1 d2 d3 d4:Nat)(Bf:Option Addr)(cf K0:Nat)(w:World)(h:eB w lo hi v a)(hhi:hi<=w.heap.size)(hv:a.valid=true)(h':bB w bJ hi' Bf (zj K0))(hA:jq A=true)(hk:k=1\/k=4) :
  Calls Tryz.prog 109 #[v,.agg #[.int .i64 k,.int .i64 A,.int .i64 B,.bool t.eq,.int .i64 t.a,.int .i64 t.b,.slice X1 n1 d1,.slice X2 n2 d2,.slice X3 n3 d3,.slice X4 n4 d4],.slice Bf 9 cf] w fun e w'=>∃F f G g b q,e=.returned (.tuple #[.agg #[.slice F b.facts.length f,.slice G b.atoms.length g],.bool q])/\aI w' w.heap.size (.agg #[.slice F b.facts.length f,.slice G b.atoms.length g]) b/\b.facts.length<=1000/\b.atoms.length<=1000/\eH a k A B K0=((yS q b).map fun x=>[x])/\Below w.heap.size w w':=by
 rcases hk with rfl|rfl
 ·by_cases Bo:A=B
  ·subst Bo;exact S8 v a A t X1 X2 X3 X4 n1 n2 n3 n4 d1 d2 d3 d4 Bf cf K0 w h hhi hv h' hA
  ·exact We v a A B t X1 X2 X3 X4 n1 n2 n3 n4 d1 d2 d3 d4 Bf cf K0 w h hhi hv h' hA Bo
 ·exact Wh v a A B t X1 X2 X3 X4 n1 n2 n3 n4 d1 d2 d3 d4 Bf cf K0 w h hhi hv h' hA
theorem Qk{base:Nat}(A:Option Addr)(c:Nat)(xs:List Int)(n:Nat)(w:World)(h:aD w base (.slice A xs.length c) xs)(hn:n=xs.length):Calls Tryz.prog 26 #[.slice A n c] w fun e w'=>∃Bf cf,e=.returned (.slice Bf 9 cf)/\bX w' w.heap.size (.slice Bf 9 cf) (zj (aO xs))/\Below w.heap.size w w':=by
 obtain⟨A',c',e,fX⟩:=h.rj;injection e with e1 e2 e3;subst e1 e3;rw[hn];refine(rE A c xs w fX).mono ?_;rintro e w' ⟨r,rfl,o,hB⟩;obtain⟨Bf,cf,rfl,-⟩:=o.rj;rw[yD] at o⊢;exact⟨Bf,cf,rfl,o,hB⟩
theorem yj{lo hi loi hii bJ hi':Nat}(v:Value)(a:au)(k A B:Int)(t:aF)(i:au)(body els:ay)(X1 X2 X3 X4:Option Addr)(d1 d2 d3 d4:Nat)(Ak:Option Addr)(ck:Nat)(ks:List Int)(w:World)(h:eB w lo hi v a)(hhi:hi<=w.heap.size)
  (hI:aM w loi hii (.agg #[.slice X1 i.facts.length d1,.slice X2 i.atoms.length d2]) i) (h3:body.len<=1049600) (h4:els.len<=1049600) (hk:bG w bJ hi' Ak ks) (hkl:ks.length<=1049000) :
  Calls Tryz.prog 81 #[v,.agg #[.int .i64 k,.int .i64 A,.int .i64 B,.bool t.eq,.int .i64 t.a,.int .i64 t.b,.slice X1 i.facts.length d1,.slice X2 i.atoms.length d2,.slice X3 body.len d3,.slice X4 els.len d4],.slice Ak ks.length ck] w fun e w'=>∃r,e=.returned (.tuple #[r,.bool (uy a (Me k A B t i body els) k A B ks).isSome])/\ku w' w.heap.size r ((uy a (Me k A B t i body els) k A B ks).getD [])/\Below w.heap.size w w':=by
 have hV:=ax h;obtain⟨A1,c1,A2,c2,rfl,-⟩:=h;have HI:=ax hI;have HK:=ax hk;have yN:=ax (PE (a:=a) (ok:=Me k A B t i body els) (k:=k) (A:=A) (B:=B) (ks:=ks) fun e _=>(vN e).2.1);have HT:=ax (fun e=>(vN (k:=k) (A:=A) (B:=B) (t:=t) (i:=i) (body:=body) (els:=els) e));have HD:aJ (uy a (Me k A B t i body els) k A B ks=if a.valid&&Me k A B t i body els then eH a k A B (fo (aO ks) A B) else none):=ax rfl;have HQ:aJ (Me k A B t i body els=(iC t i body els&&fieldsB k A B)):=ax rfl;have RQ:aJ (qZ []<=16777216):=ax (by simp[qZ,Ff,bN]);have hi1:i.facts.length<=1049600:=by obtain⟨_,_,_,_,e,q1,q2⟩:=hI;exact q1.le
 have hi2:i.atoms.length<=1049600:=by obtain⟨_,_,_,_,e,q1,q2⟩:=hI;exact q2.le
 clear hk hI;generalize Me k A B t i body els=ok at yN HT HD HQ⊢;(go_enter Tryz.func81,Tryz.ntmps81);have k3:ae (((w.alloc (.cells #[.slice A1 a.facts.length c1,.slice A2 a.atoms.length c2] aC)).alloc (.cells #[.int .i64 k,.int .i64 A,.int .i64 B,.bool t.eq,.int .i64 t.a,.int .i64 t.b,.slice X1 i.facts.length d1,.slice X2 i.atoms.length d2,.slice X3 body.len d3,.slice X4 els.len d4] tC)).alloc (.cells #[] aC)) w.heap.size aC #[.slice A1 a.facts.length c1,.slice A2 a.atoms.length c2]:=az;have k4:ae (((w.alloc (.cells #[.slice A1 a.facts.length c1,.slice A2 a.atoms.length c2] aC)).alloc (.cells #[.int .i64 k,.int .i64 A,.int .i64 B,.bool t.eq,.int .i64 t.a,.int .i64 t.b,.slice X1 i.facts.length d1,.slice X2 i.atoms.length d2,.slice X3 body.len d3,.slice X4 els.len d4] tC)).alloc (.cells #[] aC)) (w.heap.size+1) tC #[.int .i64 k,.int .i64 A,.int .i64 B,.bool t.eq,.int .i64 t.a,.int .i64 t.b,.slice X1 i.facts.length d1,.slice X2 i.atoms.length d2,.slice X3 body.len d3,.slice X4 els.len d4]:=az;have k8:ae (((w.alloc (.cells #[.slice A1 a.facts.length c1,.slice A2 a.atoms.length c2] aC)).alloc (.cells #[.int .i64 k,.int .i64 A,.int .i64 B,.bool t.eq,.int .i64 t.a,.int .i64 t.b,.slice X1 i.facts.length d1,.slice X2 i.atoms.length d2,.slice X3 body.len d3,.slice X4 els.len d4] tC)).alloc (.cells #[] aC)) (w.heap.size+1+1) aC #[]:=az;(go_wp2_with fail);refine(vz _ a _ (hV.o.V.bz aj)).mono ?_;rintro e w1 ⟨rfl,hB1⟩;have hB:=aP (w:=w) aj hB1;replace k3:=k3.nz hB1;replace k4:=k4.nz hB1;replace k8:=k8.nz hB1;have hz1:=hB1.size;simp only[World.size_alloc] at hz1;clear hB1;cases hv:a.valid
 ·have E:aJ (uy a ok k A B ks=none):=ax (by rw[HD.o,hv];rfl);clear hv;go_wp2;go_ret2;exact⟨_,by rw[E.o];rfl,by rw[E.o];exact⟨⟨[],bg.iG k8 (by omega)⟩,RQ.o⟩,hB⟩
 have HV:=ax hv;have hvl:=tT hv;clear hv;(replace fq:=k3.z;replace eZ:=k4.z);(go_wp2_with fail);refine(su k A B t i X1 X2 X3 X4 d1 d2 d3 d4 body els _ hi1 hi2 h3 h4).mono ?_;rintro e w2 ⟨rfl,hB2⟩;rw[<-HQ.o];(replace hB:=aP hB hB2;replace k3:=k3.nz hB2;replace fq:=k3.z;replace k4:=k4.nz hB2;replace eZ:=k4.z;replace k8:=k8.nz hB2);have hz2:=hB2.size;clear hB2;cases ok
 ·have E:aJ (uy a false k A B ks=none):=ax (by rw[HD.o,Bool.and_false];rfl);go_wp2;go_ret2;exact⟨_,by rw[E.o];rfl,by rw[E.o];exact⟨⟨[],bg.iG k8 (by omega)⟩,RQ.o⟩,hB⟩
 have E:aJ (uy a true k A B ks=eH a k A B (fo (aO ks) A B)):=ax (by rw[HD.o,HV.o];rfl);obtain⟨hA,hBt,hk15⟩:=HT.o rfl;clear HD HT HQ;rw[E.o] at yN;have HB:=ax hB;clear hB;(go_upto_region 4 with fail)
 go_cut [9] (fun s9 wc=>∃(Bf:Option Addr) (cf:Nat),s9=.slice Bf 9 cf/\aJ (bX wc w.heap.size (.slice Bf 9 cf) (zj (fo (aO ks) A B)))/\ae wc w.heap.size aC #[.slice A1 a.facts.length c1,.slice A2 a.atoms.length c2]/\ae wc (w.heap.size+1) tC #[.int .i64 k,.int .i64 A,.int .i64 B,.bool t.eq,.int .i64 t.a,.int .i64 t.b,.slice X1 i.facts.length d1,.slice X2 i.atoms.length d2,.slice X3 body.len d3,.slice X4 els.len d4]/\ae wc (w.heap.size+1+1) aC #[]/\aJ (Below w.heap.size w wc)/\w.heap.size+3<=wc.heap.size)
 case first=>
  clear fq eZ;go_wp2;refine lS (S:=(fun w'=>(∀j,w'.cell? ⟨w.heap.size,j,none⟩=#[.slice A1 a.facts.length c1,.slice A2 a.atoms.length c2][j]?)/\(∀j,w'.cell? ⟨w.heap.size+1,j,none⟩=#[.int .i64 k,.int .i64 A,.int .i64 B,.bool t.eq,.int .i64 t.a,.int .i64 t.b,.slice X1 i.facts.length d1,.slice X2 i.atoms.length d2,.slice X3 body.len d3,.slice X4 els.len d4][j]?))) (⟨k3.drew.cell,k4.drew.cell⟩) fun aH=>?_;replace k3:=k3.drew;replace k4:=k4.drew;replace k8:=k8.drew;replace HB:=ax HB.o.drew;have df:w2.heap.size<=w2.drew.heap.size:=bn;generalize w2.drew=wq at k3 k4 k8 HB df aH⊢;refine jQ 1 3 4 5 6 ?_;refine wB 0 7 rfl rfl (fun K hK=>?_) fun K hK=>?_;(try simp only[zz]);go_simp;refine hK.out _ _ ⟨oM (ai aU _) k3.lt k3.cell,oM (ai aU _) k4.lt k4.cell⟩ ?_;clear aH hK K;intro aH;(try simp only[zz]);have aN:Below wq.heap.size wq (wq.alloc (.cells #[] tI)):=ai aU _;have kN:ae (wq.alloc (.cells #[] tI)) wq.heap.size tI #[]:=ae.new _ _ _;have AM:wq.heap.size<(wq.alloc (.cells #[] tI)).heap.size:=by simp
  obtain⟨y0,hy0⟩:∃y,y=wq.heap.size:=⟨_,rfl⟩;have NL:w.heap.size<=y0:=by omega
  have xI:∀y,y<wq.heap.size->y≠y0:=fun y h=>by omega
  replace k3:=k3.nz aN;replace k4:=k4.nz aN;replace k8:=k8.nz aN;(try replace OI:=ax (OI.o.bz aN));(try replace kL:=kL.nz aN);replace HB:=bF HB aN;replace df:=Nat.le_trans df aN.size;rw[<-hy0] at kN AM⊢;have OI:aJ (aD (wq.alloc (.cells #[] tI)) w.heap.size (.slice (some ⟨y0,0,none⟩) 0 0) []):=ax ⟨ig kN NL,by simp[il]⟩;have hl0:=AM;(try have h70:y7≠y0:=xI y7 hl7);clear AM xI NL;clear aN hy0 kN;generalize wq.alloc (.cells #[] tI)=wq at*;refine wB 2 7 rfl rfl (fun K hK=>?_) fun K hK=>?_;refine sZ (base:=w.heap.size) (xs:=[]) (ys:=ks) rfl _ _ rfl rfl OI.o rfl (HK.o.bz HB.o) (by simp<;>omega) (by omega) ?_;intro KA kc NJ oN hg aN;replace k3:=ae.zm k3 OI.o.1 hg (by decide);replace k4:=ae.zm k4 OI.o.1 hg (by decide);replace k8:=ae.zm k8 OI.o.1 hg (by decide);replace HB:=ax (HB.o.trans aN);replace df:=Nat.le_trans df aN.size;rw[nil_append] at oN⊢;replace OI:=ax oN;clear oN hg aN;refine hK.out _ _ ⟨k3.cell,k4.cell⟩ ?_;clear aH hK K;intro aH;(try simp only[zz]);generalize NJ=wq at*;refine aX 7 rfl fun K hK=>?_
  all_goals
   (try simp only[zz]);go_simp;refine hK.out _ _ ⟨oM (ai aU _) k3.lt k3.cell,oM (ai aU _) k4.lt k4.cell⟩ ?_;clear aH hK K;intro aH;(try simp only[zz]);have aN:Below wq.heap.size wq (wq.alloc (.cells #[.int .i64 A,.int .i64 B] tI)):=ai aU _;have kN:ae (wq.alloc (.cells #[.int .i64 A,.int .i64 B] tI)) wq.heap.size tI #[.int .i64 A,.int .i64 B]:=ae.new _ _ _;have AM:wq.heap.size<(wq.alloc (.cells #[.int .i64 A,.int .i64 B] tI)).heap.size:=by simp
   obtain⟨y7,hy7⟩:∃y,y=wq.heap.size:=⟨_,rfl⟩;have hy7B:w.heap.size<=y7:=by omega
   have xI:∀y,y<wq.heap.size->y≠y7:=fun y h=>by omega
   replace k3:=k3.nz aN;replace k4:=k4.nz aN;replace k8:=k8.nz aN;(try replace OI:=ax (OI.o.bz aN));(try replace kL:=kL.nz aN);replace HB:=bF HB aN;replace df:=Nat.le_trans df aN.size;rw[<-hy7] at kN AM⊢;have kL:=kN;have hl7:=AM;(try have h70:y7≠y0:=(xI y0 hl0).symm);clear AM xI hy7B;clear aN hy7 kN;generalize wq.alloc (.cells #[.int .i64 A,.int .i64 B] tI)=wq at*
  rotate_right
  refine aX 0 rfl fun K hK=>?_;(try simp only[zz]);go_simp;refine hK.out _ _ ⟨oM (ai aU _) k3.lt k3.cell,oM (ai aU _) k4.lt k4.cell⟩ ?_;clear aH hK K;intro aH;(try simp only[zz]);have aN:Below wq.heap.size wq (wq.alloc (.cells #[] tI)):=ai aU _;have kN:ae (wq.alloc (.cells #[] tI)) wq.heap.size tI #[]:=ae.new _ _ _;have AM:wq.heap.size<(wq.alloc (.cells #[] tI)).heap.size:=by simp
  obtain⟨y0,hy0⟩:∃y,y=wq.heap.size:=⟨_,rfl⟩;have NL:w.heap.size<=y0:=by omega
  have xI:∀y,y<wq.heap.size->y≠y0:=fun y h=>by omega
  replace k3:=k3.nz aN;replace k4:=k4.nz aN;replace k8:=k8.nz aN;(try replace OI:=ax (OI.o.bz aN));(try replace kL:=kL.nz aN);replace HB:=bF HB aN;replace df:=Nat.le_trans df aN.size;rw[<-hy0] at kN AM⊢;have OI:aJ (aD (wq.alloc (.cells #[] tI)) w.heap.size (.slice (some ⟨y0,0,none⟩) 0 0) []):=ax ⟨ig kN NL,by simp[il]⟩;have hl0:=AM;(try have h70:y7≠y0:=xI y7 hl7);clear AM xI NL;clear aN hy0 kN;generalize wq.alloc (.cells #[] tI)=wq at*
  any_goals
   refine aX 2 rfl fun K hK=>?_;refine sZ (base:=w.heap.size) (xs:=[]) (ys:=ks) rfl _ _ rfl rfl OI.o rfl (HK.o.bz HB.o) (by simp<;>omega) (by omega) ?_;intro KA kc NJ oN hg aN;replace k3:=ae.zm k3 OI.o.1 hg (by decide);replace k4:=ae.zm k4 OI.o.1 hg (by decide);replace k8:=ae.zm k8 OI.o.1 hg (by decide);(try replace kL:=kL.apart hg (fun e=>by injection e with e;exact h70 e));replace HB:=ax (HB.o.trans aN);replace df:=Nat.le_trans df aN.size;rw[nil_append] at oN⊢;replace OI:=ax oN;clear oN hg aN;refine hK.out _ _ ⟨k3.cell,k4.cell⟩ ?_;clear aH hK K;intro aH;(try simp only[zz]);generalize NJ=wq at*
  all_goals
   refine aX 8 rfl fun K hK=>?_;refine sZ (base:=w.heap.size) (xs:=ks) (ys:=[A,B]) rfl _ _ rfl rfl OI.o rfl (bG.two kL) (by simp<;>omega) (by omega) ?_;intro KA kc NJ oN hg aN;replace k3:=ae.zm k3 OI.o.1 hg (by decide);replace k4:=ae.zm k4 OI.o.1 hg (by decide);replace k8:=ae.zm k8 OI.o.1 hg (by decide);replace HB:=ax (HB.o.trans aN);replace df:=Nat.le_trans df aN.size;replace OI:=ax oN;clear oN hg aN;refine hK.out _ _ ⟨k3.cell,k4.cell⟩ ?_;clear aH hK K;intro aH;(try simp only[zz]);generalize NJ=wq at*;refine aX 9 rfl fun K hK=>?_;(try simp only[zz]);(go_simp;refine(Qk KA kc (ks++[A,B]) _ _ OI.o (by simp)).mono ?_;rintro e w5 ⟨Bf,cf,rfl,oT,bW⟩;rw[Lt] at oT;replace k3:=k3.nz bW;replace k4:=k4.nz bW;replace k8:=k8.nz bW;have OT:=ax (oT.bq (base':=w.heap.size));have wm:=bF HB bW;have PM:=bW.size;clear bW oT);refine hK.out _ _ (⟨k3.cell,k4.cell⟩) ?_;clear aH hK K;intro aH;refine jh 10 ?_;refine jP ?_;(go_wp2_with fail);go_meet
   case rel=>exact⟨Bf,cf,rfl,OT,k3,k4,k8,wm,by omega⟩
 case rest=>
  clear HB k3 k4 k8 fq eZ HK HI;obtain⟨Bf,cf,rfl,OT,k3,k4,k8,HB,hzc⟩:=hcut;obtain⟨K2,hK2⟩:∃x,x=fo (aO ks) A B:=⟨_,rfl⟩;have HKI:aJ (∀T,T=A\/T=B->aQ K2 T=K2):=ax fun T hT=>by rw[hK2];exact Lu hT
  rw[<-hK2] at OT E yN;clear hK2;have PO:=ax OT.o.DW;have hone:∀b:au,[b].length=1:=fun _=>rfl;by_cases Ql:k=1\/k=4
  ·have O8:aJ (bg wc w.heap.size (.slice (some ⟨w.heap.size+1+1,0,none⟩) 0 0) [] []):=ax (bg.iG k8 (by omega));clear HKI;rcases Ql with rfl|rfl
   all_goals
    (replace fq:=k3.z;replace eZ:=k4.z);(go_wp2_with fail);refine(IZ _ a _ A B t X1 X2 X3 X4 _ _ _ _ d1 d2 d3 d4 Bf cf K2 _ (hV.o.bz HB.o) (by omega) HV.o PO.o hA (by simp)).mono ?_;rintro e w3 ⟨F,f,G,g,b,q,rfl,oX,hl1,hl2,hE,hB3⟩;have E2:=ax (E.o.trans hE);rw[hE] at yN;have OX:=ax oX;have k83:=k8.nz hB3;have Wm:=ax hB3;have HB3:=bF HB hB3;have hz3:=hB3.size;clear hB3 oX hE k3 k4 fq eZ k8 E HB;cases q
    ·have E3:aJ (uy a true _ A B ks=none):=ax (by rw[E2.o];rfl);go_wp2;go_ret2;exact⟨_,by rw[E3.o];rfl,by rw[E3.o];exact⟨⟨[],bg.iG (k83.alloc _) (by omega)⟩,RQ.o⟩,ai HB3.o _⟩
    ·(go_wp2_with fail);refine(vz _ b _ (OX.o.rj.bz aj)).mono ?_;rintro e w4 ⟨rfl,hB4⟩;have hbx:Below w3.heap.size w3 (w3.alloc (.cells #[.slice F b.facts.length f,.slice G b.atoms.length g] aC)):=ai aU _;have kx:ae (w3.alloc (.cells #[.slice F b.facts.length f,.slice G b.atoms.length g] aC)) w3.heap.size aC #[.slice F b.facts.length f,.slice G b.atoms.length g]:=ae.new _ _ _;replace kx:=kx.nz hB4;have Wn:=ax (Wm.o.trans ((hbx.trans (hB4.mono hbx.size)).mono hz3));have mJ:=ax (HB3.o.trans ((hbx.trans (hB4.mono hbx.size)).mono (by omega)));have k84:=k83.nz (hbx.trans (hB4.mono hbx.size));replace OX:=ax (OX.o.bz (hbx.trans (hB4.mono hbx.size)));have Dp:=Wn.o.size;clear hB4 hbx HB3 Wm k83;cases hbv:b.valid
     ·have E3:aJ (uy a true _ A B ks=none):=ax (by rw[E2.o];unfold yS;rw[hbv];rfl);clear hbv;go_wp2;go_ret2;exact⟨_,by rw[E3.o];rfl,by rw[E3.o];exact⟨⟨[],bg.iG k84 (by omega)⟩,RQ.o⟩,mJ.o⟩
     ·have E3:aJ (uy a true _ A B ks=some [b]):=ax (by rw[E2.o,sj hbv];rfl);have Td:aJ (qZ [b]<=16777216):=ax (by have:=yN.o.2;rw[sj hbv] at this;exact this);clear hbv;(replace uk:=kx.z);(go_wp2_with (at_builtin;refine vK (w0:=wc) (base:=w.heap.size) (mid:=wc.heap.size) (ss:=[]) (mX:=[b]) rfl _ _ rfl rfl O8.o (ai Wn.o _) (by omega) (bg.one (g:=w4.heap.size) (ae.dA rfl) (by omega) (aI.bz OX.o (ai aU _))) bn rfl (by simp) ?_;intro A5 c5 w5 Wo hg5 bW;have O5:=ax Wo;have wm:=ax ((ai mJ.o (.cells #[.slice F b.facts.length f,.slice G b.atoms.length g] aC)).trans bW);clear Wo hg5 bW));go_ret2;exact⟨_,by rw[E3.o];rfl,by rw[E3.o];exact⟨⟨_,O5.o⟩,Td.o⟩,wm.o⟩
  ·have hk1:¬k=1:=fun e=>Ql (.inl e);have hk4:¬k=4:=fun e=>Ql (.inr e);have Re:k=2\/k=3\/k=5:=by omega
   have EA:=ax (E.o.trans (FN hk1 hk4));have b1:(k == 1)=false:=beq_false_of_ne hk1;have b4:(k == 4)=false:=beq_false_of_ne hk4;obtain⟨T,hT⟩:∃x,x=Dw k A B:=⟨_,rfl⟩;have hTAB:aJ (T=A\/T=B):=ax (by rw[hT];unfold Dw;split;exact .inr rfl;exact .inl rfl);rw[<-hT] at EA;rw[<-E.o] at yN;replace hT:=ax hT;have HKK:=ax Re;obtain⟨S,hS⟩:∃x,x=uy a true k A B ks:=⟨_,rfl⟩;rw[<-hS] at EA yN;replace hS:=ax hS;have HOKS:aJ (qZ (S.getD [])<=16777216):=ax yN.o.2;clear hk1 hk4 Ql Re E yN hk15;(replace fq:=k3.z;replace eZ:=k4.z);(go_upto_if 69 with fail)
   go_cut [12] (fun s12 wd=>s12=.int .i64 T/\wd=wc)
   case first=>
    by_cases hk2:k=2
    ·have eT:aJ (T=B):=ax (by rw[hT.o,Dw,if_pos hk2]);subst hk2;clear hT;(go_wp2_with fail);go_meet
     case rel=>exact⟨by rw[eT.o],rfl⟩
    ·have eT:aJ (T=A):=ax (by rw[hT.o,Dw,if_neg hk2]);have b2:(k == 2)=false:=beq_false_of_ne hk2;clear hT hk2;(go_wp2_with fail);go_meet
     case rel=>exact⟨by rw[eT.o],rfl⟩
   case rest=>
    obtain⟨rfl,hwd⟩:=hcut;subst hwd;clear hT;(go_wp2_with fail);refine(wW 7 bn a T K2 lo hi _ _ _ _ cf _ (hV.o.bz HB.o) (by rw[HKI.o T hTAB.o];exact PO.o) (by omega) (by omega)).mono ?_;rintro e w3 ⟨r,vs,l,rfl,oR,hll,hRR,hB3⟩;obtain⟨R,rc,rfl⟩:=oR.form;obtain⟨ok0,hok0⟩:∃x,x=(aR 7 a T K2).isSome:=⟨_,rfl⟩;rw[<-hok0]
    have Te:aJ (ok0=false->S=none):=ax fun e=>by
     rw[EA.o];rcases hRR with h|h
     ·rw[h];rfl
     ·rw[h] at hok0;rw[hok0] at e;cases e
    have Rf:aJ (ok0=true->S=vC (fun x=>gy k A B x K2) l/\aR 7 a T K2=some l):=ax fun e=>by
     rcases hRR with h|h
     ·rw[h] at hok0;rw[hok0] at e;cases e
     ·exact⟨by rw[EA.o,h];rfl,h⟩
    have VN:l.length<=128:=hll;have OR:=ax oR;have O8:aJ (bg w3 w.heap.size (.slice (some ⟨w.heap.size+1+1,0,none⟩) 0 0) [] []):=ax (bg.iG (k8.nz hB3) (by omega))
    have Wp:aJ (∀g,(Value.slice (some ⟨w.heap.size+1+1,0,none⟩) 0 0).ownBlock=some g->(Value.slice R l.length rc).ownBlock≠some g):=ax fun g hg hg2=>by
     have hg':w.heap.size+1+1=g:=by simpa[Value.ownBlock] using hg
     have:=(oR.row.lt g hg2).1;omega
    have k43:=k4.nz hB3;have OT3:=ax (OT.o.bz hB3);have HB3:=bF HB hB3;have hz3:=hB3.size;obtain⟨z3,Wq⟩:∃z,z=wc.heap.size:=⟨_,rfl⟩;rw[<-Wq] at OR;clear hok0 hRR hll oR hB3 EA k3 k4 fq eZ k8 HB OT PO Wq;(go_wp2_with fail)
    go_loopg [8,14,15] (l.length+1) (fun gh s8 s14 s15 wr=>∃(j:Nat) (R2:Option Addr) (r2:Nat) (ys:List au) (us:List Value) (Tf:Bool),j<=l.length/\ys.length=j/\l.length+1<=gh+j/\s8=.slice R2 j r2/\s14=.bool Tf/\s15=.int .i64 j/\aJ (Tf=false->S=none)/\aJ (Tf=true->(S=vC (fun x=>gy k A B x K2) l/\aR 7 a T K2=some l)/\∀(q:Nat) (h1:q<ys.length) (h2:q<l.length),gy k A B l[q] K2=some ys[q])/\aJ (bg wr w.heap.size (.slice R2 j r2) us ys)/\aJ (∀g,(Value.slice R2 j r2).ownBlock=some g->(Value.slice R l.length rc).ownBlock≠some g)/\aJ (bg wr z3 (.slice R l.length rc) vs l)/\aJ (bX wr w.heap.size (.slice Bf 9 cf) (zj K2))/\ae wr (w.heap.size+1) tC #[.int .i64 k,.int .i64 A,.int .i64 B,.bool t.eq,.int .i64 t.a,.int .i64 t.b,.slice X1 i.facts.length d1,.slice X2 i.atoms.length d2,.slice X3 body.len d3,.slice X4 els.len d4]/\aJ (Below w.heap.size w wr)/\w.heap.size+3<=wr.heap.size)
    case atStart=>exact⟨0,some ⟨w.heap.size+1+1,0,none⟩,0,[],[],ok0,dJ,rfl,by omega,rfl,rfl,rfl,Te,ax fun e=>⟨Rf.o e,fun q h1=>absurd h1 (by simp)⟩,O8,Wp,OR,OT3,k43,HB3,by omega⟩
    case round=>
     clear Te Rf O8 Wp OR OT3 k43 HB3;obtain⟨j,R2,r2,ys,us,Tf,hj,hyl,hgh,rfl,rfl,rfl,Te,Rf,OY,HOW,OR,OT,k4,HB,xx⟩:=hrel;have HL:aJ (ys.length=j):=ax hyl;clear hyl;cases Tf
     ·have E3:=ax (Te.o rfl);clear Te Rf;by_cases hlt:j<l.length
      all_goals
       have hji:(j:Int)<(l.length:Int)\/¬(j:Int)<(l.length:Int):=by omega
       first|(have hjc:(j:Int)<(l.length:Int):=by omega)|(have hjc:¬(j:Int)<(l.length:Int):=by omega)
       clear hji;go_wp2;go_ret2;exact⟨_,by rw[<-hS.o,E3.o];rfl,by rw[<-hS.o,E3.o];exact⟨⟨[],(bg.empty wr rfl).bq⟩,RQ.o⟩,ai HB.o _⟩
     ·by_cases hlt:j<l.length
      ·have hji:(j:Int)<(l.length:Int):=by omega
       obtain⟨gb,go,P,p,Q,q,rfl,hgb,q0,q1,hC⟩:=OR.o.Xw hlt;obtain⟨⟨Qm,hex⟩,HY⟩:=Rf.o rfl;obtain⟨x,hx⟩:∃x,x=l[j]:=⟨_,rfl⟩;rw[<-hx] at q0 q1 hC;obtain⟨hxv,-,xb,xr,hxa⟩:=qy _ _ _ _ _ hex x (by rw[hx];exact getElem_mem hlt);have hx0:0<x.atoms.length:=by rw[hxa];simp
       have HC:=ax hC;have QM:=ax hxv;have XJ:aJ (gy k A B x K2=none->S=none):=ax fun h=>by rw[Qm];exact wP hlt (by rw[<-hx];exact h)
       have J6:aJ (∀b,gy k A B x K2=some b->∀(q:Nat) (h1:q<(ys++[b]).length) (h2:q<l.length),gy k A B l[q] K2=some (ys++[b])[q]):=ax fun b hb q h1 h2=>by
        have hl:=HL.o;by_cases e:q<ys.length
        ·rw[List.getElem_append_left e];exact HY q e h2
        ·have eq:q=j:=by simp at h1;omega
         subst eq;rw[List.getElem_append_right (by omega)];simp only[hl,Nat.sub_self,List.getElem_cons_zero];rw[<-hx];exact hb
       have OP:=ax (And.intro Qm hex);clear hx hxv hxa hC Qm hex HY Te Rf;(replace eZ:=k4.z);(go_upto_region 17 with fail);clear eZ
       go_cut [16,17] (fun s16 s17 wn=>∃(y:Nat) (F:Option Addr) (f:Nat) (G:Option Addr) (g:Nat) (b:au) (q:Bool),s16=.pointer (some ⟨y,0,none⟩)/\s17=.bool q/\ae wn y aC #[.slice F b.facts.length f,.slice G b.atoms.length g]/\aJ (aI wn wr.heap.size (.agg #[.slice F b.facts.length f,.slice G b.atoms.length g]) b)/\aJ (gy k A B x K2=yS q b)/\aJ (Below wr.heap.size wr wn))
       case first=>
        go_wp2;refine lS (S:=(fun w'=>(∀i',w'.cell? ⟨w.heap.size+1,i',none⟩=#[.int .i64 k,.int .i64 A,.int .i64 B,.bool t.eq,.int .i64 t.a,.int .i64 t.b,.slice X1 i.facts.length d1,.slice X2 i.atoms.length d2,.slice X3 body.len d3,.slice X4 els.len d4][i']?)/\w'.cell? ⟨gb,go+j*2,none⟩=some (.slice P x.facts.length p)/\w'.cell? ⟨gb,go+j*2+1,none⟩=some (.slice Q x.atoms.length q))) (⟨k4.drew.cell,q0,q1⟩) fun aH=>?_;have ic:=ax (Below.refl wr.heap.size wr).drew;have df:wr.heap.size<=wr.drew.heap.size:=bn;generalize wr.drew=wq at ic df aH⊢;refine jQ 0 1 2 3 4 ?_;refine jh 5 ?_;refine wB 6 10 rfl rfl (fun K hK=>?_) fun K hK=>?_;(try simp only[zz]);go_simp;refine(Az _ x k A B t X1 X2 X3 X4 _ _ _ _ d1 d2 d3 d4 Bf cf K2 _ (HC.o.bz ic.o) df QM.o (OT.o.DW.bz ic.o) hA hBt hx0 HKK.o).mono ?_;rintro e wq ⟨F,f,G,g,b,qb,rfl,oX,hl1,hl2,hE,aN⟩;have OX:=ax (oX.bq (base':=wr.heap.size) df);replace hE:=ax hE;replace ic:=ax (ic.o.trans (aN.mono df));replace df:=Nat.le_trans df aN.size;(try replace bK:=bK.nz aN);clear aN oX hl1 hl2;refine hK.out _ _ ⟨(k4.nz ic.o).cell,(ic.o.cell (p:=⟨gb,go+j*2,none⟩) hgb).trans q0,(ic.o.cell (p:=⟨gb,go+j*2+1,none⟩) hgb).trans q1⟩ ?_;clear aH hK K;intro aH;refine yU 7 8 9 ?_;refine aX 10 rfl fun K hK=>?_
        all_goals
         (try simp only[zz]);go_simp;have aN:Below wq.heap.size wq (wq.alloc (.cells #[.slice none 0 0,.slice none 0 0] aC)):=ai aU _;replace ic:=ax (ic.o.trans (aN.mono df));refine hK.out _ _ ⟨(k4.nz ic.o).cell,(ic.o.cell (p:=⟨gb,go+j*2,none⟩) hgb).trans q0,(ic.o.cell (p:=⟨gb,go+j*2+1,none⟩) hgb).trans q1⟩ ?_;clear aH hK K;intro aH;(try simp only[zz]);have bK:ae (wq.alloc (.cells #[.slice none 0 0,.slice none 0 0] aC)) wq.heap.size aC #[.slice none 0 0,.slice none 0 0]:=ae.new _ _ _;obtain⟨y,hy⟩:∃y,y=wq.heap.size:=⟨_,rfl⟩;have hyr:wr.heap.size<=y:=by omega
         (try replace OX:=ax (OX.o.bz aN));replace df:=Nat.le_trans df aN.size;rw[<-hy] at bK⊢;clear aN hy;generalize wq.alloc (.cells #[.slice none 0 0,.slice none 0 0] aC)=wq at*
        rotate_left
        refine aX 6 rfl fun K hK=>?_;(try simp only[zz]);go_simp;refine(Az _ x k A B t X1 X2 X3 X4 _ _ _ _ d1 d2 d3 d4 Bf cf K2 _ (HC.o.bz ic.o) df QM.o (OT.o.DW.bz ic.o) hA hBt hx0 HKK.o).mono ?_;rintro e wq ⟨F,f,G,g,b,qb,rfl,oX,hl1,hl2,hE,aN⟩;have OX:=ax (oX.bq (base':=wr.heap.size) df);replace hE:=ax hE;replace ic:=ax (ic.o.trans (aN.mono df));replace df:=Nat.le_trans df aN.size;(try replace bK:=bK.nz aN);clear aN oX hl1 hl2;refine hK.out _ _ ⟨(k4.nz ic.o).cell,(ic.o.cell (p:=⟨gb,go+j*2,none⟩) hgb).trans q0,(ic.o.cell (p:=⟨gb,go+j*2+1,none⟩) hgb).trans q1⟩ ?_;clear aH hK K;intro aH;refine yU 7 8 9 ?_
        all_goals
         have lb:=bK.lt;have qB:=bK.cell;have rB:=bK.frozen;have XK:=ax ((ic.o.setCell (p:=⟨y,0,none⟩) hyr (.slice F b.facts.length f)).setCell (p:=⟨y,1,none⟩) hyr (.slice G b.atoms.length g));refine aX 11 rfl fun K hK=>?_;(try simp only[zz]);go_simp;refine hK.out _ _ (⟨(k4.nz XK.o).cell,(XK.o.cell (p:=⟨gb,go+j*2,none⟩) hgb).trans q0,(XK.o.cell (p:=⟨gb,go+j*2+1,none⟩) hgb).trans q1⟩) ?_;clear aH hK K;intro aH;refine jh 12 ?_;refine jP ?_;(go_wp2_with fail);go_meet
         case rel=>
          refine⟨y,F,f,G,g,b,qb,rfl,rfl,?_,ax (aI.lJ OX.o bK _ _),hE,XK⟩;have:=(bK.ag 0 (.slice F b.facts.length f)).ag 1 (.slice G b.atoms.length g);simpa using this
       case rest=>
        obtain⟨y,F,f,G,g,b,qb,rfl,rfl,kx,OX,hE,ic⟩:=hcut;have hzn:=ic.o.size;have OL:=kx.lt;cases qb
        ·have HF:=ax (XJ.o (by rw[hE.o];rfl));clear XJ J6 hE OP;(replace uk:=kx.z);have Eu:=ax (ai ic.o (.cells #[.slice F b.facts.length f,.slice G b.atoms.length g] aC));have Tg:=ax (OY.o.bz Eu.o);have ORw:=ax (OR.o.bz Eu.o);have Ws:=ax (OT.o.bz Eu.o);have k4w:=k4.nz Eu.o;have Ti:=ax (aP HB.o Eu.o);have hRu:aJ (∀g,(Value.slice (some ⟨gb,go,none⟩) l.length rc).ownBlock=some g->g<wc.heap.size):=ax fun g hg=>Nat.lt_of_lt_of_le (OR.o.row.lt g hg).2 (by omega);have hjl:aJ (ys.length+1<=1049600):=ax (by have:=HL.o;omega);(go_wp2_with (at_builtin;refine NK (w0:=wr) (base:=w.heap.size) (mid:=wr.heap.size) (mX:=[b]) rfl _ _ rfl rfl OY.o Eu.o (by omega) (bg.one (g:=wc.heap.size) (ae.dA rfl) (by omega) (aI.bz OX.o (ai aU _))) bn rfl hjl.o ?_;intro A6 c6 w6 Wt nG iA hv6;have O6:=ax Wt;have OR6:=ax (ORw.o.other Tg.o nG HOW.o);have OT6:aJ (bX w6 w.heap.size (.slice Bf 9 cf) (zj K2)):=ax ⟨ek Ws.o.1 Tg.o.row nG (by decide),Ws.o.2⟩;have k46:=ae.zm k4w Tg.o.row nG (by decide);have qY:=ax (Ti.o.trans iA);have FB:w.heap.size+3<=w6.heap.size:=Nat.le_trans xx (Nat.le_trans Eu.o.size nG.size);have I1:=ax (J5 HOW.o hRu.o hv6 (by simp));clear Wt nG iA hv6;simp only[length_cons,length_nil,Nat.zero_add] at O6 I1⊢;rw[HL.o] at O6 I1⊢))
         go_roundg (gk - 1)
         case rel=>exact⟨j+1,A6,c6,ys++[b],_,false,by omega,by simp[HL.o],by omega,rfl,rfl,by go_num,ax fun _=>HF.o,ax fun e=>(by cases e),O6,I1,OR6,OT6,k46,qY,FB⟩
         case measure=>omega
        ·(replace uk:=kx.z);(go_wp2_with fail);refine(vz _ b _ OX.o.rj).mono ?_;rintro e w5 ⟨rfl,bW⟩;have Yh:=kx.nz bW;have Wk:=ax (OX.o.bz bW);have Wu:=ax (ic.o.trans (bW.mono hzn));have PM:=Wu.o.size;clear bW uk kx OX ic;obtain⟨bv,hbv⟩:∃x,x=b.valid:=⟨_,rfl⟩;rw[<-hbv];have Hl:aJ (bv=false->S=none):=ax fun e=>XJ.o (by rw[hE.o];unfold yS;rw[<-hbv,e];rfl);have uh:aJ (bv=true->(S=vC (fun x=>gy k A B x K2) l/\aR 7 a T K2=some l)/\∀(q:Nat) (h1:q<(ys++[b]).length) (h2:q<l.length),gy k A B l[q] K2=some (ys++[b])[q]):=ax fun e=>⟨OP.o,J6.o b (by rw[hE.o];unfold yS;rw[<-hbv,e];rfl)⟩;clear XJ J6 hE OP hbv;(replace qkx5:=Yh.z);have Eu:=ax (ai Wu.o (.cells #[.slice F b.facts.length f,.slice G b.atoms.length g] aC));have Tg:=ax (OY.o.bz Eu.o);have ORw:=ax (OR.o.bz Eu.o);have Ws:=ax (OT.o.bz Eu.o);have k4w:=k4.nz Eu.o;have Ti:=ax (aP HB.o Eu.o);have hRu:aJ (∀g,(Value.slice (some ⟨gb,go,none⟩) l.length rc).ownBlock=some g->g<w5.heap.size):=ax fun g hg=>Nat.lt_of_lt_of_le (OR.o.row.lt g hg).2 (by omega);have hjl:aJ (ys.length+1<=1049600):=ax (by have:=HL.o;omega);(go_wp2_with (at_builtin;refine NK (w0:=wr) (base:=w.heap.size) (mid:=wr.heap.size) (mX:=[b]) rfl _ _ rfl rfl OY.o Eu.o (by omega) (bg.one (g:=w5.heap.size) (ae.dA rfl) (by omega) (aI.bz Wk.o (ai aU _))) bn rfl hjl.o ?_;intro A6 c6 w6 Wt nG iA hv6;have O6:=ax Wt;have OR6:=ax (ORw.o.other Tg.o nG HOW.o);have OT6:aJ (bX w6 w.heap.size (.slice Bf 9 cf) (zj K2)):=ax ⟨ek Ws.o.1 Tg.o.row nG (by decide),Ws.o.2⟩;have k46:=ae.zm k4w Tg.o.row nG (by decide);have qY:=ax (Ti.o.trans iA);have FB:w.heap.size+3<=w6.heap.size:=Nat.le_trans xx (Nat.le_trans Eu.o.size nG.size);have I1:=ax (J5 HOW.o hRu.o hv6 (by simp));clear Wt nG iA hv6;simp only[length_cons,length_nil,Nat.zero_add] at O6 I1⊢;rw[HL.o] at O6 I1⊢))
         go_roundg (gk - 1)
         case rel=>exact⟨j+1,A6,c6,ys++[b],_,bv,by omega,by simp[HL.o],by omega,rfl,rfl,by go_num,Hl,uh,O6,I1,OR6,OT6,k46,qY,FB⟩
         case measure=>omega
      ·obtain rfl:j=l.length:=by omega
       obtain⟨⟨Qm,hex⟩,HY⟩:=Rf.o rfl;have E3:aJ (S=some ys):=ax (by rw[Qm];exact wQ HL.o fun q h1 h2=>HY q h2 h1);have Td:aJ (qZ ys<=16777216):=ax (by have:=HOKS.o;rw[E3.o] at this;exact this);clear Qm hex HY Te Rf;go_wp2;go_ret2;exact⟨_,by rw[<-hS.o,E3.o];rfl,by rw[<-hS.o,E3.o];exact⟨⟨us,OY.o⟩,Td.o⟩,HB.o⟩
theorem vP{lo hi:Nat}(v:Value)(a:au)(w:World)(h:aM w lo hi v a)(hv:a.valid=true) :
  Calls Tryz.prog 114 #[v] w fun e w'=>∃r,e=.returned (.tuple #[r,.bool true])/\aI w' w.heap.size r (iZ a)/\Below w.heap.size w w':=by
 have hV:=ax h;obtain⟨A1,c1,A2,c2,rfl,h1,h2⟩:=h;have l1:=h1.le;have l2:=h2.le;have HV:=ax hv;have HVr:aJ (a.valid=true):=hv;clear hv;(go_enter Tryz.func114,Tryz.ntmps114);obtain⟨k0,k1⟩:=Dh w 26 26 #[.slice A1 a.facts.length c1,.slice A2 a.atoms.length c2] #[.slice none 0 0,.slice none 0 0];(go_wp2_with fail);refine(vz _ a _ (hV.o.bz aj)).mono ?_;rintro e w1 ⟨rfl,hB1⟩;rw[HV.o];have hB:=aP (w:=w) aj hB1;(replace k0:=k0.nz hB1;replace bT:=k0.z;replace k1:=k1.nz hB1;replace fI:=k1.cell;replace nZ:=k1.frozen;replace mE:=k1.lt);clear hB1;(go_wp2_with fail);have k2:=ae.new w1 26 #[.slice none 0 0,.slice none 0 0];replace k0:=k0.alloc (.cells #[.slice none 0 0,.slice none 0 0] 26);replace k1:=k1.alloc (.cells #[.slice none 0 0,.slice none 0 0] 26);replace hB:=ai hB (.cells #[.slice none 0 0,.slice none 0 0] 26);generalize (w1.alloc (.cells #[.slice none 0 0,.slice none 0 0] 26))=V1 at k0 k1 k2 hB⊢;obtain⟨po,hpo⟩:∃p,p=w1.heap.size:=⟨_,rfl⟩;rw[<-hpo] at k2 mE⊢;clear hpo bT fI nZ;have hpo1:w.heap.size+1<po:=mE;clear mE
 go_loopw [5] (fun i wr=>∃(k:Nat) (acc:List aF) (A:Option Addr) (c:Nat),k<=a.facts.length/\i=.int .i64 k/\acc.length<=k/\aJ (a.facts.foldl dL []=(a.facts.drop k).foldl dL acc)/\ah wr (po+1) (.slice A acc.length c) acc/\
   ae wr w.heap.size 26 #[.slice A1 a.facts.length c1,.slice A2 a.atoms.length c2]/\ae wr (w.heap.size+1) 26 #[.slice none 0 0,.slice none 0 0]/\ae wr po 26 #[.slice A acc.length c,.slice none 0 0]/\Below w.heap.size w wr) (fun i _=>a.facts.length - (intOf i).toNat)
 case atStart=>exact⟨0,[],none,0,dJ,rfl,bn,rfl,ah.nil _ _,k0,k1,k2,hB⟩
 case round=>
  clear k0 k1 k2 hB;obtain⟨k,acc,A,c,hk,rfl,hal,HA,of,k0,k1,k2,hB⟩:=hrel;(replace bT:=k0.z;replace fI:=k1.cell;replace nZ:=k1.frozen;replace mE:=k1.lt;replace lZ:=k2.cell;replace Ag:=k2.frozen;replace xC:=k2.lt);have Lc:=k2.lt;by_cases hlt:k<a.facts.length
  ·obtain⟨b,off,rfl,hbl⟩:=h1.blt hlt;obtain⟨g0,g1,g2⟩:=(h1.bz hB).cl hlt;have HD:=ax (qJ dL a.facts k hlt acc);cases hsk:(a.facts[k].eq&&(a.facts[k].a == a.facts[k].b))
   ·have HS:aJ (dL acc a.facts[k]=if acc.contains (H5 a.facts[k]) then acc else acc++[H5 a.facts[k]]):=by show _=_;rw[dL,hsk];rfl
    obtain⟨f',hf'⟩:∃f',f'=H5 a.facts[k]:=⟨_,rfl⟩;obtain⟨cs,hcs⟩:∃cs:Array Value,cs=#[.bool f'.eq,.int .i64 f'.a,.int .i64 f'.b]:=⟨_,rfl⟩;rw[<-hf'] at HS;have xR:=ax hcs;by_cases Vi:a.facts[k].b<a.facts[k].a
    case' pos=>rw[H5,if_pos Vi] at hf'
    case' neg=>rw[H5,if_neg Vi] at hf'
    all_goals
     cases he:a.facts[k].eq
     all_goals
      rw[he] at g0;(try have hne:(a.facts[k].a == a.facts[k].b)=false:=by simpa[he] using hsk)
    case' pos.false=>have E:=ax (show #[Value.bool false,.int .i64 a.facts[k].b,.int .i64 a.facts[k].a]=cs by rw[hcs,hf',<-he])
    case' pos.true=>have E:=ax (show #[Value.bool true,.int .i64 a.facts[k].b,.int .i64 a.facts[k].a]=cs by rw[hcs,hf',<-he])
    case' neg.false=>have E:=ax (show #[Value.bool false,.int .i64 a.facts[k].a,.int .i64 a.facts[k].b]=cs by rw[hcs,hf',<-he])
    case' neg.true=>have E:=ax (show #[Value.bool true,.int .i64 a.facts[k].a,.int .i64 a.facts[k].b]=cs by rw[hcs,hf',<-he])
    all_goals
     clear hsk he hf' hcs;(go_wp2_with fail);rw[E.o];have kf:=ae.new wr tF cs;replace of:=of.bz (w':=wr.alloc (.cells cs tF)) aj;replace k0:=k0.alloc (.cells cs tF);replace k1:=k1.alloc (.cells cs tF);replace k2:=k2.alloc (.cells cs tF);replace hB:=ai hB (.cells cs tF);generalize (wr.alloc (.cells cs tF))=V at kf of k0 k1 k2 hB⊢;clear bT fI nZ lZ Ag mE xC g0 g1 g2 E;obtain⟨pf,G6⟩:∃p,p=wr.heap.size:=⟨_,rfl⟩;rw[<-G6] at kf Lc⊢;clear G6;rw[xR.o] at kf
     go_loopw [7,8] (fun kn j wr=>∃jj:Nat,jj<=acc.length/\j=.int .i64 jj/\kn=.bool ((acc.take jj).contains f')/\ah wr (po+1) (.slice A acc.length c) acc/\
      ae wr w.heap.size 26 #[.slice (some ⟨b,off,none⟩) a.facts.length c1,.slice A2 a.atoms.length c2]/\ae wr (w.heap.size+1) 26 #[.slice none 0 0,.slice none 0 0]/\ae wr po 26 #[.slice A acc.length c,.slice none 0 0]/\
      ae wr pf tF #[.bool f'.eq,.int .i64 f'.a,.int .i64 f'.b]/\Below w.heap.size w wr) (fun _ j _=>acc.length - (intOf j).toNat)
     case atStart=>exact⟨0,dJ,rfl,by simp,of,k0,k1,k2,kf,hB⟩
     case round=>
      clear of k0 k1 k2 kf hB;obtain⟨jj,hjj,rfl,rfl,of,k0,k1,k2,kf,hB⟩:=hrel;have lZ:=k2.cell;have Ag:=k2.frozen;have Zb:=kf.cell;have xC:=k2.lt;have YT:=kf.lt;have Vj:acc.length<=1049600:=of.2;by_cases hjl:jj<acc.length
      ·obtain⟨b2,o2,rfl,hb2⟩:=of.dG.2.blt hjl;obtain⟨e0,e1,e2⟩:=of.dG.2.cl hjl;have HC:=ax (uf f' acc jj hjl);cases hkn:(acc.take jj).contains f'
       ·by_cases x0:acc[jj].eq=f'.eq
        ·by_cases x1:acc[jj].a=f'.a
         ·by_cases x2:acc[jj].b=f'.b
          ·have DC:=ax (show (acc.take (jj+1)).contains f'=true by rw[HC.o,hkn,decide_eq_true ((aF.eq_iff _ _).2 ⟨x0.symm,x1.symm,x2.symm⟩)];rfl);clear hkn;(go_wp2_with fail);(go_quiet (fail));(go_wp2_with fail)
           go_round
           case rel=>exact⟨jj+1,by omega,by go_num,by rw[DC.o],of.bz aj,k0.drewN _,k1.drewN _,k2.drewN _,kf.drewN _,below_drewN hB _⟩
           case measure=>simp[intOf];omega
          ·have DC:=ax (show (acc.take (jj+1)).contains f'=false by rw[HC.o,hkn,decide_eq_false (fun h=>x2 (by rw[h]))];rfl);clear hkn;(go_wp2_with fail);(go_quiet (fail));(go_wp2_with fail)
           go_round
           case rel=>exact⟨jj+1,by omega,by go_num,by rw[DC.o],of.bz aj,k0.drewN _,k1.drewN _,k2.drewN _,kf.drewN _,below_drewN hB _⟩
           case measure=>simp[intOf];omega
         ·have DC:=ax (show (acc.take (jj+1)).contains f'=false by rw[HC.o,hkn,decide_eq_false (fun h=>x1 (by rw[h]))];rfl);clear hkn;(go_wp2_with fail);(go_quiet (fail));(go_wp2_with fail)
          go_round
          case rel=>exact⟨jj+1,by omega,by go_num,by rw[DC.o],of.bz aj,k0.drewN _,k1.drewN _,k2.drewN _,kf.drewN _,below_drewN hB _⟩
          case measure=>simp[intOf];omega
        ·have DC:=ax (show (acc.take (jj+1)).contains f'=false by rw[HC.o,hkn,decide_eq_false (fun h=>x0 (by rw[h]))];rfl);clear hkn;(go_wp2_with fail);(go_quiet (fail));(go_wp2_with fail)
         go_round
         case rel=>exact⟨jj+1,by omega,by go_num,by rw[DC.o],of.bz aj,k0.drewN _,k1.drewN _,k2.drewN _,kf.drewN _,below_drewN hB _⟩
         case measure=>simp[intOf];omega
       ·have DC:=ax (show (acc.take (jj+1)).contains f'=true by rw[HC.o,hkn];rfl);clear hkn;(go_wp2_with fail);(go_quiet (fail));(go_wp2_with fail)
        go_round
        case rel=>exact⟨jj+1,by omega,by go_num,by rw[DC.o],of.bz aj,k0.drewN _,k1.drewN _,k2.drewN _,kf.drewN _,below_drewN hB _⟩
        case measure=>simp[intOf];omega
      ·obtain rfl:jj=acc.length:=by omega
       rw[List.take_length];cases hkn:acc.contains f'
       ·have HN:=ax (show dL acc a.facts[k]=acc++[f'] by rw[HS.o,hkn];rfl);clear hkn;have rf:=of.bz (w':=wr.alloc (.cells #[.bool f'.eq,.int .i64 f'.a,.int .i64 f'.b] tF)) aj;(go_wp2_with (at_builtin;refine gN rfl _ _ rfl (v:=.slice A acc.length c) rfl rf rfl (aG.one (ae.new wr _ _)) (by simp;omega) (by simp;omega) ?_;intro A' c' w2 lQ hg2 hB3;have z2:=ae.zm (g:=po) (k2.alloc _) rf.1 hg2 (by decide);have GX:=z2.cell;have QK:=z2.frozen));have z0:=ae.zm (g:=w.heap.size) (k0.alloc _) rf.1 hg2 (by decide);have z1:=ae.zm (g:=w.heap.size+1) (k1.alloc _) rf.1 hg2 (by decide);have hBw2:=Below.trans (ai hB _) (hB3.mono (by omega))
        go_round
        case rel=>
         refine⟨k+1,acc++[f'],A',c',by omega,by go_num,by simp;omega,by show _=_;rw[HA.o,HD.o,HN.o],?_,z0.far (by simp only[];omega) _,z1.far (by simp only[];omega) _,?_,aj⟩
         ·simpa using lQ.aA z2 (by decide) _ _
         ·simpa using z2.ag 0 (.slice A' (acc.length+1) c')
        case measure=>simp[intOf];omega
       ·have HN:=ax (show dL acc a.facts[k]=acc by rw[HS.o,hkn];rfl);clear hkn;(go_wp2_with fail)
        go_round
        case rel=>exact⟨k+1,acc,A,c,by omega,by go_num,by omega,by show _=_;rw[HA.o,HD.o,HN.o],of,k0,k1,k2,hB⟩
        case measure=>simp[intOf];omega
   ·have HN:=ax (show dL acc a.facts[k]=acc by rw[dL,hsk];rfl);have he:a.facts[k].eq=true:=by simp at hsk;exact hsk.1
    have hab:(a.facts[k].a == a.facts[k].b)=true:=by simp at hsk;simpa using hsk.2
    rw[he] at g0;clear hsk he;(go_wp2_with fail)
    go_round
    case rel=>exact⟨k+1,acc,A,c,by omega,by go_num,by omega,by show _=_;rw[HA.o,HD.o,HN.o],of.bz aj,k0.alloc _,k1.alloc _,k2.alloc _,aj⟩
    case measure=>simp[intOf];omega
  ·obtain rfl:k=a.facts.length:=by omega
   have HN:=ax (show a.facts.foldl dL []=acc by rw[HA.o,drop_length];rfl);have HL:aJ (iZ a=⟨acc,a.atoms.filter uq⟩):=by show _=_;rw[iZ,HN.o]
   clear HA HN;(go_wp2_with fail)
   go_loopw [9] (fun i wr=>∃(k:Nat) (B:Option Addr) (d:Nat),k<=a.atoms.length/\i=.int .i64 k/\ah wr (po+1) (.slice A acc.length c) acc/\af wr (po+1) (.slice B ((a.atoms.take k).filter uq).length d) ((a.atoms.take k).filter uq)/\
    ae wr w.heap.size 26 #[.slice A1 a.facts.length c1,.slice A2 a.atoms.length c2]/\ae wr (w.heap.size+1) 26 #[.slice none 0 0,.slice none 0 0]/\ae wr po 26 #[.slice A acc.length c,.slice B ((a.atoms.take k).filter uq).length d]/\Below w.heap.size w wr) (fun i _=>a.atoms.length - (intOf i).toNat)
   case atStart=>exact⟨0,none,0,dJ,rfl,of,af.nil _ _,k0,k1,k2,aj⟩
   case round=>
    clear k0 k1 k2 of hB bT fI nZ mE lZ Ag xC;obtain⟨k,B,d,hk,rfl,of,oa,k0,k1,k2,hB⟩:=hrel;(replace bT:=k0.z;replace fI:=k1.cell;replace nZ:=k1.frozen;replace mE:=k1.lt;replace lZ:=k2.cell;replace Ag:=k2.frozen;replace xC:=k2.lt);by_cases hlt:k<a.atoms.length
    ·obtain⟨b,off,rfl,hbl⟩:=h2.blt hlt;obtain⟨g0,g1,g2⟩:=(h2.bz hB).cl hlt;have HT:=ax (lF uq a.atoms k hlt);have Nb:((a.atoms.take k).filter uq).length<=k:=Nat.le_trans (List.length_filter_le _ _) (by simp;omega)
     have hkd:a.atoms[k].kind=1\/a.atoms[k].kind=2:=by
      have hvb:=HVr.o;simp only[au.valid,Bool.and_eq_true] at hvb;have:=List.all_eq_true.1 hvb.2.2 _ (getElem_mem hlt);simp only[aL.valid,Bool.and_eq_true,decide_eq_true_eq] at this;exact this.1.1
     obtain⟨xs,hxs⟩:∃xs,xs=(a.atoms.take k).filter uq:=⟨_,rfl⟩;rw[<-hxs] at HT Nb oa k2 lZ;have HX:=ax hxs;clear hxs;have lb:b<wr.heap.size:=Nat.lt_of_lt_of_le hbl hB.size;rcases hkd with hkd|hkd
     ·have HN:aJ ((a.atoms.take (k+1)).filter uq=xs++[a.atoms[k]]):=by show _=_;rw[HT.o,uq,hkd];simp
      have hk1:(a.atoms[k].kind == 1)=true:=by simp[hkd]
      clear hkd;(go_wp2_with fail);(go_quiet (fail));replace of:=of.bz (w':=wr.drewN nq) aj;replace oa:=oa.bz (w':=wr.drewN nq) aj;replace k0:=k0.drewN nq;replace k1:=k1.drewN nq;replace k2:=k2.drewN nq;replace hB:=below_drewN hB nq;have g0':(wr.drewN nq).cell? ⟨b,off+k*3,none⟩=some (.int .i64 a.atoms[k].kind):=((h2.bz hB).cl hlt).1;have g1':(wr.drewN nq).cell? ⟨b,off+k*3+1,none⟩=some (.int .i64 a.atoms[k].a):=((h2.bz hB).cl hlt).2.1;have g2':(wr.drewN nq).cell? ⟨b,off+k*3+2,none⟩=some (.int .i64 a.atoms[k].b):=((h2.bz hB).cl hlt).2.2;clear bT fI nZ mE lZ Ag xC g0 g1 g2 lb;(go_wp2_with fail);generalize wr.drewN nq=V at of oa k0 k1 k2 hB g0' g1' g2'⊢;(replace bT:=k0.z;replace fI:=k1.cell;replace nZ:=k1.frozen;replace mE:=k1.lt;replace lZ:=k2.cell;replace Ag:=k2.frozen;replace xC:=k2.lt);refine wp_region_noPanic ?_;refine bQ (S:=(fun w'=>(∀i,w'.cell? ⟨po,i,none⟩=#[.slice A acc.length c,.slice B xs.length d][i]?)/\(∀i,w'.cell? ⟨w.heap.size,i,none⟩=#[.slice A1 a.facts.length c1,.slice (some ⟨b,off,none⟩) a.atoms.length c2][i]?)/\w'.cell? ⟨b,off+k*3,none⟩=some (.int .i64 a.atoms[k].kind)/\w'.cell? ⟨b,off+k*3+1,none⟩=some (.int .i64 a.atoms[k].a)/\w'.cell? ⟨b,off+k*3+2,none⟩=some (.int .i64 a.atoms[k].b))) (by simp) (by kernel_rfl) (by kernel_rfl) (⟨ae.cell az,ae.cell az,((kD (W:=V) aj).1 b _ (block_lt_of_cell g0')).trans g0',((kD (W:=V) aj).1 b _ (block_lt_of_cell g1')).trans g1',((kD (W:=V) aj).1 b _ (block_lt_of_cell g2')).trans g2'⟩) (fun aH=>?_);simp only[dropLast,getLast,gP,List.cons_append,nil_append,length_cons,length_nil,Nat.zero_add,Nat.reduceAdd];refine jQ 0 1 2 3 4 ?_;refine uM 5 6 ?_;refine aX 7 rfl fun K hK=>?_;(try simp only[zz]);go_simp;refine hK.out _ _ (⟨ae.cell az,ae.cell az,((kD (W:=V) aj).1 b _ (block_lt_of_cell g0')).trans g0',((kD (W:=V) aj).1 b _ (block_lt_of_cell g1')).trans g1',((kD (W:=V) aj).1 b _ (block_lt_of_cell g2')).trans g2'⟩) ?_;clear aH hK K;intro aH;(try simp only[zz]);refine aX 8 rfl fun K hK=>?_;skip;(refine lW (base:=po+1) (xs:=xs) rfl _ _ rfl rfl (af.bz (w:=V) oa aj) rfl (aB.qV az) (by simp;omega) (by simp;omega) ?_;intro B' d' w2 Iu hg2 hB3;have z2:=ae.zm (g:=po) (hg:=hg2) az (af.bz (w:=V) oa aj).1 (by decide);have GX:=z2.cell;have QK:=z2.frozen;have z0:=ae.zm (g:=w.heap.size) (hg:=hg2) az (af.bz (w:=V) oa aj).1 (by decide);have z1:=ae.zm (g:=w.heap.size+1) (hg:=hg2) az (af.bz (w:=V) oa aj).1 (by decide);have hBw2:Below w.heap.size w w2:=Below.trans aj (hB3.mono (by omega));have gg:=(h2.bz hBw2).cl hlt);refine hK.out _ _ (⟨GX,z0.cell,gg.1,gg.2.1,gg.2.2⟩) ?_;clear aH hK K;intro aH;refine jh 9 ?_;refine aX 10 rfl fun K hK=>?_;go_simp;refine hK.out _ _ (⟨GX,z0.cell,gg.1,gg.2.1,gg.2.2⟩) (fun aH=>?_);clear hK K;refine wpAnyH_done (by kernel_rfl) ?_ _;unfold mi;go_simp;refine NoPanic.normal ?_;have lQ:=ah.jF (ah.bz (w:=V) of aj) (af.bz (w:=V) oa aj) hg2;(go_wp2_with fail)
      go_round
      case rel=>
       refine⟨k+1,B',d',by omega,by go_num,lQ.aA z2 (by decide) _ _,?_,z0.far (by simp only[];omega) _,z1.far (by simp only[];omega) _,?_,aj⟩
       ·rw[HN.o];simpa using Iu.aA z2 (by decide) 1 (.slice B' (xs++[a.atoms[k]]).length d')
       ·rw[HN.o];simpa using z2.ag 1 (.slice B' (xs.length+1) d')
      case measure=>simp[intOf];omega
     ·cases hab:(a.atoms[k].a != a.atoms[k].b)
      ·have HN:aJ ((a.atoms.take (k+1)).filter uq=xs):=by show _=_;rw[HT.o,uq,hkd,hab];simp
       have hk1:(a.atoms[k].kind == 1)=false:=by simp[hkd]
       have Sa:(a.atoms[k].a == a.atoms[k].b)=true:=by simpa using hab
       clear hkd;(go_wp2_with fail);(go_quiet (fail));(go_wp2_with fail)
       go_round
       case rel=>exact⟨k+1,B,d,by omega,by go_num,of.bz aj,by rw[HN.o];exact oa.bz aj,k0.drewN _,k1.drewN _,by rw[HN.o];exact k2.drewN _,aj⟩
       case measure=>simp[intOf];omega
      ·have HN:aJ ((a.atoms.take (k+1)).filter uq=xs++[a.atoms[k]]):=by show _=_;rw[HT.o,uq,hkd,hab];simp
       have hk1:(a.atoms[k].kind == 1)=false:=by simp[hkd]
       have Sa:(a.atoms[k].a == a.atoms[k].b)=false:=by simpa using hab
       clear hkd;(go_wp2_with fail);(go_quiet (fail));replace of:=of.bz (w':=wr.drewN nq) aj;replace oa:=oa.bz (w':=wr.drewN nq) aj;replace k0:=k0.drewN nq;replace k1:=k1.drewN nq;replace k2:=k2.drewN nq;replace hB:=below_drewN hB nq;have g0':(wr.drewN nq).cell? ⟨b,off+k*3,none⟩=some (.int .i64 a.atoms[k].kind):=((h2.bz hB).cl hlt).1;have g1':(wr.drewN nq).cell? ⟨b,off+k*3+1,none⟩=some (.int .i64 a.atoms[k].a):=((h2.bz hB).cl hlt).2.1;have g2':(wr.drewN nq).cell? ⟨b,off+k*3+2,none⟩=some (.int .i64 a.atoms[k].b):=((h2.bz hB).cl hlt).2.2;clear bT fI nZ mE lZ Ag xC g0 g1 g2 lb;(go_wp2_with fail);generalize wr.drewN nq=V at of oa k0 k1 k2 hB g0' g1' g2'⊢;(replace bT:=k0.z;replace fI:=k1.cell;replace nZ:=k1.frozen;replace mE:=k1.lt;replace lZ:=k2.cell;replace Ag:=k2.frozen;replace xC:=k2.lt);refine wp_region_noPanic ?_;refine bQ (S:=(fun w'=>(∀i,w'.cell? ⟨po,i,none⟩=#[.slice A acc.length c,.slice B xs.length d][i]?)/\(∀i,w'.cell? ⟨w.heap.size,i,none⟩=#[.slice A1 a.facts.length c1,.slice (some ⟨b,off,none⟩) a.atoms.length c2][i]?)/\w'.cell? ⟨b,off+k*3,none⟩=some (.int .i64 a.atoms[k].kind)/\w'.cell? ⟨b,off+k*3+1,none⟩=some (.int .i64 a.atoms[k].a)/\w'.cell? ⟨b,off+k*3+2,none⟩=some (.int .i64 a.atoms[k].b))) (by simp) (by kernel_rfl) (by kernel_rfl) (⟨ae.cell az,ae.cell az,((kD (W:=V) aj).1 b _ (block_lt_of_cell g0')).trans g0',((kD (W:=V) aj).1 b _ (block_lt_of_cell g1')).trans g1',((kD (W:=V) aj).1 b _ (block_lt_of_cell g2')).trans g2'⟩) (fun aH=>?_);simp only[dropLast,getLast,gP,List.cons_append,nil_append,length_cons,length_nil,Nat.zero_add,Nat.reduceAdd];refine jQ 0 1 2 3 4 ?_;refine uM 5 6 ?_;refine aX 7 rfl fun K hK=>?_;(try simp only[zz]);go_simp;refine hK.out _ _ (⟨ae.cell az,ae.cell az,((kD (W:=V) aj).1 b _ (block_lt_of_cell g0')).trans g0',((kD (W:=V) aj).1 b _ (block_lt_of_cell g1')).trans g1',((kD (W:=V) aj).1 b _ (block_lt_of_cell g2')).trans g2'⟩) ?_;clear aH hK K;intro aH;(try simp only[zz]);refine aX 8 rfl fun K hK=>?_;skip;(refine lW (base:=po+1) (xs:=xs) rfl _ _ rfl rfl (af.bz (w:=V) oa aj) rfl (aB.qV az) (by simp;omega) (by simp;omega) ?_;intro B' d' w2 Iu hg2 hB3;have z2:=ae.zm (g:=po) (hg:=hg2) az (af.bz (w:=V) oa aj).1 (by decide);have GX:=z2.cell;have QK:=z2.frozen;have z0:=ae.zm (g:=w.heap.size) (hg:=hg2) az (af.bz (w:=V) oa aj).1 (by decide);have z1:=ae.zm (g:=w.heap.size+1) (hg:=hg2) az (af.bz (w:=V) oa aj).1 (by decide);have hBw2:Below w.heap.size w w2:=Below.trans aj (hB3.mono (by omega));have gg:=(h2.bz hBw2).cl hlt);refine hK.out _ _ (⟨GX,z0.cell,gg.1,gg.2.1,gg.2.2⟩) ?_;clear aH hK K;intro aH;refine jh 9 ?_;refine aX 10 rfl fun K hK=>?_;go_simp;refine hK.out _ _ (⟨GX,z0.cell,gg.1,gg.2.1,gg.2.2⟩) (fun aH=>?_);clear hK K;refine wpAnyH_done (by kernel_rfl) ?_ _;unfold mi;go_simp;refine NoPanic.normal ?_;have lQ:=ah.jF (ah.bz (w:=V) of aj) (af.bz (w:=V) oa aj) hg2;(go_wp2_with fail)
       go_round
       case rel=>
        refine⟨k+1,B',d',by omega,by go_num,lQ.aA z2 (by decide) _ _,?_,z0.far (by simp only[];omega) _,z1.far (by simp only[];omega) _,?_,aj⟩
        ·rw[HN.o];simpa using Iu.aA z2 (by decide) 1 (.slice B' (xs++[a.atoms[k]]).length d')
        ·rw[HN.o];simpa using z2.ag 1 (.slice B' (xs.length+1) d')
       case measure=>simp[intOf];omega
    ·obtain rfl:k=a.atoms.length:=by omega
     rw[List.take_length] at oa k2 lZ;go_wp2;refine bodyPost_ret (v:=.tuple #[.agg #[.slice A acc.length c,.slice B (a.atoms.filter uq).length d],.bool true]) (by simp[results,Tryz.results114,go_sem,fI]) rfl ⟨_,rfl,?_,aj⟩;rw[HL.o];exact⟨_,_,rfl,((of.aA k1 (by decide) _ _).aA (k1.ag _ _) (by decide) _ _).bq,((oa.aA k1 (by decide) _ _).aA (k1.ag _ _) (by decide) _ _).bq⟩
--@ spec.Wv
theorem qQ{lo hi bJ hi' : Nat}(v : Value)(a : au)(B : Option Addr)(c K : Nat)(w : World)(h : aM w lo hi v a)(h' : bB w bJ hi' B (zj K))(hv : a.valid = true) :
    Calls Tryz.prog 112 #[v, .slice B 9 c] w fun e w' => e = .returned (.tuple #[.int .i64 ((bD K a.facts).getD (0, 0)).1, .int .i64 ((bD K a.facts).getD (0, 0)).2, .bool (bD K a.facts).isSome]) /\ Below w.heap.size w w' := by
  obtain⟨A1, c1, A2, c2, rfl, h1, h2⟩ := h;have hl := h1.le;have HV := ax hv;clear hv;obtain⟨pb, po, rfl, hpb⟩ := iN h';(go_enter Tryz.func112, Tryz.ntmps112);go_wp2
  go_loopw [7] (fun i wr => ∃k : Nat, k <= a.facts.length /\ i = .int .i64 k /\ aJ (bD K a.facts = bD K (a.facts.drop k)) /\ ae wr w.heap.size 26 #[.slice A1 a.facts.length c1, .slice A2 a.atoms.length c2] /\ Below w.heap.size w wr) (fun i _ => a.facts.length - (intOf i).toNat)
  case atStart => exact⟨0, dJ, rfl, by simp [aJ], az, aj⟩
  case round =>
    obtain⟨k, hk, rfl, HA, k0, hB⟩ := hrel;(replace bT := k0.z);have hf := h'.bz hB;have hpb2 : pb < wr.heap.size := Nat.lt_of_lt_of_le hpb hB.size;by_cases hlt : k < a.facts.length
    · obtain⟨b, off, rfl, hbl⟩ := h1.blt hlt
      obtain⟨c0, c1', c2'⟩ := (h1.bz hB).cl hlt;have HD := ax (uV K a.facts k hlt)
      have oI : a.facts[k].valid = true := by
        have hvb := HV.o;simp only [au.valid, aS, Bool.and_eq_true] at hvb;exact List.all_eq_true.1 hvb.1.2 _ (getElem_mem hlt)
      simp only [aF.valid, Bool.and_eq_true] at oI;have b1 := qU.1 oI.1;have b2 := qU.1 oI.2;clear oI;obtain⟨m1, e1⟩ := Int.eq_ofNat_of_zero_le b1.1;obtain⟨m2, e2⟩ := Int.eq_ofNat_of_zero_le b2.1;have E1 := ax e1;have E2 := ax e2;rw [e1] at c1';rw [e2] at c2';have m18 : (m1 : Int) < 9 := by omega
      have m28 : (m2 : Int) < 9 := by omega
      have f1 := iM hf (m := m1) (by omega);have f2 := iM hf (m := m2) (by omega)
      have hq : iH K a.facts[k] = if a.facts[k].eq && !((m1 : Int) == m2) then (if decide (4 < m1) && !K.testBit m1 then some ((m1 : Int), (m2 : Int)) else if decide (4 < m2) && !K.testBit m2 then some ((m2 : Int), (m1 : Int)) else none) else none := by
        have x1 : free K (m1 : Int) = (decide (4 < m1) && !K.testBit m1) := by
          unfold free uo; rw [Int.toNat_natCast]; congr 1; rw [decide_eq_decide]; omega
        have x2 : free K (m2 : Int) = (decide (4 < m2) && !K.testBit m2) := by
          unfold free uo; rw [Int.toNat_natCast]; congr 1; rw [decide_eq_decide]; omega
        rw [iH, e1, e2, x1, x2]
      have HQ := ax hq;clear e1 e2 b1 b2 hq hf;cases he : a.facts[k].eq
      · rw [he] at c0
        have HS : aJ (iH K a.facts[k] = none) := by show _ = _; rw [HQ.o, he]; rfl
        clear he;(go_wp2_with fail)
        go_round
        case rel => exact⟨k + 1, by omega, by go_num, by show _ = _; rw [HA.o, HD.o, HS.o]; rfl, k0.alloc _, aj⟩
        case measure => simp [intOf]; omega
      rw [he] at c0;by_cases hab : m1 = m2
      · have HS : aJ (iH K a.facts[k] = none) := by show _ = _; rw [HQ.o, he, hab]; simp
        have t0 : ((m1 : Int) == (m2 : Int)) = true := by simp [hab]
        subst hab;clear he;(go_wp2_with fail)
        go_round
        case rel => exact⟨k + 1, by omega, by go_num, by show _ = _; rw [HA.o, HD.o, HS.o]; rfl, k0.alloc _, aj⟩
        case measure => simp [intOf]; omega
      have t0 : ((m1 : Int) == (m2 : Int)) = false := by simp; omega
      have Ww : ¬ ((m1 : Int) = (m2 : Int)) := by omega
      by_cases la : 4 < m1
      all_goals
        by_cases lb : 4 < m2
        all_goals
          cases ka : K.testBit m1
          all_goals
            cases kb : K.testBit m2
            all_goals
              have HS := HQ.o;simp [he, Ww, la, lb, ka, kb] at HS;replace HS := ax HS;rw [ka] at f1;rw [kb] at f2;clear ka kb
      all_goals clear he hab Ww
      all_goals
        go_wp2_with fail
        first
          | (go_round
             case rel => exact⟨k + 1, by omega, by go_num, by show _ = _; rw [HA.o, HD.o, HS.o]; rfl, k0.alloc _, aj⟩
             case measure => simp [intOf]; omega)
          | (go_quiet (fail)
             go_wp2_with fail
             go_ret3
             refine⟨by rw [HA.o, HD.o, HS.o]; rfl, below_drewN aj _⟩)
    · obtain rfl : k = a.facts.length := by omega
      go_wp2_with fail
      go_ret3
      have e : bD K a.facts = none := by rw [HA.o, drop_length]; rfl
      exact⟨by rw [e]; rfl, aj⟩
end
section
open Go Go.RowKit Go.Proofs
end
section
open Go Go.RowKit Go.Proofs
attribute [local go_sem ↓] Go.wp_at_zero Go.wp_at_succ
end
section
open Go Go.RowKit Go.Proofs
theorem I4:∀(N:Nat) (L:ay),L.sz<N->∀(A:Option Addr) (c d lo hi:Nat) (D:Int) (w:World),D=d->bH w lo hi A L->L.len<=1049600->L.small 1049600->L.sz<=4200000->d<=4->
  Calls Tryz.prog 53 #[.slice A L.len c,.int .i64 D] w fun e w'=>e=.returned (.int .i64 (L.count d))/\Below w.heap.size w w':=by
 intro N
 induction N with
 | zero=>intro L h;omega
 | succ N IH=>
  intro L hsz A c d lo hi D w hD hV hlen hsm hcz hd;replace IH:=ax IH;replace hV:=ax hV;replace hsm:=ax hsm;replace hsz:=ax hsz;replace hcz:=ax hcz;obtain⟨n,hn⟩:∃n,n=L.len:=⟨_,rfl⟩;obtain⟨R,hR⟩:∃R,R=L.count d:=⟨_,rfl⟩;have hRz:R<=4200000:=by rw[hR];exact Nat.le_trans (ay.count_le L d) hcz.o
  rw[<-hn,<-hR];rw[<-hn] at hlen;replace hn:=ax hn;replace hR:=ax hR;rcases Nat.eq_zero_or_pos d with rfl|hd0
  ·subst hD;have e0:aJ (R=0):=by rw[aJ,hR.o];cases L<;>simp[ay.count]
   (go_enter Tryz.func53,Tryz.ntmps53);(go_wp2_with fail)
   go_loopw [5,6] (fun m x wr=>m=.int .i64 0/\x=.int .i64 0/\Below w.heap.size w wr) (fun _ _ _=>0)
   case atStart=>exact⟨rfl,rfl,aj⟩
   case round=>
    obtain⟨rfl,rfl,hB⟩:=hrel;by_cases q1:0<n
    all_goals
     go_wp2;go_ret;exact⟨by rw[e0.o];rfl,hB⟩
  obtain⟨d,rfl⟩:∃e,d=e+1:=⟨d - 1,by omega⟩;clear hd0;have hD1:0<D:=by omega
  have hD4:D<=4:=by omega
  replace hD:=ax hD;(go_enter Tryz.func53,Tryz.ntmps53);(go_wp2_with fail)
  go_loopw [5,6] (fun y x wr=>∃j m:Nat,j<=n/\x=.int .i64 j/\y=.int .i64 m/\m<=R/\aJ (R=m+(L.drop j).count (d+1))/\Below w.heap.size w wr) (fun _ x _=>n - (intOf x).toNat)
  case atStart=>exact⟨0,0,dJ,rfl,rfl,dJ,ax (by rw[Nat.zero_add];exact hR.o),aj⟩
  case round=>
   obtain⟨j,m,hj,rfl,rfl,hmR,HR,hB⟩:=hrel;by_cases hlt:j<n
   ·have hpos:0<(L.drop j).len:=by rw[ay.iT,<-hn.o];omega
    obtain⟨k,a,b,t,i,body,els,r,eL⟩:=ay.dF hpos;obtain⟨bl,o,rfl,-,-,hAt⟩:=(hV.o.bz hB) (by rw[<-hn.o];omega);have hD:=hAt.drop j;have hS:=ay.fG j hsm.o;have hZ:=ay.kv j L;have hDs:=ay.ik j L eL;have iU:=HR.o;rw[eL] at hD hS hZ iU;obtain⟨⟨p0,p1,p2,p3,p4,p5⟩,⟨A6,c6,p6,g6⟩,⟨A7,c7,p7,g7⟩,⟨A8,c8,p8,g8⟩,⟨A9,c9,p9,g9⟩,-⟩:=hD;obtain⟨s1,s2,s3,s4,s5,s6,-⟩:=hS;simp only[ay.sz] at hZ;have hbs:body.sz<N:=by have:=hsz.o;omega
    have hes:els.sz<N:=by have:=hsz.o;omega
    have hbz:body.sz<=4200000:=by have:=hcz.o;omega
    have Uw:els.sz<=4200000:=by have:=hcz.o;omega
    have gB:aJ (bH wr lo hi A8 body):=g8;have gE:aJ (bH wr lo hi A9 els):=g9;rw[ay.count,if_pos (by omega),Nat.add_sub_cancel,<-hDs] at iU;obtain⟨x1,hx1⟩:∃x,x=body.count d:=⟨_,rfl⟩;obtain⟨x2,hx2⟩:∃x,x=els.count d:=⟨_,rfl⟩;rw[<-hx1,<-hx2] at iU;have y1:m+x1+x2+1<=R:=by omega
    replace iU:=ax iU;replace hx1:=ax hx1;replace hx2:=ax hx2;replace hbs:=ax hbs;replace hes:=ax hes;replace hbz:=ax hbz;replace Uw:=ax Uw;replace s5:=ax s5;replace s6:=ax s6;clear hZ hpos hAt g6 g7 g8 g9 HR hDs eL s1 s2;(go_wp2_with fail);have I5:=block_lt_of_cell p8;have i1:IntKind.i64.wrap ((m:Int)+1)=(m:Int)+1:=IntWalk.i64_in _ (by omega);have i2:IntKind.i64.wrap ((m:Int)+1+x1)=(m:Int)+1+x1:=IntWalk.i64_in _ (by omega);have i3:IntKind.i64.wrap ((m:Int)+1+x1+x2)=(m:Int)+1+x1+x2:=IntWalk.i64_in _ (by omega);have i4:IntKind.i64.wrap (D - 1)=D - 1:=IntWalk.i64_in _ (by omega);clear p0 p1 p2 p3 p4 p5 p6 p7;refine lS (S:=(fun w'=>w'.cell? ⟨bl,o+j * 10+8,none⟩=some (.slice A8 body.len c8)/\w'.cell? ⟨bl,o+j * 10+9,none⟩=some (.slice A9 els.len c9))) (⟨p8,p9⟩) fun aH=>?_;refine jQ 0 1 2 3 4 ?_;refine jQ 5 6 7 8 11 ?_;refine jQ 12 13 14 15 16 ?_;refine jh 17 ?_;refine aX 9 rfl fun K hK=>?_;(try simp only[zz]);(go_simp;refine(IH.o body hbs.o A8 c8 d lo hi _ _ (by have:=hD.o;push_cast at this;omega) (gB.o.bz aj) s3 s5.o hbz.o (by omega)).mono ?_;rintro e w8 ⟨rfl,hBx⟩;rw[<-hx1.o];replace hB:=aP hB.drew hBx;replace gE:=ax ((gE.o.bz aU.drew).bz hBx);replace p8:=(hBx.cell (p:=⟨bl,o+j * 10+8,none⟩) I5).trans p8;replace p9:=(hBx.cell (p:=⟨bl,o+j * 10+9,none⟩) I5).trans p9;clear hBx I5;have I5:=block_lt_of_cell p8);refine hK.out _ _ (⟨p8,p9⟩) ?_;clear aH hK K;intro aH;refine jh 10 ?_;refine aX 18 rfl fun K hK=>?_;(try simp only[zz]);(go_simp;refine(IH.o els hes.o A9 c9 d lo hi _ _ (by have:=hD.o;push_cast at this;omega) gE.o s4 s6.o Uw.o (by omega)).mono ?_;rintro e w9 ⟨rfl,hBx⟩;rw[<-hx2.o];replace hB:=aP hB hBx;replace p8:=(hBx.cell (p:=⟨bl,o+j * 10+8,none⟩) I5).trans p8;replace p9:=(hBx.cell (p:=⟨bl,o+j * 10+9,none⟩) I5).trans p9;clear hBx I5);refine hK.out _ _ (⟨p8,p9⟩) ?_;clear aH hK K;intro aH;refine uM 19 20 ?_;refine jP ?_;clear p8 p9 i1 i2 i3 i4;(go_wp2_with fail)
    go_round
    case rel=>exact⟨j+1,m+x1+x2+1,by omega,by go_num,by push_cast;congr 1;omega,by omega,ax (by have:=iU.o;omega),hB⟩
    case measure=>simp[intOf];omega
   ·go_wp2;go_ret;obtain rfl:j=n:=by omega
    have e1:L.drop j=.nil:=by rw[hn.o];exact ay.jw L
    have h2:=HR.o;rw[e1] at h2;exact⟨by rw[h2];rfl,hB⟩
theorem wX{lo hi:Nat}(L:ay)(A:Option Addr)(c:Nat)(w:World)(hV:bH w lo hi A L)(hlen:L.len<=1049600)(hsm:L.small 1049600)(hz:L.sz<=4200000) :
  Calls Tryz.prog 24 #[.slice A L.len c] w fun e w'=>e=.returned (.bool L.prog)/\Below w.heap.size w w':=by
 obtain⟨R,hR⟩:∃R,R=L.prog:=⟨_,rfl⟩;obtain⟨x,hx⟩:∃x,x=L.shape 4:=⟨_,rfl⟩;rw[<-hR];rw[ay.prog,<-hx] at hR;have hc:x=true->L.count 4=L.sz:=fun h=>ay.nR (by rw[<-hx];exact h);replace hc:=ax hc;replace hR:=ax hR;replace hx:=ax hx;replace hV:=ax hV;replace hsm:=ax hsm;(go_enter Tryz.func24,Tryz.ntmps24);(go_wp2_with fail);refine(IY _ L (Nat.lt_succ_self _) A c 4 lo hi w hV.o hlen hsm.o (by omega)).mono ?_;rintro e w1 ⟨rfl,hB1⟩;rw[<-hx.o];cases x
 ·go_wp2;go_ret;exact⟨dz (by rw[hR.o];rfl),hB1⟩
 (go_wp2_with fail);refine(I4 _ L (Nat.lt_succ_self _) A c 4 lo hi 4 w1 rfl (hV.o.bz hB1) hlen hsm.o hz (by omega)).mono ?_;rintro e w2 ⟨rfl,hB2⟩;rw[hc.o (by simp)];have hB:=aP hB1 hB2;go_wp2;go_ret;exact⟨dz (by rw[hR.o,Bool.true_and];simp;omega),hB⟩
theorem jl{lo hi:Nat}(L:ay)(A:Option Addr)(c:Nat)(w:World)(hV:bH w lo hi A L)(hlen:L.len<=1049600)(hsm:L.small 1049600)(hz:L.sz<=1049600) :
  Calls Tryz.prog 24 #[.slice A L.len c] w fun e w'=>e=.returned (.bool L.prog)/\Below w.heap.size w w':=
 wX L A c w hV hlen hsm (by omega)
theorem I6{ops:Array Oper}{o:Oper}{a:Act}{K:Act->World->Prop}{Q:Exit->Act->World->Prop}{E:Prop}{w:World}{base lo hi c:Nat}{v:Value}{A:Option Addr}(hgd:o.guard=none)(s x:Operand)(ho:o.op=.call { callee:=.builtin .append,args:=#[s,x],argTypes:=#[28,28] })
  {xs ys:List Int} (hs:a.eval s=v) (hown:aD w base v xs) (hx:a.eval x=.slice A ys.length c) (hR:bG w lo hi A ys) (hn:xs.length+ys.length<=1049600) (hb:base<=w.heap.size)
  (h:∀A' c' w',aD w' base (.slice A' (xs++ys).length c') (xs++ys)->w.grownBy w' v.ownBlock->Below base w w'->K (a.put o.dst (.slice A' (xs++ys).length c')) w'):if Region.wanted o (yielded ops a.tmps)=true then Oper.wp Tryz.prog o a w K Q else E:=by
 have hw:Region.wanted o (yielded ops a.tmps)=true:=by simp[Region.wanted,hgd]
 rw[if_pos hw];refine uP s x 28 ho Tryz.underlying28 Jy rfl (by decide) (by decide) hs hown.1 hx hR.raw (zg _) hn hb ?_;intro v' w' h1 h2 h3;have hO:aD w' base v' (xs++ys):=⟨by rw[List.length_append,show encI (xs++ys)=encI xs++encI ys from List.map_append];exact h1,by simp[il];omega⟩;obtain⟨A',c',rfl,-⟩:=hO.rj;exact h A' c' w' hO h2 h3
theorem aD.four(w:World)(a b c d:Int){base:Nat}(hb:base<=w.heap.size):aD (w.alloc (.cells #[.int .i64 a,.int .i64 b,.int .i64 c,.int .i64 d] tI)) base (.slice (some ⟨w.heap.size,0,none⟩) 4 4) [a,b,c,d]:=
 ⟨ed (n:=4) (cap:=4) (ae.new w tI _) hb (by simp) (by intro j hj;simp) bn (by decide) (by simp),by simp[il]⟩
theorem AO{S:Nat}(xs:List Int)(q:Nat)(hq:q<xs.length):(xs.drop q).foldl oZ S=(xs.drop (q+1)).foldl oZ (oZ S xs[q]):=by
 rw[List.drop_eq_getElem_cons hq];rfl
theorem DX:∀(N:Nat) (L:ay),L.sz<N->∀(A:Option Addr) (c lo hi g S d:Nat) (w:World),bH w lo hi A L->L.len<=1049600->L.small 1049600->L.shape d=true->hi<=g->S<512->ae w g tB (dN (zj S)).toArray->
  Calls Tryz.prog 25 #[.slice (some ⟨g,0,none⟩) 9 9,.slice A L.len c] w fun e w'=>e=.returned (.slice (some ⟨g,0,none⟩) 9 9)/\ae w' g tB (dN (zj (L.fold ry S))).toArray/\Mk (fun x=>x=g) w w':=by
 intro N
 induction N with
 | zero=>intro L h;omega
 | succ N IH=>
  intro L hsz A c lo hi g S d w hV hlen hsm hsh yf hS hK;replace IH:=ax IH;replace hsm:=ax hsm;replace hsz:=ax hsz;replace hsh:=ax hsh;obtain⟨n,hn⟩:∃n,n=L.len:=⟨_,rfl⟩;rw[<-hn];rw[<-hn] at hlen;replace hn:=ax hn;have hgl:=hK.lt;replace hV:=ax hV;(go_enter Tryz.func25,Tryz.ntmps25);(go_wp2_with fail)
  go_loopw [0,5] (fun y x wr=>∃(j S1:Nat),j<=n/\x=.int .i64 j/\y=.slice (some ⟨g,0,none⟩) 9 9/\S1<512/\aJ (L.fold ry S=(L.drop j).fold ry S1)/\ae wr g tB (dN (zj S1)).toArray/\Mk (fun x=>x=g) w wr) (fun _ x _=>n - (intOf x).toNat)
  case atStart=>exact⟨0,S,dJ,rfl,rfl,hS,ax rfl,hK,Mk.refl _ _⟩
  case round=>
   clear hK;obtain⟨j,S1,hj,rfl,rfl,hS1,HR,kS,hM⟩:=hrel;obtain⟨wo,rfl⟩:∃x,x=wr:=⟨_,rfl⟩;by_cases hlt:j<n
   ·have hpos:0<(L.drop j).len:=by rw[ay.iT,<-hn.o];omega
    obtain⟨k,a,b,t,i,body,els,r,eL⟩:=ay.dF hpos;obtain⟨bl,o,rfl,-,hblt,hAt⟩:=(hV.o.Lb hM yf hgl) (by rw[<-hn.o];omega);have hD:=hAt.drop j;have Qm:=ay.fG j hsm.o;have hZ:=ay.kv j L;have hDs:=ay.ik j L eL;have Qn:=ay.nk j hsh.o;have iU:=HR.o;rw[eL] at hD Qm hZ iU Qn;obtain⟨⟨p0,p1,p2,p3,p4,p5⟩,⟨A6,c6,p6,g6⟩,⟨A7,c7,p7,g7⟩,⟨A8,c8,p8,g8⟩,⟨A9,c9,p9,g9⟩,-⟩:=hD;obtain⟨s1,s2,s3,s4,s5,s6,-⟩:=Qm;simp only[ay.sz] at hZ;have hbs:body.sz<N:=by have:=hsz.o;omega
    have hes:els.sz<N:=by have:=hsz.o;omega
    have gA:aJ (aM wo lo hi (.agg #[.slice A6 i.facts.length c6,.slice A7 i.atoms.length c7]) i):=⟨_,_,_,_,rfl,⟨g6,s1⟩,⟨g7,s2⟩⟩;have gB:aJ (bH wo lo hi A8 body):=g8;have gE:aJ (bH wo lo hi A9 els):=g9;rw[ay.fold,<-hDs] at iU;rw[ay.shape] at Qn;simp only[Bool.and_eq_true] at Qn;obtain⟨-,oI,hsb,hse,-⟩:=Qn;obtain⟨x1,x2,x3,x4,x5⟩:=Ir oI
    have hall:∀x∈Vg a b t i,0<=x/\x<=8:=by
     intro x hx;simp only[Vg,mem_append,List.mem_cons,List.not_mem_nil,or_false] at hx;rcases hx with (rfl|rfl|rfl|rfl)|hx
     ·exact qU.1 x1
     ·exact qU.1 x2
     ·exact qU.1 x3
     ·exact qU.1 x4
     ·unfold dw at hx;obtain⟨m,hm,rfl⟩:=List.mem_map.1 hx;have:=(List.mem_filter.1 hm).1;simp at this;omega
    obtain⟨S2,hS2⟩:∃x,x=ry S1 k a b t i:=⟨_,rfl⟩;have l2:S2<512:=by rw[hS2];exact Ae hS1 k a b t i
    obtain⟨S3,uB⟩:∃x,x=body.fold ry S2:=⟨_,rfl⟩;have l3:S3<512:=by rw[uB];exact ay.gD (fun S k a b t i h=>Ae h k a b t i) body l2
    obtain⟨S4,yc⟩:∃x,x=els.fold ry S3:=⟨_,rfl⟩;have l4:S4<512:=by rw[yc];exact ay.gD (fun S k a b t i h=>Ae h k a b t i) els l3
    rw[<-hS2,<-uB,<-yc] at iU;obtain⟨Y,hY⟩:∃Y,Y=dw (aO (mz i)) 9:=⟨_,rfl⟩;obtain⟨Q,hQ⟩:∃Q,Q=Vg a b t i:=⟨_,rfl⟩;have hYl:Y.length<=9:=by rw[hY];exact jA _ _
    have Ux:[a,b,t.a,t.b]++Y=Q:=by rw[hQ,hY];rfl
    have hQl:Q.length<=13:=by rw[<-Ux];simp;omega
    have Wx:S2=Q.foldl oZ S1:=by rw[hS2,hQ];rfl
    rw[<-hQ] at hall;replace hall:=ax hall;replace iU:=ax iU;replace hS2:=ax Wx;replace uB:=ax uB;replace yc:=ax yc;replace hY:=ax hY;replace Ux:=ax Ux;replace x5:=ax x5;replace hbs:=ax hbs;replace hes:=ax hes;replace s5:=ax s5;replace s6:=ax s6;replace hsb:=ax hsb;replace hse:=ax hse;have yg:=kS.lt;have hrg:wo.heap.size≠g:=by omega
    clear hZ hpos hAt g6 g7 g8 g9 HR hDs eL oI x1 x2 x3 x4 hQ Wx;(go_wp2_with fail);have k00:ae (wo.alloc (.cells #[.int .i64 k,.int .i64 a,.int .i64 b,.bool t.eq,.int .i64 t.a,.int .i64 t.b,.slice A6 i.facts.length c6,.slice A7 i.atoms.length c7,.slice A8 body.len c8,.slice A9 els.len c9] tC)) wo.heap.size tC #[.int .i64 k,.int .i64 a,.int .i64 b,.bool t.eq,.int .i64 t.a,.int .i64 t.b,.slice A6 i.facts.length c6,.slice A7 i.atoms.length c7,.slice A8 body.len c8,.slice A9 els.len c9]:=ae.new _ _ _;refine lS (S:=(fun w'=>∀j,w'.cell? ⟨wo.heap.size,j,none⟩=#[.int .i64 k,.int .i64 a,.int .i64 b,.bool t.eq,.int .i64 t.a,.int .i64 t.b,.slice A6 i.facts.length c6,.slice A7 i.atoms.length c7,.slice A8 body.len c8,.slice A9 els.len c9][j]?)) (k00.cell) fun aH=>?_;refine jQ 0 1 2 3 4 ?_;refine jQ 5 6 7 8 9 ?_;refine uM 11 12 ?_;obtain⟨X,hX⟩:∃X,X=(wo.alloc (.cells #[.int .i64 k,.int .i64 a,.int .i64 b,.bool t.eq,.int .i64 t.a,.int .i64 t.b,.slice A6 i.facts.length c6,.slice A7 i.atoms.length c7,.slice A8 body.len c8,.slice A9 els.len c9] tC)).drew:=⟨_,rfl⟩;have OD:Below wo.heap.size wo X:=by rw[hX];exact aj
    have kX:ae X wo.heap.size tC #[.int .i64 k,.int .i64 a,.int .i64 b,.bool t.eq,.int .i64 t.a,.int .i64 t.b,.slice A6 i.facts.length c6,.slice A7 i.atoms.length c7,.slice A8 body.len c8,.slice A9 els.len c9]:=by rw[hX];exact k00.drew
    have XL:ae X g tB (dN (zj S1)).toArray:=by rw[hX];exact(kS.alloc _).drew
    have hzX:wo.heap.size<=X.heap.size:=OD.size;rw[<-hX] at aH⊢;clear hX kS k00 p0 p1 p2 p3 p4 p5 p6 p7 p8 p9;refine wB 10 13 rfl rfl (fun K hK=>?_) fun K hK=>?_
    ·go_simp;have kX2:=kX.alloc (.cells #[.int .i64 a,.int .i64 b,.int .i64 t.a,.int .i64 t.b] tI);have Qe:=XL.alloc (.cells #[.int .i64 a,.int .i64 b,.int .i64 t.a,.int .i64 t.b] tI);have B2:Below wo.heap.size wo (X.alloc (.cells #[.int .i64 a,.int .i64 b,.int .i64 t.a,.int .i64 t.b] tI)):=ai OD _;have o0:aD (X.alloc (.cells #[.int .i64 a,.int .i64 b,.int .i64 t.a,.int .i64 t.b] tI)) wo.heap.size (.slice (some ⟨X.heap.size,0,none⟩) 4 4) [a,b,t.a,t.b]:=aD.four _ _ _ _ _ hzX;refine hK.out _ _ (kX2.cell) ?_;clear aH hK K;intro aH;(try simp only[zz]);clear kX XL OD;refine aX 13 rfl fun K hK=>?_;(try simp only[zz]);(go_simp;refine(dO _ i _ (gA.o.bz B2) x5.o).mono ?_;rintro e w3 ⟨r3,rfl,o3,hB3⟩;obtain⟨T3,XM,rfl,f3⟩:=o3.rj;rw[yD];have B3:=aP B2 hB3;have Mg:=kX2.nz hB3;have IP:=Qe.nz hB3;have o0:=o0.bz hB3);refine hK.out _ _ (Mg.cell) ?_;clear aH hK K;intro aH;refine aX 14 rfl fun K hK=>?_;(try simp only[zz]);(go_simp;have hl3:=ll T3 XM _ _ f3 (by rw[yD];omega);rw[qi,yD,<-hY.o] at hl3;refine hl3.mono ?_;rintro e w4 ⟨r4,rfl,o4,hB4⟩;obtain⟨T4,ct4,rfl,f4⟩:=o4.rj;have B4:=aP B3 hB4;have J7:=Mg.nz hB4;have OQ:=IP.nz hB4;have o0:=o0.bz hB4);refine hK.out _ _ (J7.cell) ?_;clear aH hK K;intro aH;(try simp only[zz]);refine aX 15 rfl fun K hK=>?_;skip;(refine I6 (xs:=[a,b,t.a,t.b]) (ys:=Y) rfl _ _ rfl rfl o0 rfl f4 (by simp;omega) B4.size ?_;intro AX cX w5 hO hg bW;rw[Ux.o] at hO⊢;have Gc:=ae.zm (hg:=hg) J7 o0.1 (by decide);have Rh:=ae.zm (hg:=hg) OQ o0.1 (by decide);have B5:=Below.trans B4 bW);refine hK.out _ _ (Gc.cell) ?_;clear aH hK K;intro aH;refine jh 16 ?_;refine jP ?_;have M5:=Mk.iy (p:=fun x=>x=g) B5;replace hO:=ax hO;clear o0 hg bW f3 f4 o3 o4 hB3 hB4 B3 B4 Mg J7 IP OQ aH;have q5:=Gc.cell;have l5:=Gc.lt;(go_wp2_with fail)
     go_loopw [8] (fun x wx=>∃(q T:Nat),q<=Q.length/\x=.int .i64 q/\T<512/\aJ (S2=(Q.drop q).foldl oZ T)/\ae wx g tB (dN (zj T)).toArray/\aJ (Mk (fun x=>x=g) w5 wx)) (fun x _=>Q.length - (intOf x).toNat)
     case atStart=>exact⟨0,S1,dJ,rfl,hS1,hS2,Rh,ax (Mk.refl _ _)⟩
     case round=>
      clear Rh;obtain⟨q,T,hq,rfl,hT,HT,kT,HM⟩:=hrel;have Gd:=HM.o.blk Gc hrg;clear q5 l5;by_cases hlq:q<Q.length
      ·have hx:=hall.o Q[q] (getElem_mem hlq);obtain⟨m,e1⟩:=Int.eq_ofNat_of_zero_le hx.1;have oQ:aD wr wo.heap.size (.slice AX Q.length cX) Q:=hO.o.mk HM.o (fun g' hg' e=>by have:=(hO.o.1.lt g' hg').1;omega);obtain⟨A',c',eA,fQ⟩:=oQ.rj;injection eA with ea eb ec;subst ea;obtain⟨b',o',rfl,pq⟩:=fQ.at hlq;rw[e1] at pq;have m8:(m:Int)<9:=by omega
       have q1:wr.cell? ⟨g,m,none⟩=some (.bool (T.testBit m)):=(kT.cell m).trans (eu T _ rfl (by omega));have r1:=kT.frozen;have hgT:=kT.lt;have hfs:=AO (S:=T) Q q hlq;rw[e1] at hfs;replace hfs:=ax hfs;clear hx e1 fQ oQ;by_cases h4:(4:Int)<m
       ·have e4:oZ T (m:Int)=aQ T (m:Int):=if_pos h4
        have k2:ae (wr.setCell ⟨g,m,none⟩ (.bool true)) g tB (dN (zj (aQ T (m:Int)))).toArray:=by
         rw[<-fE T m (by omega)];exact kT.ag m _
        replace k2:=ax k2;replace e4:=ax e4;clear kT;(go_wp2_with fail)
        go_round
        case rel=>exact⟨q+1,aQ T (m:Int),by omega,by go_num,bC hT _,ax (by rw[HT.o,hfs.o,e4.o]),k2.o,ax (HM.o.set (x:=⟨g,m,none⟩) rfl _)⟩
        case measure=>simp[intOf];omega
       ·have e4:oZ T (m:Int)=T:=if_neg h4;replace e4:=ax e4;(go_wp2_with fail)
        go_round
        case rel=>exact⟨q+1,T,by omega,by go_num,hT,ax (by rw[HT.o,hfs.o,e4.o]),kT,HM⟩
        case measure=>simp[intOf];omega
      ·obtain rfl:q=Q.length:=by omega
       have Hg:S2=T:=by rw[HT.o,drop_length];rfl
       rw[<-Hg] at kT;have M6:=M5.trans HM.o;have q6:=Gd.cell;have l6:=Gd.lt;clear HT Hg HM Gc;go_wp2;refine lS (S:=(fun w'=>∀j,w'.cell? ⟨wo.heap.size,j,none⟩=#[.int .i64 k,.int .i64 a,.int .i64 b,.bool t.eq,.int .i64 t.a,.int .i64 t.b,.slice A6 i.facts.length c6,.slice A7 i.atoms.length c7,.slice A8 body.len c8,.slice A9 els.len c9][j]?)) (Gd.cell) fun aH=>?_;refine jQ 0 1 2 4 5 ?_;refine aX 3 rfl fun K hK=>?_;(try simp only[zz]);(go_simp;refine(IH.o body hbs.o A8 c8 lo hi g S2 (d - 1) _ ((gB.o.Lb M6 yf yg).bz aj) s3 s5.o hsb.o yf l2 kT.drew).mono ?_;rintro e w8 ⟨rfl,k7,M7⟩;rw[<-uB.o] at k7;have M8:=(M6.trans (Mk.iy aU.drew)).trans M7;have NM:=M7.blk (Gd.drew) hrg);refine hK.out _ _ (NM.cell) ?_;clear aH hK K;intro aH;refine aX 6 rfl fun K hK=>?_;(try simp only[zz]);(go_simp;refine(IH.o els hes.o A9 c9 lo hi g S3 (d - 1) _ (gE.o.Lb M8 yf yg) s4 s6.o hse.o yf l3 k7).mono ?_;rintro e w9 ⟨rfl,k9,M9⟩;rw[<-yc.o] at k9;have MA:=M8.trans M9;have Ri:=M9.blk NM hrg);refine hK.out _ _ (Ri.cell) ?_;clear aH hK K;intro aH;refine jh 7 ?_;refine jP ?_;clear q6 l6 Gd NM Ri;(go_wp2_with fail)
       go_round
       case rel=>exact⟨j+1,S4,by omega,by go_num,rfl,l4,iU,k9,hM.trans MA⟩
       case measure=>simp[intOf];omega
    ·(go_simp;refine(dO _ i _ (gA.o.bz OD) x5.o).mono ?_;rintro e w3 ⟨r3,rfl,o3,hB3⟩;obtain⟨T3,XM,rfl,f3⟩:=o3.rj;rw[yD];have B3:=aP OD hB3;have Mg:=kX.nz hB3;have IP:=XL.nz hB3);refine hK.out _ _ (Mg.cell) ?_;clear aH hK K;intro aH;(try simp only[zz]);clear kX XL OD;refine wB 10 14 rfl rfl (fun K hK=>?_) fun K hK=>?_
     ·go_simp;have o0:aD (w3.alloc (.cells #[.int .i64 a,.int .i64 b,.int .i64 t.a,.int .i64 t.b] tI)) wo.heap.size (.slice (some ⟨w3.heap.size,0,none⟩) 4 4) [a,b,t.a,t.b]:=aD.four _ _ _ _ _ B3.size;have f3:=f3.bz (w':=w3.alloc (.cells #[.int .i64 a,.int .i64 b,.int .i64 t.a,.int .i64 t.b] tI)) aj;have Mg:=Mg.alloc (.cells #[.int .i64 a,.int .i64 b,.int .i64 t.a,.int .i64 t.b] tI);have IP:=IP.alloc (.cells #[.int .i64 a,.int .i64 b,.int .i64 t.a,.int .i64 t.b] tI);have B3:=ai B3 (.cells #[.int .i64 a,.int .i64 b,.int .i64 t.a,.int .i64 t.b] tI);refine hK.out _ _ (Mg.cell) ?_;clear aH hK K;intro aH;refine aX 14 rfl fun K hK=>?_;(try simp only[zz]);(go_simp;have hl3:=ll T3 XM _ _ f3 (by rw[yD];omega);rw[qi,yD,<-hY.o] at hl3;refine hl3.mono ?_;rintro e w4 ⟨r4,rfl,o4,hB4⟩;obtain⟨T4,ct4,rfl,f4⟩:=o4.rj;have B4:=aP B3 hB4;have J7:=Mg.nz hB4;have OQ:=IP.nz hB4;have o0:=o0.bz hB4);refine hK.out _ _ (J7.cell) ?_;clear aH hK K;intro aH;(try simp only[zz]);refine aX 15 rfl fun K hK=>?_;skip;(refine I6 (xs:=[a,b,t.a,t.b]) (ys:=Y) rfl _ _ rfl rfl o0 rfl f4 (by simp;omega) B4.size ?_;intro AX cX w5 hO hg bW;rw[Ux.o] at hO⊢;have Gc:=ae.zm (hg:=hg) J7 o0.1 (by decide);have Rh:=ae.zm (hg:=hg) OQ o0.1 (by decide);have B5:=Below.trans B4 bW);refine hK.out _ _ (Gc.cell) ?_;clear aH hK K;intro aH;refine jh 16 ?_;refine jP ?_;have M5:=Mk.iy (p:=fun x=>x=g) B5;replace hO:=ax hO;clear o0 hg bW f3 f4 o3 o4 hB3 hB4 B3 B4 Mg J7 IP OQ aH;have q5:=Gc.cell;have l5:=Gc.lt;(go_wp2_with fail)
      go_loopw [8] (fun x wx=>∃(q T:Nat),q<=Q.length/\x=.int .i64 q/\T<512/\aJ (S2=(Q.drop q).foldl oZ T)/\ae wx g tB (dN (zj T)).toArray/\aJ (Mk (fun x=>x=g) w5 wx)) (fun x _=>Q.length - (intOf x).toNat)
      case atStart=>exact⟨0,S1,dJ,rfl,hS1,hS2,Rh,ax (Mk.refl _ _)⟩
      case round=>
       clear Rh;obtain⟨q,T,hq,rfl,hT,HT,kT,HM⟩:=hrel;have Gd:=HM.o.blk Gc hrg;clear q5 l5;by_cases hlq:q<Q.length
       ·have hx:=hall.o Q[q] (getElem_mem hlq);obtain⟨m,e1⟩:=Int.eq_ofNat_of_zero_le hx.1;have oQ:aD wr wo.heap.size (.slice AX Q.length cX) Q:=hO.o.mk HM.o (fun g' hg' e=>by have:=(hO.o.1.lt g' hg').1;omega);obtain⟨A',c',eA,fQ⟩:=oQ.rj;injection eA with ea eb ec;subst ea;obtain⟨b',o',rfl,pq⟩:=fQ.at hlq;rw[e1] at pq;have m8:(m:Int)<9:=by omega
        have q1:wr.cell? ⟨g,m,none⟩=some (.bool (T.testBit m)):=(kT.cell m).trans (eu T _ rfl (by omega));have r1:=kT.frozen;have hgT:=kT.lt;have hfs:=AO (S:=T) Q q hlq;rw[e1] at hfs;replace hfs:=ax hfs;clear hx e1 fQ oQ;by_cases h4:(4:Int)<m
        ·have e4:oZ T (m:Int)=aQ T (m:Int):=if_pos h4
         have k2:ae (wr.setCell ⟨g,m,none⟩ (.bool true)) g tB (dN (zj (aQ T (m:Int)))).toArray:=by
          rw[<-fE T m (by omega)];exact kT.ag m _
         replace k2:=ax k2;replace e4:=ax e4;clear kT;(go_wp2_with fail)
         go_round
         case rel=>exact⟨q+1,aQ T (m:Int),by omega,by go_num,bC hT _,ax (by rw[HT.o,hfs.o,e4.o]),k2.o,ax (HM.o.set (x:=⟨g,m,none⟩) rfl _)⟩
         case measure=>simp[intOf];omega
        ·have e4:oZ T (m:Int)=T:=if_neg h4;replace e4:=ax e4;(go_wp2_with fail)
         go_round
         case rel=>exact⟨q+1,T,by omega,by go_num,hT,ax (by rw[HT.o,hfs.o,e4.o]),kT,HM⟩
         case measure=>simp[intOf];omega
       ·obtain rfl:q=Q.length:=by omega
        have Hg:S2=T:=by rw[HT.o,drop_length];rfl
        rw[<-Hg] at kT;have M6:=M5.trans HM.o;have q6:=Gd.cell;have l6:=Gd.lt;clear HT Hg HM Gc;go_wp2;refine lS (S:=(fun w'=>∀j,w'.cell? ⟨wo.heap.size,j,none⟩=#[.int .i64 k,.int .i64 a,.int .i64 b,.bool t.eq,.int .i64 t.a,.int .i64 t.b,.slice A6 i.facts.length c6,.slice A7 i.atoms.length c7,.slice A8 body.len c8,.slice A9 els.len c9][j]?)) (Gd.cell) fun aH=>?_;refine jQ 0 1 2 4 5 ?_;refine aX 3 rfl fun K hK=>?_;(try simp only[zz]);(go_simp;refine(IH.o body hbs.o A8 c8 lo hi g S2 (d - 1) _ ((gB.o.Lb M6 yf yg).bz aj) s3 s5.o hsb.o yf l2 kT.drew).mono ?_;rintro e w8 ⟨rfl,k7,M7⟩;rw[<-uB.o] at k7;have M8:=(M6.trans (Mk.iy aU.drew)).trans M7;have NM:=M7.blk (Gd.drew) hrg);refine hK.out _ _ (NM.cell) ?_;clear aH hK K;intro aH;refine aX 6 rfl fun K hK=>?_;(try simp only[zz]);(go_simp;refine(IH.o els hes.o A9 c9 lo hi g S3 (d - 1) _ (gE.o.Lb M8 yf yg) s4 s6.o hse.o yf l3 k7).mono ?_;rintro e w9 ⟨rfl,k9,M9⟩;rw[<-yc.o] at k9;have MA:=M8.trans M9;have Ri:=M9.blk NM hrg);refine hK.out _ _ (Ri.cell) ?_;clear aH hK K;intro aH;refine jh 7 ?_;refine jP ?_;clear q6 l6 Gd NM Ri;(go_wp2_with fail)
        go_round
        case rel=>exact⟨j+1,S4,by omega,by go_num,rfl,l4,iU,k9,hM.trans MA⟩
        case measure=>simp[intOf];omega
     ·(go_simp;have hl3:=ll T3 XM _ _ f3 (by rw[yD];omega);rw[qi,yD,<-hY.o] at hl3;refine hl3.mono ?_;rintro e w4 ⟨r4,rfl,o4,hB4⟩;obtain⟨T4,ct4,rfl,f4⟩:=o4.rj;have B4:=aP B3 hB4;have J7:=Mg.nz hB4;have OQ:=IP.nz hB4);refine hK.out _ _ (J7.cell) ?_;clear aH hK K;intro aH;(try simp only[zz]);have o0:aD (w4.alloc (.cells #[.int .i64 a,.int .i64 b,.int .i64 t.a,.int .i64 t.b] tI)) wo.heap.size (.slice (some ⟨w4.heap.size,0,none⟩) 4 4) [a,b,t.a,t.b]:=aD.four _ _ _ _ _ B4.size;have f4:=f4.bz (w':=w4.alloc (.cells #[.int .i64 a,.int .i64 b,.int .i64 t.a,.int .i64 t.b] tI)) aj;have J7:=J7.alloc (.cells #[.int .i64 a,.int .i64 b,.int .i64 t.a,.int .i64 t.b] tI);have OQ:=OQ.alloc (.cells #[.int .i64 a,.int .i64 b,.int .i64 t.a,.int .i64 t.b] tI);have B4:=ai B4 (.cells #[.int .i64 a,.int .i64 b,.int .i64 t.a,.int .i64 t.b] tI);refine aX 10 rfl fun K hK=>?_;(try simp only[zz]);(go_simp);refine hK.out _ _ (J7.cell) ?_;clear aH hK K;intro aH;(try simp only[zz]);refine aX 15 rfl fun K hK=>?_;skip;(refine I6 (xs:=[a,b,t.a,t.b]) (ys:=Y) rfl _ _ rfl rfl o0 rfl f4 (by simp;omega) B4.size ?_;intro AX cX w5 hO hg bW;rw[Ux.o] at hO⊢;have Gc:=ae.zm (hg:=hg) J7 o0.1 (by decide);have Rh:=ae.zm (hg:=hg) OQ o0.1 (by decide);have B5:=Below.trans B4 bW);refine hK.out _ _ (Gc.cell) ?_;clear aH hK K;intro aH;refine jh 16 ?_;refine jP ?_;have M5:=Mk.iy (p:=fun x=>x=g) B5;replace hO:=ax hO;clear o0 hg bW f3 f4 o3 o4 hB3 hB4 B3 B4 Mg J7 IP OQ aH;have q5:=Gc.cell;have l5:=Gc.lt;(go_wp2_with fail)
      go_loopw [8] (fun x wx=>∃(q T:Nat),q<=Q.length/\x=.int .i64 q/\T<512/\aJ (S2=(Q.drop q).foldl oZ T)/\ae wx g tB (dN (zj T)).toArray/\aJ (Mk (fun x=>x=g) w5 wx)) (fun x _=>Q.length - (intOf x).toNat)
      case atStart=>exact⟨0,S1,dJ,rfl,hS1,hS2,Rh,ax (Mk.refl _ _)⟩
      case round=>
       clear Rh;obtain⟨q,T,hq,rfl,hT,HT,kT,HM⟩:=hrel;have Gd:=HM.o.blk Gc hrg;clear q5 l5;by_cases hlq:q<Q.length
       ·have hx:=hall.o Q[q] (getElem_mem hlq);obtain⟨m,e1⟩:=Int.eq_ofNat_of_zero_le hx.1;have oQ:aD wr wo.heap.size (.slice AX Q.length cX) Q:=hO.o.mk HM.o (fun g' hg' e=>by have:=(hO.o.1.lt g' hg').1;omega);obtain⟨A',c',eA,fQ⟩:=oQ.rj;injection eA with ea eb ec;subst ea;obtain⟨b',o',rfl,pq⟩:=fQ.at hlq;rw[e1] at pq;have m8:(m:Int)<9:=by omega
        have q1:wr.cell? ⟨g,m,none⟩=some (.bool (T.testBit m)):=(kT.cell m).trans (eu T _ rfl (by omega));have r1:=kT.frozen;have hgT:=kT.lt;have hfs:=AO (S:=T) Q q hlq;rw[e1] at hfs;replace hfs:=ax hfs;clear hx e1 fQ oQ;by_cases h4:(4:Int)<m
        ·have e4:oZ T (m:Int)=aQ T (m:Int):=if_pos h4
         have k2:ae (wr.setCell ⟨g,m,none⟩ (.bool true)) g tB (dN (zj (aQ T (m:Int)))).toArray:=by
          rw[<-fE T m (by omega)];exact kT.ag m _
         replace k2:=ax k2;replace e4:=ax e4;clear kT;(go_wp2_with fail)
         go_round
         case rel=>exact⟨q+1,aQ T (m:Int),by omega,by go_num,bC hT _,ax (by rw[HT.o,hfs.o,e4.o]),k2.o,ax (HM.o.set (x:=⟨g,m,none⟩) rfl _)⟩
         case measure=>simp[intOf];omega
        ·have e4:oZ T (m:Int)=T:=if_neg h4;replace e4:=ax e4;(go_wp2_with fail)
         go_round
         case rel=>exact⟨q+1,T,by omega,by go_num,hT,ax (by rw[HT.o,hfs.o,e4.o]),kT,HM⟩
         case measure=>simp[intOf];omega
       ·obtain rfl:q=Q.length:=by omega
        have Hg:S2=T:=by rw[HT.o,drop_length];rfl
        rw[<-Hg] at kT;have M6:=M5.trans HM.o;have q6:=Gd.cell;have l6:=Gd.lt;clear HT Hg HM Gc;go_wp2;refine lS (S:=(fun w'=>∀j,w'.cell? ⟨wo.heap.size,j,none⟩=#[.int .i64 k,.int .i64 a,.int .i64 b,.bool t.eq,.int .i64 t.a,.int .i64 t.b,.slice A6 i.facts.length c6,.slice A7 i.atoms.length c7,.slice A8 body.len c8,.slice A9 els.len c9][j]?)) (Gd.cell) fun aH=>?_;refine jQ 0 1 2 4 5 ?_;refine aX 3 rfl fun K hK=>?_;(try simp only[zz]);(go_simp;refine(IH.o body hbs.o A8 c8 lo hi g S2 (d - 1) _ ((gB.o.Lb M6 yf yg).bz aj) s3 s5.o hsb.o yf l2 kT.drew).mono ?_;rintro e w8 ⟨rfl,k7,M7⟩;rw[<-uB.o] at k7;have M8:=(M6.trans (Mk.iy aU.drew)).trans M7;have NM:=M7.blk (Gd.drew) hrg);refine hK.out _ _ (NM.cell) ?_;clear aH hK K;intro aH;refine aX 6 rfl fun K hK=>?_;(try simp only[zz]);(go_simp;refine(IH.o els hes.o A9 c9 lo hi g S3 (d - 1) _ (gE.o.Lb M8 yf yg) s4 s6.o hse.o yf l3 k7).mono ?_;rintro e w9 ⟨rfl,k9,M9⟩;rw[<-yc.o] at k9;have MA:=M8.trans M9;have Ri:=M9.blk NM hrg);refine hK.out _ _ (Ri.cell) ?_;clear aH hK K;intro aH;refine jh 7 ?_;refine jP ?_;clear q6 l6 Gd NM Ri;(go_wp2_with fail)
        go_round
        case rel=>exact⟨j+1,S4,by omega,by go_num,rfl,l4,iU,k9,hM.trans MA⟩
        case measure=>simp[intOf];omega
   ·go_wp2;go_ret;obtain rfl:j=n:=by omega
    have e1:L.drop j=.nil:=by rw[hn.o];exact ay.jw L
    have h2:=HR.o;rw[e1] at h2;exact⟨rfl,by rw[h2];exact kS,hM⟩
def ay.one:ay->Nat->ay
 | .nil,_=>.nil
 | .cons k a b t i body els _,0=>.cons k a b t i body els .nil
 | .cons _ _ _ _ _ _ _ r,n+1=>r.one n
theorem ay.J8:∀ {L:ay} {n:Nat},n<L.len->(L.one n).len=1
 | .nil,_,h=>by simp[ay.len] at h
 | .cons ..,0,_=>rfl
 | .cons _ _ _ _ _ _ _ r,n+1,h=>ay.J8 (L:=r) (by simpa[ay.len] using h)
theorem ay.Gf:∀(L:ay) (n:Nat),(L.one n).len+(L.one n).cost<=L.len+L.cost
 | .nil,_=>Nat.le_refl _
 | .cons k a b t i body els r,0=>by simp only[ay.one,ay.len,ay.cost];omega
 | .cons k a b t i body els r,n+1=>by have:=ay.Gf r n;simp only[ay.one,ay.len,ay.cost];omega
theorem ay.NN:∀(L:ay) (n:Nat),(L.one n).sz<=L.sz
 | .nil,_=>Nat.le_refl _
 | .cons k a b t i body els r,0=>by simp only[ay.one,ay.sz];omega
 | .cons k a b t i body els r,n+1=>by have:=ay.NN r n;simp only[ay.one,ay.sz];omega
theorem ay.CE:∀ {L:ay} {d:Nat} (n:Nat),L.shape d=true->(L.one n).shape d=true
 | .nil,_,_,h=>h
 | .cons k a b t i body els r,d,0,h=>by
  simp only[ay.shape,Bool.and_eq_true] at h;simp only[ay.one,ay.shape,Bool.and_eq_true];exact⟨h.1,h.2.1,h.2.2.1,h.2.2.2.1,trivial⟩
 | .cons k a b t i body els r,d,n+1,h=>by
  simp only[ay.shape,Bool.and_eq_true] at h;exact ay.CE (L:=r) n h.2.2.2.2
theorem ay.NP{L:ay}(n:Nat)(h:L.prog=true):(L.one n).prog=true:=by
 unfold ay.prog at h⊢;simp only[Bool.and_eq_true,decide_eq_true_eq] at h⊢;exact⟨ay.CE n h.1,Nat.le_trans (ay.NN L n) h.2⟩
section
variable{w:World}{lo hi:Nat}
theorem fF.one:∀ {L:ay} {bl o:Nat} (n:Nat),fF w lo hi L bl o->fF w lo hi (L.one n) bl (o+n * 10)
 | .nil,_,_,_,h=>trivial
 | .cons k a b t i body els r,bl,o,0,h=>by
  rw[Nat.zero_mul,Nat.add_zero];exact⟨h.1,h.2.1,h.2.2.1,h.2.2.2.1,h.2.2.2.2.1,trivial⟩
 | .cons k a b t i body els r,bl,o,n+1,h=>by
  have:=fF.one n h.2.2.2.2.2
  rwa [show o+10+n * 10=o+(n+1) * 10 from by omega] at this
end
theorem gW:∀(L:ay) (S n:Nat),(L.fold ry S).testBit n=(S.testBit n || (L.fold ry 0).testBit n)
 | .nil,S,n=>by simp[ay.fold]
 | .cons k a b t i body els r,S,n=>by
  simp only[ay.fold];rw[gW r,gW els,gW body,gW r (els.fold ry _),gW els (body.fold ry (ry 0 k a b t i)),gW body (ry 0 k a b t i)];unfold ry;rw[nu,nu];simp[Bool.or_assoc]
theorem xJ:∀(L:ay) (n:Nat),(L.fold ry 0).testBit n=true↔∃j,j<L.len/\((L.one j).fold ry 0).testBit n=true
 | .nil,n=>by simp[ay.fold,ay.len]
 | .cons k a b t i body els r,n=>by
  have e:(ay.cons k a b t i body els r).fold ry 0=r.fold ry (((ay.cons k a b t i body els r).one 0).fold ry 0):=by simp only[ay.fold,ay.one]
  rw[e,gW r,Bool.or_eq_true,xJ r n];constructor
  ·rintro(h|⟨j,h1,h2⟩)
   ·exact⟨0,by simp[ay.len],h⟩
   ·exact⟨j+1,by simp[ay.len];exact h1,h2⟩
  ·rintro⟨j,h1,h2⟩
   cases j with
   | zero=>exact Or.inl h2
   | succ j=>exact Or.inr ⟨j,by simpa[ay.len] using h1,h2⟩
theorem NQ(L:ay):L.fold ry 0=lG (L.fold Dx 0):=mM L 0
theorem CJ(a:au)(L:ay)(ks:List Int)(n:Nat):(jf a L ks).testBit n=(((aO ks).testBit n || (decide (5<=n)&&(aO (mz a)).testBit n)) || (L.fold ry 0).testBit n):=by
 unfold jf;rw[Nat.testBit_or,Nat.testBit_or,lH (aO (mz a)),NQ]
theorem Lv{a:au}{L:ay}{ks:List Int}{D:List au}(h:pE a L ks=some D):a.valid=true/\L.prog=true/\(L.exe false (jf a L ks) [a]).1=0/\(L.exe false (jf a L ks) [a]).2=D:=by
 unfold pE at h
 split at h
 ·rename_i h1;rw[Bool.and_eq_true] at h1
  split at h
  ·rename_i h2;exact⟨h1.1,h1.2,h2,Option.some.inj h⟩
  ·cases h
 ·cases h
def KE(K J:Nat):Prop:=∀n,5<=n->K.testBit n=J.testBit n
section
variable{K J:Nat}
theorem KE.or(h:KE K J)(S:Nat):KE (S|||K) (S|||J):=fun n hn=>by rw[Nat.testBit_or,Nat.testBit_or,h n hn]
theorem KE.or'(h:KE K J)(S:Nat):KE (K|||S) (J|||S):=fun n hn=>by rw[Nat.testBit_or,Nat.testBit_or,h n hn]
theorem KE.aQ(h:KE K J)(x:Int):KE (aQ K x) (aQ J x):=fun n hn=>by rw[cr,cr,h n hn]
theorem Qo(h:KE K J):free K=free J:=funext fun t=>by
 unfold free;by_cases hl:uo t=true
 ·have h2:4<t/\t<=8:=by simpa[uo] using hl
  rw[h t.toNat (by omega)]
 ·simp only[Bool.not_eq_true] at hl;rw[hl];rfl
theorem NR(h:KE K J):iH K=iH J:=funext fun f=>by unfold iH;rw[Qo h]
theorem AP(h:KE K J)(fs:List aF):bD K fs=bD J fs:=by unfold bD;rw[NR h]
theorem CK(h:KE K J):∀(n:Nat) (a:au),(left K a).length<n->jk K a=jk J a
 | 0,_,hl=>by omega
 | n+1,a,hl=>by
  cases hs:bD K a.facts with
  | none=>rw[gU hs,gU (by rw[<-AP h];exact hs)]
  | some p=>
   obtain⟨x,t⟩:=p;rw[jJ hs,jJ (K:=J) (by rw[<-AP h];exact hs)];exact CK h n _ (by have:=nL hs;omega)
theorem Lx(h:KE K J):bE K=bE J:=by
 have ht:∀t,rD K t=rD J t:=fun t=>by
  unfold rD;by_cases h4:t<=4
  ·rw[decide_eq_true h4];rfl
  ·rw[h t.toNat (by omega)]
 funext f
 unfold bE;rw[ht,ht]
theorem J9(h:KE K J)(a:au):bL K a=bL J a:=by
 unfold bL;rw[CK h _ a (Nat.lt_succ_self _)];simp only;rw[Lx (h.or' _)]
theorem J'(h:KE K J):kC K=kC J:=by
 have e:∀n∈List.range' 5 4,(!K.testBit n) = !J.testBit n:=fun n hn=>by
  rw[h n (by have:=List.mem_range'_1.1 hn;omega)]
 unfold kC;have h5:=e 5 (by decide);have h6:=e 6 (by decide);have h7:=e 7 (by decide);have h8:=e 8 (by decide);show [5,6,7,8].find? _=[5,6,7,8].find? _;simp only[List.find?_cons,List.find?_nil,h5,h6,h7,h8]
theorem CO(h:KE K J)(a:au)(x:Int):bf a x K=bf a x J:=by
 unfold bf;rw[J' (h.or _)]
theorem CQ(h:KE K J)(a:au)(x t:Int):dY a x t K=dY a x t J:=by
 unfold dY;rw[CO h]
theorem Qp(h:KE K J)(a:au)(x:Int):iR a x K=iR a x J:=by
 unfold iR;rw[CO h]
theorem Tj(h:KE K J)(k A B:Int)(a:au):gy k A B a K=gy k A B a J:=by
 unfold gy;rw[CQ h]
theorem CU(h:KE K J):∀(n:Nat) (a:au) (t:Int),aR n a t K=aR n a t J
 | 0,_,_=>rfl
 | n+1,a,t=>by
  simp only[aR];rw[J' ((h.aQ t).or _)];simp only[CU h n]
theorem Qq(h:KE K J)(a:au)(k A B:Int):eH a k A B K=eH a k A B J:=by
 unfold eH;rw[CQ h,Qp h,CU h,show (fun x=>gy k A B x K)=fun x=>gy k A B x J from funext fun x=>Tj h k A B x]
theorem Tk(h:KE K J)(k A B:Int)(a:au):xY K k A B a=xY J k A B a:=by
 unfold xY fo;rw[Qq ((h.aQ A).aQ B),show bL K=bL J from funext (J9 h)]
theorem NS(h:KE K J)(lp:Bool)(a i:au)(t:aF)(C:Nat)(B:List au->Int×List au):uG lp K a i t C B=uG lp J a i t C B:=by
 unfold uG;rw[J9 h]
theorem DY{lp:Bool}(h:KE K J):∀(L:ay),L.exe lp K=L.exe lp J
 | .nil=>rfl
 | .cons k a b t i body els r=>by
  have hB:=DY (lp:=lp) h body;have hE:=DY (lp:=lp) h els;have hR:=DY (lp:=lp) h r
  have hC:pz lp K k a b t i (body.fold oW 0) (body.exe lp J) (els.exe lp J)=pz lp J k a b t i (body.fold oW 0) (body.exe lp J) (els.exe lp J):=funext fun x=>by
   unfold pz;rw[NS h,Tk h]
  funext now
  simp only[ay.exe];rw[hB,hE,hR,hC]
end
theorem Qr{a:au}{L:ay}{ks:List Int}{D:List au}(h:pE a L ks=some D)(hl:0<L.len) :
  ∃E,pE a (L.one 0) ((ks++eO L)++gZ a)=some E/\E.length<=24/\(L.len=1->E=D):=by
 obtain⟨Uu,hp,h0,hD⟩:=Lv h;have hp1:=ay.NP 0 hp
 have hke:KE (jf a (L.one 0) ((ks++eO L)++gZ a)) (jf a L ks):=fun n hn=>by
  rw[CJ,CJ]
  have e1:(aO ((ks++eO L)++gZ a)).testBit n=(((aO ks).testBit n || (L.fold ry 0).testBit n) || (aO (mz a)).testBit n):=by
   rw[Bool.eq_iff_iff,Bool.or_eq_true,Bool.or_eq_true,iL,iL,decide_eq_true_eq,decide_eq_true_eq]
   have Un:(n:Int)∈eO L↔n<9/\(L.fold ry 0).testBit n=true:=by
    unfold eO;rw[if_pos hp];exact qh _ _ _
   have hat:(n:Int)∈gZ a↔n<9/\(aO (mz a)).testBit n=true:=by
    rw[FQ Uu];constructor
    ·rintro⟨m,h1,h2,h3⟩;obtain rfl:m=n:=by omega
     exact⟨h1,h2⟩
    ·rintro⟨h1,h2⟩;exact⟨n,h1,h2,rfl⟩
   have h9:∀ {S:Nat},S<512->S.testBit n=true->n<9:=fun {S} hS hb=>by
    rcases Nat.lt_or_ge n 9 with h1|h1
    ·exact h1
    ·have:=Nat.testBit_lt_two_pow (i:=n) (x:=S) (Nat.lt_of_lt_of_le hS (Nat.pow_le_pow_right (n:=2) (by decide) h1));rw[hb] at this;cases this
   have hls:L.fold ry 0<512:=ay.gD (fun S k a b t i h=>Ae h k a b t i) L (by decide);rw[mem_append,mem_append,Un,hat];constructor
   ·rintro⟨h1,(h2|h2)|h2⟩
    ·exact .inl (.inl ⟨h1,h2⟩)
    ·exact .inl (.inr h2.2)
    ·exact .inr h2.2
   ·rintro((h1|h1)|h1)
    ·exact⟨h1.1,.inl (.inl h1.2)⟩
    ·exact⟨qU.2 (by have:=h9 hls h1;omega),.inl (.inr ⟨h9 hls h1,h1⟩)⟩
    ·exact⟨qU.2 (by have:=h9 (dI _) h1;omega),.inr ⟨h9 (dI _) h1,h1⟩⟩
  rw[e1,decide_eq_true hn,Bool.true_and];have e2:((L.one 0).fold ry 0).testBit n=true->(L.fold ry 0).testBit n=true:=fun hb=>(xJ L n).2 ⟨0,hl,hb⟩;cases h1:((L.one 0).fold ry 0).testBit n
  ·cases (aO ks).testBit n<;>cases (L.fold ry 0).testBit n<;>cases (aO (mz a)).testBit n<;>rfl
  ·rw[e2 h1];cases (aO ks).testBit n<;>cases (aO (mz a)).testBit n<;>rfl
 have hexe:=DY (lp:=false) hke (L.one 0);have hres:=yQ (lp:=false) (K:=jf a L ks) Uu hp1
 have Wy:((L.one 0).exe false (jf a L ks) [a]).1=0/\(L.len=1->((L.one 0).exe false (jf a L ks) [a]).2=D):=by
  cases L with
  | nil=>simp[ay.len] at hl
  | cons k x b t i body els r=>
   simp only[ay.exe,ay.one] at h0 hD⊢
   split
   ·rename_i h1;rw[if_pos h1] at h0;exact absurd h0 h1
   ·rename_i h1;rw[if_neg h1] at hD;refine⟨rfl,fun hl1=>?_⟩
    cases r with
    | nil=>exact hD
    | cons=>simp[ay.len] at hl1
 refine⟨((L.one 0).exe false (jf a L ks) [a]).2,?_,hres.len,Wy.2⟩;unfold pE;rw[hexe,if_pos (by rw[Uu,hp1];rfl),if_pos Wy.1]
end
end Go.Proofs.YtjbboklnegfohaaGreat
