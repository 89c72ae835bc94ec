/- Symbolic execution: impl.accessed. Printed by genSymK.py. -/
import Derived.Test.YtmcgbeladjlcpaaGreatMSymS
import Derived.Test.YtmcgbeladjlcpaaGreatCmdJ
import Derived.Deep.DeepCutAuto
set_option linter.unusedSimpArgs false
set_option linter.unusedVariables false
set_option maxRecDepth 100000
set_option maxHeartbeats 25600000
namespace Go.Proofs.YtmcgbeladjlcpaaGreat
section
open Go Go.RowKit Go.Proofs
attribute [local go_sem ↓] Go.wp_at_zero Go.wp_at_succ
theorem AtomsO.storeB {w:World} {base g n c:Nat} {fs:List Atm} (h:AtomsO w base (.slice (some ⟨g,0,none⟩) n c) fs) (hk:0<fs.length) (v:Int) {x:Atm} (hx:fs[0]? = some x):AtomsO (w.setCell ⟨g,2,none⟩ (.int .i64 v)) base (.slice (some ⟨g,0,none⟩) n c) (fs.set 0 ⟨x.kind,x.a,v⟩):=by
 have e:fs[0]=x:=by rw[List.getElem?_eq_getElem hk] at hx;exact Option.some.inj hx
 have:=AtomsO.setB h (k:=0) hk v (gs:=fs.set 0 ⟨x.kind,x.a,v⟩) (by rw[e])
 simpa using this
theorem c_without0 {lo hi:Nat} (v:Value) (a:Asn) (w:World) (h:AsnC w lo hi v a) (hi:0<a.atoms.length) :
  Calls Tryz.prog 217 #[v,.int .i64 0] w fun e w'=>∃ G g,e=.returned (.slice G (freeX a).atoms.length g)∧AtomsO w' w.heap.size (.slice G (freeX a).atoms.length g) (freeX a).atoms∧Below w.heap.size w w':=by
 have:=c_impl_without v a 0 w h hi
 refine Calls.mono this ?_
 rintro e w' ⟨r,rfl,o,hB⟩
 obtain ⟨G,g,rfl,-⟩:=o.reads
 exact ⟨G,g,rfl,o,hB⟩
theorem c_acc2 {lo hi:Nat} (v:Value) (a:Asn) (A B:Int) (t:Fct) (X1 X2 X3 X4:Option Addr) (n1 n2 n3 n4 d1 d2 d3 d4 K0:Nat) (w:World) (h:AsnC w lo hi v a) (h0:0<a.atoms.length) (hl:a.facts.length≤1000∧a.atoms.length≤1000) (hK0:K0<512) (HA:isTermB A=true) :
  Calls Tryz.prog 141 #[v,.agg #[.int .i64 2,.int .i64 A,.int .i64 B,.bool t.eq,.int .i64 t.a,.int .i64 t.b,.slice X1 n1 d1,.slice X2 n2 d2,.slice X3 n3 d3,.slice X4 n4 d4],.int .u16 K0] w fun e w'=>∃ r,e=.returned (.tuple #[r,.bool (accF 2 A B a K0).isSome])∧OptO w' w.heap.size r (accF 2 A B a K0)∧Below w.heap.size w w':=by
 have hV:=Lib.hid h
 obtain ⟨A1,c1,A2,c2,rfl,h1,h2,-⟩:=h
 have H1:=Lib.hid h1
 have H2:=Lib.hid h2
 obtain ⟨b,o,rfl,g0,g1,g2⟩:=h2.at h0
 have E0:Hid (a.atoms[0]? = some (head0 a)):=Lib.hid (by unfold head0;rw[List.getElem?_eq_getElem h0];rfl)
 have e0:a.atoms[0]=head0 a:=by unfold head0;rw[List.getElem?_eq_getElem h0];rfl
 obtain ⟨xb,hxb⟩:∃ x,x=(head0 a).b:=⟨_,rfl⟩
 rw[e0] at g0 g1 g2
 rw[←hxb] at g2
 replace hxb:=Lib.hid hxb
 have hbl:=block_lt_of_cell g2
 simp only[Nat.zero_mul,Nat.add_zero] at hbl g2
 have hii:(0:Int)<(a.atoms.length:Int):=by omega
 clear h1 h2 g0 g1 e0
 have E:Hid (accF 2 A B a K0=assignF a A xb K0):=Lib.hid (by rw[hxb.out];rfl)
 go_enter Tryz.func141,Tryz.ntmps141
 have k3:Blk (((w.alloc (.cells #[.slice A1 a.facts.length c1,.slice (some ⟨b,o,none⟩) a.atoms.length c2] tAs)).alloc (.cells #[.int .i64 2,.int .i64 A,.int .i64 B,.bool t.eq,.int .i64 t.a,.int .i64 t.b,.slice X1 n1 d1,.slice X2 n2 d2,.slice X3 n3 d3,.slice X4 n4 d4] tC)).alloc (.cells #[.slice none 0 0,.slice none 0 0] tAs)) w.heap.size tAs #[.slice A1 a.facts.length c1,.slice (some ⟨b,o,none⟩) a.atoms.length c2]:=blks
 have k4:Blk (((w.alloc (.cells #[.slice A1 a.facts.length c1,.slice (some ⟨b,o,none⟩) a.atoms.length c2] tAs)).alloc (.cells #[.int .i64 2,.int .i64 A,.int .i64 B,.bool t.eq,.int .i64 t.a,.int .i64 t.b,.slice X1 n1 d1,.slice X2 n2 d2,.slice X3 n3 d3,.slice X4 n4 d4] tC)).alloc (.cells #[.slice none 0 0,.slice none 0 0] tAs)) (w.heap.size+1) tC #[.int .i64 2,.int .i64 A,.int .i64 B,.bool t.eq,.int .i64 t.a,.int .i64 t.b,.slice X1 n1 d1,.slice X2 n2 d2,.slice X3 n3 d3,.slice X4 n4 d4]:=blks
 have k6:Blk (((w.alloc (.cells #[.slice A1 a.facts.length c1,.slice (some ⟨b,o,none⟩) a.atoms.length c2] tAs)).alloc (.cells #[.int .i64 2,.int .i64 A,.int .i64 B,.bool t.eq,.int .i64 t.a,.int .i64 t.b,.slice X1 n1 d1,.slice X2 n2 d2,.slice X3 n3 d3,.slice X4 n4 d4] tC)).alloc (.cells #[.slice none 0 0,.slice none 0 0] tAs)) (w.heap.size+1+1) tAs #[.slice none 0 0,.slice none 0 0]:=blks
 have HB:Hid (Below w.heap.size w (((w.alloc (.cells #[.slice A1 a.facts.length c1,.slice (some ⟨b,o,none⟩) a.atoms.length c2] tAs)).alloc (.cells #[.int .i64 2,.int .i64 A,.int .i64 B,.bool t.eq,.int .i64 t.a,.int .i64 t.b,.slice X1 n1 d1,.slice X2 n2 d2,.slice X3 n3 d3,.slice X4 n4 d4] tC)).alloc (.cells #[.slice none 0 0,.slice none 0 0] tAs))):=Lib.hid bel
 have hz:(((w.alloc (.cells #[.slice A1 a.facts.length c1,.slice (some ⟨b,o,none⟩) a.atoms.length c2] tAs)).alloc (.cells #[.int .i64 2,.int .i64 A,.int .i64 B,.bool t.eq,.int .i64 t.a,.int .i64 t.b,.slice X1 n1 d1,.slice X2 n2 d2,.slice X3 n3 d3,.slice X4 n4 d4] tC)).alloc (.cells #[.slice none 0 0,.slice none 0 0] tAs)).heap.size=w.heap.size+3:=by simp
 have hq2:(((w.alloc (.cells #[.slice A1 a.facts.length c1,.slice (some ⟨b,o,none⟩) a.atoms.length c2] tAs)).alloc (.cells #[.int .i64 2,.int .i64 A,.int .i64 B,.bool t.eq,.int .i64 t.a,.int .i64 t.b,.slice X1 n1 d1,.slice X2 n2 d2,.slice X3 n3 d3,.slice X4 n4 d4] tC)).alloc (.cells #[.slice none 0 0,.slice none 0 0] tAs)).cell? ⟨b,o+2,none⟩=some (.int .i64 xb):=(HB.out.cell (p:=⟨b,o+2,none⟩) hbl).trans g2
 go_upto_region 3 with fail
 generalize (((w.alloc (.cells #[.slice A1 a.facts.length c1,.slice (some ⟨b,o,none⟩) a.atoms.length c2] tAs)).alloc (.cells #[.int .i64 2,.int .i64 A,.int .i64 B,.bool t.eq,.int .i64 t.a,.int .i64 t.b,.slice X1 n1 d1,.slice X2 n2 d2,.slice X3 n3 d3,.slice X4 n4 d4] tC)).alloc (.cells #[.slice none 0 0,.slice none 0 0] tAs))=W at k3 k4 k6 hq2 HB hz ⊢
 have hdz:W.drew.heap.size=W.heap.size:=rfl
 have hq2d:W.drew.cell? ⟨b,o+2,none⟩=some (.int .i64 xb):=hq2
 refine wp_region_noPanic ?_
 refine wp_region_held_drew (S:=(fun w'=>(∀ i,w'.cell? ⟨w.heap.size,i,none⟩=#[.slice A1 a.facts.length c1,.slice (some ⟨b,o,none⟩) a.atoms.length c2][i]?)∧(∀ i,w'.cell? ⟨w.heap.size+1,i,none⟩=#[.int .i64 2,.int .i64 A,.int .i64 B,.bool t.eq,.int .i64 t.a,.int .i64 t.b,.slice X1 n1 d1,.slice X2 n2 d2,.slice X3 n3 d3,.slice X4 n4 d4][i]?)∧w'.cell? ⟨b,o+2,none⟩=some (.int .i64 xb))) (by kernel_rfl) (⟨k3.drew.cell,k4.drew.cell,hq2d⟩) (fun hHeld=>?_)
 refine tk2 0 rfl hHeld ?_
 try simp only[zz]
 refine tk2 1 rfl hHeld ?_
 try simp only[zz]
 refine tk2 2 rfl hHeld ?_
 try simp only[zz]
 refine tk2 3 rfl hHeld ?_
 try simp only[zz]
 refine tk2 4 rfl hHeld ?_
 try simp only[zz]
 refine tk2 5 rfl hHeld ?_
 try simp only[zz]
 refine tk2 6 rfl hHeld ?_
 try simp only[zz]
 refine tk2 7 rfl hHeld ?_
 try simp only[zz]
 refine tk2 8 rfl hHeld ?_
 try simp only[zz]
 refine rdc 9 rfl fun K hK=>?_
 try simp only[zz]
 (go_simp;refine (c_impl_assigned _ a A xb K0 _ (hV.out.V.below HB.out.drew) hK0 HA hl.1).mono ?_;rintro e w1 ⟨r,rfl,oX,hB1⟩;replace hB1:Below W.heap.size W w1:=(Below.refl _ _).drew.trans hB1;obtain ⟨⟨F,n,f,G,m,g,rfl⟩,oX⟩:=oX;have k31:=k3.next hB1;have k41:=k4.next hB1;have k61:=k6.next hB1;have hq21:w1.cell? ⟨b,o+2,none⟩=some (.int .i64 xb):=(hB1.cell (p:=⟨b,o+2,none⟩) (by simp only;omega)).trans hq2;have HB1:=Lib.hid (bgo HB.out hB1);have OX:=Lib.hid oX;have hz1:=hB1.size;clear hB1 oX)
 refine hK.out _ _ (⟨k31.cell,k41.cell,hq21⟩) ?_
 clear hHeld hK K
 intro hHeld
 try simp only[zz]
 refine tk2 10 rfl hHeld ?_
 try simp only[zz]
 refine tk2 11 rfl hHeld ?_
 try simp only[zz]
 have l61:=k61.lt
 have q61:=k61.cell
 have r61:=k61.frozen
 refine rdc 12 rfl fun K hK=>?_
 try simp only[zz]
 go_simp
 refine hK.out _ _ (⟨((k31.far (p:=⟨w.heap.size+1+1,0,none⟩) (by simp only;omega) _).far (p:=⟨w.heap.size+1+1,1,none⟩) (by simp only;omega) _).cell,((k41.far (p:=⟨w.heap.size+1+1,0,none⟩) (by simp only;omega) _).far (p:=⟨w.heap.size+1+1,1,none⟩) (by simp only;omega) _).cell,((((HB1.out.setCell (p:=⟨w.heap.size+1+1,0,none⟩) (by simp only;omega) _).setCell (p:=⟨w.heap.size+1+1,1,none⟩) (by simp only;omega) _).cell (p:=⟨b,o+2,none⟩) hbl).trans g2)⟩) ?_
 clear hHeld hK K
 intro hHeld
 try simp only[zz]
 refine tk2 13 rfl hHeld ?_
 try simp only[zz]
 refine wpAnyH_done (by kernel_rfl) ?_ _
 refine NoPanic.normal ?_
 go_wp2_with fail
 have z6:=((k61.set_ 0 (.slice F n f)).set_ 1 (.slice G m g)).cell
 refine bodyPost_ret (v:=.tuple #[.agg #[.slice F n f,.slice G m g],.bool (assignF a A xb K0).isSome]) (by simp[results,Tryz.results141,go_sem,z6]) rfl ⟨_,by rw[E.out],?_,?_⟩
 ·rw[E.out]
  exact ⟨⟨_,_,_,_,_,_,rfl⟩,fun c hc=>(AsnO.setT2 (OX.out c hc) k61 _ _).lower (by omega)⟩
 ·exact (HB1.out.setCell (p:=⟨w.heap.size+1+1,0,none⟩) (by simp only;omega) _).setCell (p:=⟨w.heap.size+1+1,1,none⟩) (by simp only;omega) _
theorem c_acc3 {lo hi:Nat} (v:Value) (a:Asn) (A B:Int) (t:Fct) (X1 X2 X3 X4:Option Addr) (n1 n2 n3 n4 d1 d2 d3 d4 K0:Nat) (w:World) (h:AsnC w lo hi v a) (h0:0<a.atoms.length) (hl:a.facts.length≤1000∧a.atoms.length≤1000) (hK0:K0<512) :
  Calls Tryz.prog 141 #[v,.agg #[.int .i64 3,.int .i64 A,.int .i64 B,.bool t.eq,.int .i64 t.a,.int .i64 t.b,.slice X1 n1 d1,.slice X2 n2 d2,.slice X3 n3 d3,.slice X4 n4 d4],.int .u16 K0] w fun e w'=>∃ r,e=.returned (.tuple #[r,.bool (accF 3 A B a K0).isSome])∧OptO w' w.heap.size r (accF 3 A B a K0)∧Below w.heap.size w w':=by
 have hV:=Lib.hid h
 obtain ⟨A1,c1,A2,c2,rfl,h1,h2,-⟩:=h
 have H1:=Lib.hid h1
 have H2:=Lib.hid h2
 obtain ⟨b,o,rfl,g0,g1,g2⟩:=h2.at h0
 have E0:Hid (a.atoms[0]? = some (head0 a)):=Lib.hid (by unfold head0;rw[List.getElem?_eq_getElem h0];rfl)
 have e0:a.atoms[0]=head0 a:=by unfold head0;rw[List.getElem?_eq_getElem h0];rfl
 obtain ⟨xb,hxb⟩:∃ x,x=(head0 a).b:=⟨_,rfl⟩
 rw[e0] at g0 g1 g2
 rw[←hxb] at g2
 replace hxb:=Lib.hid hxb
 have hbl:=block_lt_of_cell g2
 simp only[Nat.zero_mul,Nat.add_zero] at hbl g2
 have hii:(0:Int)<(a.atoms.length:Int):=by omega
 clear h1 h2 g0 g1 e0
 have E:Hid (accF 3 A B a K0=some (storeX a B)):=Lib.hid rfl
 go_enter Tryz.func141,Tryz.ntmps141
 have k3:Blk (((w.alloc (.cells #[.slice A1 a.facts.length c1,.slice (some ⟨b,o,none⟩) a.atoms.length c2] tAs)).alloc (.cells #[.int .i64 3,.int .i64 A,.int .i64 B,.bool t.eq,.int .i64 t.a,.int .i64 t.b,.slice X1 n1 d1,.slice X2 n2 d2,.slice X3 n3 d3,.slice X4 n4 d4] tC)).alloc (.cells #[.slice none 0 0,.slice none 0 0] tAs)) w.heap.size tAs #[.slice A1 a.facts.length c1,.slice (some ⟨b,o,none⟩) a.atoms.length c2]:=blks
 have k4:Blk (((w.alloc (.cells #[.slice A1 a.facts.length c1,.slice (some ⟨b,o,none⟩) a.atoms.length c2] tAs)).alloc (.cells #[.int .i64 3,.int .i64 A,.int .i64 B,.bool t.eq,.int .i64 t.a,.int .i64 t.b,.slice X1 n1 d1,.slice X2 n2 d2,.slice X3 n3 d3,.slice X4 n4 d4] tC)).alloc (.cells #[.slice none 0 0,.slice none 0 0] tAs)) (w.heap.size+1) tC #[.int .i64 3,.int .i64 A,.int .i64 B,.bool t.eq,.int .i64 t.a,.int .i64 t.b,.slice X1 n1 d1,.slice X2 n2 d2,.slice X3 n3 d3,.slice X4 n4 d4]:=blks
 have k6:Blk (((w.alloc (.cells #[.slice A1 a.facts.length c1,.slice (some ⟨b,o,none⟩) a.atoms.length c2] tAs)).alloc (.cells #[.int .i64 3,.int .i64 A,.int .i64 B,.bool t.eq,.int .i64 t.a,.int .i64 t.b,.slice X1 n1 d1,.slice X2 n2 d2,.slice X3 n3 d3,.slice X4 n4 d4] tC)).alloc (.cells #[.slice none 0 0,.slice none 0 0] tAs)) (w.heap.size+1+1) tAs #[.slice none 0 0,.slice none 0 0]:=blks
 have HB:Hid (Below w.heap.size w (((w.alloc (.cells #[.slice A1 a.facts.length c1,.slice (some ⟨b,o,none⟩) a.atoms.length c2] tAs)).alloc (.cells #[.int .i64 3,.int .i64 A,.int .i64 B,.bool t.eq,.int .i64 t.a,.int .i64 t.b,.slice X1 n1 d1,.slice X2 n2 d2,.slice X3 n3 d3,.slice X4 n4 d4] tC)).alloc (.cells #[.slice none 0 0,.slice none 0 0] tAs))):=Lib.hid bel
 have hz:(((w.alloc (.cells #[.slice A1 a.facts.length c1,.slice (some ⟨b,o,none⟩) a.atoms.length c2] tAs)).alloc (.cells #[.int .i64 3,.int .i64 A,.int .i64 B,.bool t.eq,.int .i64 t.a,.int .i64 t.b,.slice X1 n1 d1,.slice X2 n2 d2,.slice X3 n3 d3,.slice X4 n4 d4] tC)).alloc (.cells #[.slice none 0 0,.slice none 0 0] tAs)).heap.size=w.heap.size+3:=by simp
 go_upto_region 5 with fail
 generalize (((w.alloc (.cells #[.slice A1 a.facts.length c1,.slice (some ⟨b,o,none⟩) a.atoms.length c2] tAs)).alloc (.cells #[.int .i64 3,.int .i64 A,.int .i64 B,.bool t.eq,.int .i64 t.a,.int .i64 t.b,.slice X1 n1 d1,.slice X2 n2 d2,.slice X3 n3 d3,.slice X4 n4 d4] tC)).alloc (.cells #[.slice none 0 0,.slice none 0 0] tAs))=W at k3 k4 k6 HB hz ⊢
 have hdz:W.drew.heap.size=W.heap.size:=rfl
 (replace qk3:=k3.cell;replace rk3:=k3.frozen;replace lk3:=k3.lt;replace qk4:=k4.cell;replace rk4:=k4.frozen;replace lk4:=k4.lt;replace qk6:=k6.cell;replace rk6:=k6.frozen;replace lk6:=k6.lt)
 go_wp2_with fail
 refine (c_impl_copyAssertion _ a _ (hV.out.V.below HB.out)).mono ?_
 rintro e w1 ⟨r,rfl,oC,hB1⟩
 obtain ⟨fv,av,rfl,of,oa⟩:=oC
 obtain ⟨F,f,rfl,-⟩:=of.reads
 obtain ⟨G,g,rfl,-⟩:=oa.reads
 obtain ⟨gb,cur,-,rfl,hg,kg,hsz,x0,x1,x2,-⟩:=oa.open_ (k:=0) h0
 simp only[Nat.zero_mul,Nat.zero_add] at x0 x1 x2
 have k41:=k4.next hB1
 have k61:=k6.next hB1
 have HB1:=Lib.hid (bgo HB.out hB1)
 have hz1:=hB1.size
 have OF:=Lib.hid of
 have OA:=Lib.hid oa
 clear of oa hB1 k3 k4 k6 qk3 rk3 lk3 qk4 rk4 lk4 qk6 rk6 lk6 HB x0 x1
 have hgl:=kg.lt
 have rg:=kg.frozen
 have q2:=(kg.cell 2).trans x2
 (replace qk41:=k41.cell;replace rk41:=k41.frozen;replace lk41:=k41.lt;replace qk61:=k61.cell;replace rk61:=k61.frozen;replace lk61:=k61.lt)
 go_wp2_with fail
 have hne:gb≠w.heap.size+1+1:=fun e=>by omega
 have k62:=k61.far (p:=⟨gb,2,none⟩) (fun e=>hne e.symm) (.int .i64 B)
 have OA1:=OA.out.storeB h0 B E0.out
 have OF1:=OF.out.setT kg (by decide) 2 (.int .i64 B)
 have z6:=(((k62.set_ 0 (.slice F a.facts.length f)).set_ 1 (.slice (some ⟨gb,0,none⟩) a.atoms.length g)).alloc (.cells #[.slice F a.facts.length f,.slice (some ⟨gb,0,none⟩) a.atoms.length g] tAs)).cell
 have OX:AsnO (w1.setCell ⟨gb,2,none⟩ (.int .i64 B)) W.heap.size (.agg #[.slice F a.facts.length f,.slice (some ⟨gb,0,none⟩) a.atoms.length g]) (storeX a B):=by
  refine ⟨_,_,rfl,OF1,?_⟩
  exact OA1
 have HB2:=(HB1.out.setCell (p:=⟨gb,2,none⟩) (by simp only;omega) (.int .i64 B))
 refine bodyPost_ret (v:=.tuple #[.agg #[.slice F a.facts.length f,.slice (some ⟨gb,0,none⟩) a.atoms.length g],.bool true]) (by simp[results,Tryz.results141,go_sem,z6]) rfl ⟨_,by rw[E.out];rfl,?_,?_⟩
 ·rw[E.out]
  refine OptO.some ((AsnO.setT2 OX k62 _ _).lower (by omega) |>.below bel)
 ·exact bbox (((HB2.setCell (p:=⟨w.heap.size+1+1,0,none⟩) (by simp only;omega) _).setCell (p:=⟨w.heap.size+1+1,1,none⟩) (by simp only;omega) _)) _
theorem c_acc5 {lo hi:Nat} (v:Value) (a:Asn) (k A B:Int) (t:Fct) (X1 X2 X3 X4:Option Addr) (n1 n2 n3 n4 d1 d2 d3 d4 K0:Nat) (w:World) (h:AsnC w lo hi v a) (h0:0<a.atoms.length) (hl:a.facts.length≤1000∧a.atoms.length≤1000) (hK0:K0<512) (hk2:¬k=2) (hk3:¬k=3) :
  Calls Tryz.prog 141 #[v,.agg #[.int .i64 k,.int .i64 A,.int .i64 B,.bool t.eq,.int .i64 t.a,.int .i64 t.b,.slice X1 n1 d1,.slice X2 n2 d2,.slice X3 n3 d3,.slice X4 n4 d4],.int .u16 K0] w fun e w'=>∃ r,e=.returned (.tuple #[r,.bool (accF k A B a K0).isSome])∧OptO w' w.heap.size r (accF k A B a K0)∧Below w.heap.size w w':=by
 have hV:=Lib.hid h
 obtain ⟨A1,c1,A2,c2,rfl,h1,h2,-⟩:=h
 have H1:=Lib.hid h1
 have H2:=Lib.hid h2
 obtain ⟨b,o,rfl,g0,g1,g2⟩:=h2.at h0
 have E0:Hid (a.atoms[0]? = some (head0 a)):=Lib.hid (by unfold head0;rw[List.getElem?_eq_getElem h0];rfl)
 have e0:a.atoms[0]=head0 a:=by unfold head0;rw[List.getElem?_eq_getElem h0];rfl
 obtain ⟨xb,hxb⟩:∃ x,x=(head0 a).b:=⟨_,rfl⟩
 rw[e0] at g0 g1 g2
 rw[←hxb] at g2
 replace hxb:=Lib.hid hxb
 have hbl:=block_lt_of_cell g2
 simp only[Nat.zero_mul,Nat.add_zero] at hbl g2
 have hii:(0:Int)<(a.atoms.length:Int):=by omega
 clear h1 h2 g0 g1 e0
 have E:Hid (accF k A B a K0=some (freeX a)):=Lib.hid (by unfold accF;rw[if_neg hk2,if_neg hk3])
 have b2:(k == 2)=false:=beq_false_of_ne hk2
 have b3:(k == 3)=false:=beq_false_of_ne hk3
 clear hk2 hk3
 go_enter Tryz.func141,Tryz.ntmps141
 have k3:Blk (((w.alloc (.cells #[.slice A1 a.facts.length c1,.slice (some ⟨b,o,none⟩) a.atoms.length c2] tAs)).alloc (.cells #[.int .i64 k,.int .i64 A,.int .i64 B,.bool t.eq,.int .i64 t.a,.int .i64 t.b,.slice X1 n1 d1,.slice X2 n2 d2,.slice X3 n3 d3,.slice X4 n4 d4] tC)).alloc (.cells #[.slice none 0 0,.slice none 0 0] tAs)) w.heap.size tAs #[.slice A1 a.facts.length c1,.slice (some ⟨b,o,none⟩) a.atoms.length c2]:=blks
 have k4:Blk (((w.alloc (.cells #[.slice A1 a.facts.length c1,.slice (some ⟨b,o,none⟩) a.atoms.length c2] tAs)).alloc (.cells #[.int .i64 k,.int .i64 A,.int .i64 B,.bool t.eq,.int .i64 t.a,.int .i64 t.b,.slice X1 n1 d1,.slice X2 n2 d2,.slice X3 n3 d3,.slice X4 n4 d4] tC)).alloc (.cells #[.slice none 0 0,.slice none 0 0] tAs)) (w.heap.size+1) tC #[.int .i64 k,.int .i64 A,.int .i64 B,.bool t.eq,.int .i64 t.a,.int .i64 t.b,.slice X1 n1 d1,.slice X2 n2 d2,.slice X3 n3 d3,.slice X4 n4 d4]:=blks
 have k6:Blk (((w.alloc (.cells #[.slice A1 a.facts.length c1,.slice (some ⟨b,o,none⟩) a.atoms.length c2] tAs)).alloc (.cells #[.int .i64 k,.int .i64 A,.int .i64 B,.bool t.eq,.int .i64 t.a,.int .i64 t.b,.slice X1 n1 d1,.slice X2 n2 d2,.slice X3 n3 d3,.slice X4 n4 d4] tC)).alloc (.cells #[.slice none 0 0,.slice none 0 0] tAs)) (w.heap.size+1+1) tAs #[.slice none 0 0,.slice none 0 0]:=blks
 have HB:Hid (Below w.heap.size w (((w.alloc (.cells #[.slice A1 a.facts.length c1,.slice (some ⟨b,o,none⟩) a.atoms.length c2] tAs)).alloc (.cells #[.int .i64 k,.int .i64 A,.int .i64 B,.bool t.eq,.int .i64 t.a,.int .i64 t.b,.slice X1 n1 d1,.slice X2 n2 d2,.slice X3 n3 d3,.slice X4 n4 d4] tC)).alloc (.cells #[.slice none 0 0,.slice none 0 0] tAs))):=Lib.hid bel
 have hz:(((w.alloc (.cells #[.slice A1 a.facts.length c1,.slice (some ⟨b,o,none⟩) a.atoms.length c2] tAs)).alloc (.cells #[.int .i64 k,.int .i64 A,.int .i64 B,.bool t.eq,.int .i64 t.a,.int .i64 t.b,.slice X1 n1 d1,.slice X2 n2 d2,.slice X3 n3 d3,.slice X4 n4 d4] tC)).alloc (.cells #[.slice none 0 0,.slice none 0 0] tAs)).heap.size=w.heap.size+3:=by simp
 go_upto_region 8 with fail
 generalize (((w.alloc (.cells #[.slice A1 a.facts.length c1,.slice (some ⟨b,o,none⟩) a.atoms.length c2] tAs)).alloc (.cells #[.int .i64 k,.int .i64 A,.int .i64 B,.bool t.eq,.int .i64 t.a,.int .i64 t.b,.slice X1 n1 d1,.slice X2 n2 d2,.slice X3 n3 d3,.slice X4 n4 d4] tC)).alloc (.cells #[.slice none 0 0,.slice none 0 0] tAs))=W at k3 k4 k6 HB hz ⊢
 have hdz:W.drew.heap.size=W.heap.size:=rfl
 (replace qk3:=k3.cell;replace rk3:=k3.frozen;replace lk3:=k3.lt;replace qk4:=k4.cell;replace rk4:=k4.frozen;replace lk4:=k4.lt;replace qk6:=k6.cell;replace rk6:=k6.frozen;replace lk6:=k6.lt)
 go_wp2_with fail
 clear qk3 rk3 lk3 qk4 rk4 lk4 qk6 rk6 lk6
 refine wp_region_noPanic ?_
 refine wp_region_held_drew (S:=(fun w'=>(∀ i,w'.cell? ⟨w.heap.size,i,none⟩=#[.slice A1 a.facts.length c1,.slice (some ⟨b,o,none⟩) a.atoms.length c2][i]?))) (by kernel_rfl) (k3.drew.cell) (fun hHeld=>?_)
 refine tk2 0 rfl hHeld ?_
 try simp only[zz]
 refine tk2 1 rfl hHeld ?_
 try simp only[zz]
 refine tk2 3 rfl hHeld ?_
 try simp only[zz]
 refine rdc 2 rfl fun K hK=>?_
 try simp only[zz]
 (go_simp;refine (c_joinF A1 none c1 0 a.facts [] _ (H1.out.below HB.out.drew) (Rd.nil _ 0 0 _ _) (by simp;omega)).mono ?_;rintro e w1 ⟨r,rfl,oF,hB1⟩;rw[List.append_nil] at oF;obtain ⟨F,f,rfl,-⟩:=oF.reads;replace hB1:Below W.heap.size W w1:=(Below.refl _ _).drew.trans hB1;have k31:=k3.next hB1;have k61:=k6.next hB1;have HB1:=Lib.hid (bgo HB.out hB1);have OF:=Lib.hid (oF.lower (base':=w.heap.size) (by omega));have hz1:=hB1.size;clear hB1 oF)
 refine hK.out _ _ (k31.cell) ?_
 clear hHeld hK K
 intro hHeld
 try simp only[zz]
 refine rdc 4 rfl fun K hK=>?_
 try simp only[zz]
 (go_simp;refine (c_without0 _ a _ (hV.out.below HB1.out) h0).mono ?_;rintro e w2 ⟨G,g,rfl,oA,hB2⟩;have k32:=k31.next hB2;have k62:=k61.next hB2;have HB2:=Lib.hid (bgo HB1.out hB2);have OF2:=Lib.hid (OF.out.below hB2);have OA:=Lib.hid (oA.lower (base':=w.heap.size) (by omega));have hz2:=hB2.size;clear hB2 oA)
 refine hK.out _ _ (k32.cell) ?_
 clear hHeld hK K
 intro hHeld
 try simp only[zz]
 refine tk2 5 rfl hHeld ?_
 try simp only[zz]
 have l62:=k62.lt
 have q62:=k62.cell
 have r62:=k62.frozen
 refine rdc 6 rfl fun K hK=>?_
 try simp only[zz]
 go_simp
 refine hK.out _ _ (((k32.far (p:=⟨w.heap.size+1+1,0,none⟩) (by simp only;omega) _).far (p:=⟨w.heap.size+1+1,1,none⟩) (by simp only;omega) _).cell) ?_
 clear hHeld hK K
 intro hHeld
 try simp only[zz]
 refine tk2 7 rfl hHeld ?_
 try simp only[zz]
 refine wpAnyH_done (by kernel_rfl) ?_ _
 refine NoPanic.normal ?_
 go_wp2_with fail
 have z6:=((k62.set_ 0 (.slice F a.facts.length f)).set_ 1 (.slice G (freeX a).atoms.length g)).cell
 refine bodyPost_ret (v:=.tuple #[.agg #[.slice F a.facts.length f,.slice G (freeX a).atoms.length g],.bool true]) (by simp[results,Tryz.results141,go_sem,z6]) rfl ⟨_,by rw[E.out];rfl,?_,?_⟩
 ·rw[E.out]
  exact OptO.some (AsnO.setT2 (⟨_,_,rfl,OF2.out,OA.out⟩:AsnO w2 w.heap.size (.agg #[.slice F a.facts.length f,.slice G (freeX a).atoms.length g]) (freeX a)) k62 _ _)
 ·exact (HB2.out.setCell (p:=⟨w.heap.size+1+1,0,none⟩) (by simp only;omega) _).setCell (p:=⟨w.heap.size+1+1,1,none⟩) (by simp only;omega) _
theorem c_impl_accessed {lo hi:Nat} (v:Value) (a:Asn) (k A B:Int) (t:Fct) (X1 X2 X3 X4:Option Addr) (n1 n2 n3 n4 d1 d2 d3 d4 K0:Nat) (w:World) (h:AsnC w lo hi v a) (h0:0<a.atoms.length) (hl:a.facts.length≤1000∧a.atoms.length≤1000) (hK0:K0<512) (hA:k=2→isTermB A=true) :
  Calls Tryz.prog 141 #[v,.agg #[.int .i64 k,.int .i64 A,.int .i64 B,.bool t.eq,.int .i64 t.a,.int .i64 t.b,.slice X1 n1 d1,.slice X2 n2 d2,.slice X3 n3 d3,.slice X4 n4 d4],.int .u16 K0] w fun e w'=>∃ r,e=.returned (.tuple #[r,.bool (accF k A B a K0).isSome])∧OptO w' w.heap.size r (accF k A B a K0)∧Below w.heap.size w w':=by
 by_cases h2:k=2
 ·subst h2
  exact c_acc2 v a A B t X1 X2 X3 X4 n1 n2 n3 n4 d1 d2 d3 d4 K0 w h h0 hl hK0 (hA rfl)
 ·by_cases h3:k=3
  ·subst h3
   exact c_acc3 v a A B t X1 X2 X3 X4 n1 n2 n3 n4 d1 d2 d3 d4 K0 w h h0 hl hK0
  ·exact c_acc5 v a k A B t X1 X2 X3 X4 n1 n2 n3 n4 d1 d2 d3 d4 K0 w h h0 hl hK0 h2 h3
end

/- Symbolic execution: impl.symBasic. Printed by genSymL.py. -/
section
open Go Go.RowKit Go.Proofs
attribute [local go_sem ↓] Go.wp_at_zero Go.wp_at_succ
theorem symB_eq {a:Asn} {A:Int} {K:Nat}:symB a 1 A A K=some [a]:=by unfold symB;rw[if_pos rfl,if_pos rfl]
theorem symB_set {a:Asn} {A B:Int} {K:Nat} (h:¬A=B):symB a 1 A B K=(assignF a A B K).map fun x=>[x]:=by unfold symB;rw[if_pos rfl,if_neg h]
theorem symB_new {a:Asn} {A B:Int} {K:Nat}:symB a 4 A B K=(cellNF a A K).map fun x=>[x]:=rfl
theorem symB_acc {a:Asn} {k A B:Int} {K:Nat} (h1:¬k=1) (h4:¬k=4):symB a k A B K=(exposeF 7 a (symT k A B) K).bind fun l=>mapF (fun x=>accF k A B x K) l:=by unfold symB;rw[if_neg h1,if_neg h4]
theorem c_symB1 {lo hi:Nat} (v:Value) (a:Asn) (A B:Int) (t:Fct) (X1 X2 X3 X4:Option Addr) (n1 n2 n3 n4 d1 d2 d3 d4 K0:Nat) (w:World) (h:AsnC w lo hi v a) (hhi:hi≤w.heap.size) (hv:a.valid=true) (hK0:K0<512) (hA:isTermB A=true) :
  Calls Tryz.prog 65 #[v,.agg #[.int .i64 1,.int .i64 A,.int .i64 B,.bool t.eq,.int .i64 t.a,.int .i64 t.b,.slice X1 n1 d1,.slice X2 n2 d2,.slice X3 n3 d3,.slice X4 n4 d4],.int .u16 K0] w fun e w'=>∃ r vs,e=.returned (.tuple #[r,.bool (symB a 1 A B (keepK K0 A B)).isSome])∧A2O w' w.heap.size r vs ((symB a 1 A B (keepK K0 A B)).getD [])∧Below w.heap.size w w':=by
 have hV:=Lib.hid h
 obtain ⟨A1,c1,A2,c2,rfl,-⟩:=h
 have hvl:=valid_len hv
 have HV:=Lib.hid hv
 obtain ⟨K1,hK1⟩:∃ x,x=tins K0 A:=⟨_,rfl⟩
 have l1:K1<512:=by rw[hK1];exact tins_lt hK0 _
 obtain ⟨K2,hK2⟩:∃ x,x=tins K1 B:=⟨_,rfl⟩
 have l2:K2<512:=by rw[hK2];exact tins_lt l1 _
 have EK:Hid (keepK K0 A B=K2):=Lib.hid (by rw[hK2,hK1];rfl)
 rw[EK.out]
 replace hK1:=Lib.hid hK1
 replace hK2:=Lib.hid hK2
 clear hv EK
 go_enter Tryz.func65,Tryz.ntmps65
 have k3:Blk ((w.alloc (.cells #[.slice A1 a.facts.length c1,.slice A2 a.atoms.length c2] tAs)).alloc (.cells #[.int .i64 1,.int .i64 A,.int .i64 B,.bool t.eq,.int .i64 t.a,.int .i64 t.b,.slice X1 n1 d1,.slice X2 n2 d2,.slice X3 n3 d3,.slice X4 n4 d4] tC)) w.heap.size tAs #[.slice A1 a.facts.length c1,.slice A2 a.atoms.length c2]:=blks
 have k4:Blk ((w.alloc (.cells #[.slice A1 a.facts.length c1,.slice A2 a.atoms.length c2] tAs)).alloc (.cells #[.int .i64 1,.int .i64 A,.int .i64 B,.bool t.eq,.int .i64 t.a,.int .i64 t.b,.slice X1 n1 d1,.slice X2 n2 d2,.slice X3 n3 d3,.slice X4 n4 d4] tC)) (w.heap.size+1) tC #[.int .i64 1,.int .i64 A,.int .i64 B,.bool t.eq,.int .i64 t.a,.int .i64 t.b,.slice X1 n1 d1,.slice X2 n2 d2,.slice X3 n3 d3,.slice X4 n4 d4]:=blks
 have HB:Hid (Below w.heap.size w ((w.alloc (.cells #[.slice A1 a.facts.length c1,.slice A2 a.atoms.length c2] tAs)).alloc (.cells #[.int .i64 1,.int .i64 A,.int .i64 B,.bool t.eq,.int .i64 t.a,.int .i64 t.b,.slice X1 n1 d1,.slice X2 n2 d2,.slice X3 n3 d3,.slice X4 n4 d4] tC))):=Lib.hid bel
 have hz:((w.alloc (.cells #[.slice A1 a.facts.length c1,.slice A2 a.atoms.length c2] tAs)).alloc (.cells #[.int .i64 1,.int .i64 A,.int .i64 B,.bool t.eq,.int .i64 t.a,.int .i64 t.b,.slice X1 n1 d1,.slice X2 n2 d2,.slice X3 n3 d3,.slice X4 n4 d4] tC)).heap.size=w.heap.size+2:=by simp
 go_upto_region 1 with fail
 generalize ((w.alloc (.cells #[.slice A1 a.facts.length c1,.slice A2 a.atoms.length c2] tAs)).alloc (.cells #[.int .i64 1,.int .i64 A,.int .i64 B,.bool t.eq,.int .i64 t.a,.int .i64 t.b,.slice X1 n1 d1,.slice X2 n2 d2,.slice X3 n3 d3,.slice X4 n4 d4] tC))=W at k3 k4 HB hz ⊢
 refine wp_region_noPanic ?_
 refine wp_region_held_drew (S:=(fun w'=>(∀ i,w'.cell? ⟨w.heap.size,i,none⟩=#[.slice A1 a.facts.length c1,.slice A2 a.atoms.length c2][i]?)∧(∀ i,w'.cell? ⟨w.heap.size+1,i,none⟩=#[.int .i64 1,.int .i64 A,.int .i64 B,.bool t.eq,.int .i64 t.a,.int .i64 t.b,.slice X1 n1 d1,.slice X2 n2 d2,.slice X3 n3 d3,.slice X4 n4 d4][i]?))) (by kernel_rfl) (⟨k3.drew.cell,k4.drew.cell⟩) (fun hHeld=>?_)
 refine tk2 0 rfl hHeld ?_
 try simp only[zz]
 refine tk2 1 rfl hHeld ?_
 try simp only[zz]
 refine tk2 2 rfl hHeld ?_
 try simp only[zz]
 refine tk2 4 rfl hHeld ?_
 try simp only[zz]
 refine tk2 5 rfl hHeld ?_
 try simp only[zz]
 refine rdc 3 rfl fun K hK=>?_
 try simp only[zz]
 (go_simp;refine (c_impl_with K0 A _ hK0).mono ?_;rintro e w1 ⟨rfl,rfl⟩;rw[←hK1.out])
 refine hK.out _ _ (⟨k3.drew.cell,k4.drew.cell⟩) ?_
 clear hHeld hK K
 intro hHeld
 try simp only[zz]
 refine rdc 6 rfl fun K hK=>?_
 try simp only[zz]
 (go_simp;refine (c_impl_with K1 B _ l1).mono ?_;rintro e w1 ⟨rfl,rfl⟩;rw[←hK2.out])
 refine hK.out _ _ (⟨k3.drew.cell,k4.drew.cell⟩) ?_
 clear hHeld hK K
 intro hHeld
 try simp only[zz]
 refine tk2 7 rfl hHeld ?_
 try simp only[zz]
 refine wpAnyH_done (by kernel_rfl) ?_ _
 refine NoPanic.normal ?_
 replace k3:=k3.drew
 replace k4:=k4.drew
 replace HB:=Lib.hid HB.out.drew
 have hzd:W.drew.heap.size=W.heap.size:=rfl
 clear hHeld hK1 hK2 l1
 generalize W.drew=V at k3 k4 HB hzd ⊢
 by_cases hAB:A=B
 ·subst hAB
  have E:Hid (symB a 1 A A K2=some [a]):=Lib.hid symB_eq
  (replace qk3:=k3.cell;replace rk3:=k3.frozen;replace lk3:=k3.lt;replace qk4:=k4.cell;replace rk4:=k4.frozen;replace lk4:=k4.lt)
  go_wp2_with fail
  refine (c_impl_copyAssertion _ a _ (hV.out.V.below HB.out)).mono ?_
  rintro e w1 ⟨r,rfl,oC,hB1⟩
  obtain ⟨F,f,G,g,rfl⟩:=oC.I.form
  have OC:=Lib.hid oC
  have HB1:=Lib.hid (bgo HB.out hB1)
  have hz1:=hB1.size
  clear hB1 oC qk3 rk3 lk3 qk4 rk4 lk4 k3 k4
  go_wp2_with fail
  go_ret2
  refine ⟨.slice (some ⟨w1.heap.size,0,none⟩) 1 1,[.slice F a.facts.length f,.slice G a.atoms.length g],by rw[E.out];rfl,?_,bbox HB1.out _⟩
  rw[E.out]
  refine A2O.one (Blk.newE rfl) ?_ (AsnO.below (AsnO.lower OC.out (by omega)) bel)
  omega
 have E:=Lib.hid (symB_set (a:=a) (K:=K2) hAB)
 have hb:(A == B)=false:=beq_false_of_ne hAB
 (replace qk3:=k3.cell;replace rk3:=k3.frozen;replace lk3:=k3.lt;replace qk4:=k4.cell;replace rk4:=k4.frozen;replace lk4:=k4.lt)
 go_wp2_with fail
 refine (c_impl_assigned _ a A B K2 _ (hV.out.V.below HB.out) l2 hA (by omega)).mono ?_
 rintro e w1 ⟨r,rfl,oX,hB1⟩
 obtain ⟨⟨F,n,f,G,m,g,rfl⟩,oX⟩:=oX
 have HB1:=Lib.hid (bgo HB.out hB1)
 have hz1:=hB1.size
 have OX:=Lib.hid oX
 clear hB1 oX qk3 rk3 lk3 qk4 rk4 lk4 k3 k4
 cases hx:assignF a A B K2 with
 | none=>
  have E2:Hid (symB a 1 A B K2=none):=Lib.hid (by rw[E.out,hx];rfl)
  clear hx
  go_wp2_with fail
  go_ret2
  exact ⟨_,_,by rw[E2.out];rfl,by rw[E2.out];exact A2O.nil _ _,bbox HB1.out _⟩
 | some y=>
  have E2:Hid (symB a 1 A B K2=some [y]):=Lib.hid (by rw[E.out,hx];rfl)
  have OY:=Lib.hid (OX.out y hx)
  clear hx OX
  go_wp2_with fail
  go_ret2
  refine ⟨.slice (some ⟨w1.heap.size+1,0,none⟩) 1 1,[.slice F n f,.slice G m g],by rw[E2.out];rfl,?_,bbox (bbox HB1.out _) _⟩
  rw[E2.out]
  refine A2O.one (Blk.newE ?_) ?_ (AsnO.below (AsnO.lower OY.out (by omega)) bel)
  ·simp
  ·omega
theorem c_symB4 {lo hi:Nat} (v:Value) (a:Asn) (A B:Int) (t:Fct) (X1 X2 X3 X4:Option Addr) (n1 n2 n3 n4 d1 d2 d3 d4 K0:Nat) (w:World) (h:AsnC w lo hi v a) (hhi:hi≤w.heap.size) (hv:a.valid=true) (hK0:K0<512) (hA:isTermB A=true) :
  Calls Tryz.prog 65 #[v,.agg #[.int .i64 4,.int .i64 A,.int .i64 B,.bool t.eq,.int .i64 t.a,.int .i64 t.b,.slice X1 n1 d1,.slice X2 n2 d2,.slice X3 n3 d3,.slice X4 n4 d4],.int .u16 K0] w fun e w'=>∃ r vs,e=.returned (.tuple #[r,.bool (symB a 4 A B (keepK K0 A B)).isSome])∧A2O w' w.heap.size r vs ((symB a 4 A B (keepK K0 A B)).getD [])∧Below w.heap.size w w':=by
 have hV:=Lib.hid h
 obtain ⟨A1,c1,A2,c2,rfl,-⟩:=h
 have hvl:=valid_len hv
 have HV:=Lib.hid hv
 obtain ⟨K1,hK1⟩:∃ x,x=tins K0 A:=⟨_,rfl⟩
 have l1:K1<512:=by rw[hK1];exact tins_lt hK0 _
 obtain ⟨K2,hK2⟩:∃ x,x=tins K1 B:=⟨_,rfl⟩
 have l2:K2<512:=by rw[hK2];exact tins_lt l1 _
 have EK:Hid (keepK K0 A B=K2):=Lib.hid (by rw[hK2,hK1];rfl)
 rw[EK.out]
 replace hK1:=Lib.hid hK1
 replace hK2:=Lib.hid hK2
 clear hv EK
 go_enter Tryz.func65,Tryz.ntmps65
 have k3:Blk ((w.alloc (.cells #[.slice A1 a.facts.length c1,.slice A2 a.atoms.length c2] tAs)).alloc (.cells #[.int .i64 4,.int .i64 A,.int .i64 B,.bool t.eq,.int .i64 t.a,.int .i64 t.b,.slice X1 n1 d1,.slice X2 n2 d2,.slice X3 n3 d3,.slice X4 n4 d4] tC)) w.heap.size tAs #[.slice A1 a.facts.length c1,.slice A2 a.atoms.length c2]:=blks
 have k4:Blk ((w.alloc (.cells #[.slice A1 a.facts.length c1,.slice A2 a.atoms.length c2] tAs)).alloc (.cells #[.int .i64 4,.int .i64 A,.int .i64 B,.bool t.eq,.int .i64 t.a,.int .i64 t.b,.slice X1 n1 d1,.slice X2 n2 d2,.slice X3 n3 d3,.slice X4 n4 d4] tC)) (w.heap.size+1) tC #[.int .i64 4,.int .i64 A,.int .i64 B,.bool t.eq,.int .i64 t.a,.int .i64 t.b,.slice X1 n1 d1,.slice X2 n2 d2,.slice X3 n3 d3,.slice X4 n4 d4]:=blks
 have HB:Hid (Below w.heap.size w ((w.alloc (.cells #[.slice A1 a.facts.length c1,.slice A2 a.atoms.length c2] tAs)).alloc (.cells #[.int .i64 4,.int .i64 A,.int .i64 B,.bool t.eq,.int .i64 t.a,.int .i64 t.b,.slice X1 n1 d1,.slice X2 n2 d2,.slice X3 n3 d3,.slice X4 n4 d4] tC))):=Lib.hid bel
 have hz:((w.alloc (.cells #[.slice A1 a.facts.length c1,.slice A2 a.atoms.length c2] tAs)).alloc (.cells #[.int .i64 4,.int .i64 A,.int .i64 B,.bool t.eq,.int .i64 t.a,.int .i64 t.b,.slice X1 n1 d1,.slice X2 n2 d2,.slice X3 n3 d3,.slice X4 n4 d4] tC)).heap.size=w.heap.size+2:=by simp
 go_upto_region 1 with fail
 generalize ((w.alloc (.cells #[.slice A1 a.facts.length c1,.slice A2 a.atoms.length c2] tAs)).alloc (.cells #[.int .i64 4,.int .i64 A,.int .i64 B,.bool t.eq,.int .i64 t.a,.int .i64 t.b,.slice X1 n1 d1,.slice X2 n2 d2,.slice X3 n3 d3,.slice X4 n4 d4] tC))=W at k3 k4 HB hz ⊢
 refine wp_region_noPanic ?_
 refine wp_region_held_drew (S:=(fun w'=>(∀ i,w'.cell? ⟨w.heap.size,i,none⟩=#[.slice A1 a.facts.length c1,.slice A2 a.atoms.length c2][i]?)∧(∀ i,w'.cell? ⟨w.heap.size+1,i,none⟩=#[.int .i64 4,.int .i64 A,.int .i64 B,.bool t.eq,.int .i64 t.a,.int .i64 t.b,.slice X1 n1 d1,.slice X2 n2 d2,.slice X3 n3 d3,.slice X4 n4 d4][i]?))) (by kernel_rfl) (⟨k3.drew.cell,k4.drew.cell⟩) (fun hHeld=>?_)
 refine tk2 0 rfl hHeld ?_
 try simp only[zz]
 refine tk2 1 rfl hHeld ?_
 try simp only[zz]
 refine tk2 2 rfl hHeld ?_
 try simp only[zz]
 refine tk2 4 rfl hHeld ?_
 try simp only[zz]
 refine tk2 5 rfl hHeld ?_
 try simp only[zz]
 refine rdc 3 rfl fun K hK=>?_
 try simp only[zz]
 (go_simp;refine (c_impl_with K0 A _ hK0).mono ?_;rintro e w1 ⟨rfl,rfl⟩;rw[←hK1.out])
 refine hK.out _ _ (⟨k3.drew.cell,k4.drew.cell⟩) ?_
 clear hHeld hK K
 intro hHeld
 try simp only[zz]
 refine rdc 6 rfl fun K hK=>?_
 try simp only[zz]
 (go_simp;refine (c_impl_with K1 B _ l1).mono ?_;rintro e w1 ⟨rfl,rfl⟩;rw[←hK2.out])
 refine hK.out _ _ (⟨k3.drew.cell,k4.drew.cell⟩) ?_
 clear hHeld hK K
 intro hHeld
 try simp only[zz]
 refine tk2 7 rfl hHeld ?_
 try simp only[zz]
 refine wpAnyH_done (by kernel_rfl) ?_ _
 refine NoPanic.normal ?_
 replace k3:=k3.drew
 replace k4:=k4.drew
 replace HB:=Lib.hid HB.out.drew
 have hzd:W.drew.heap.size=W.heap.size:=rfl
 clear hHeld hK1 hK2 l1
 generalize W.drew=V at k3 k4 HB hzd ⊢
 have E:Hid (symB a 4 A B K2=(cellNF a A K2).map fun x=>[x]):=Lib.hid symB_new
 (replace qk3:=k3.cell;replace rk3:=k3.frozen;replace lk3:=k3.lt;replace qk4:=k4.cell;replace rk4:=k4.frozen;replace lk4:=k4.lt)
 go_wp2_with fail
 refine (c_impl_allocatedFor _ a A K2 _ (hV.out.V.below HB.out) l2 hA (by omega)).mono ?_
 rintro e w1 ⟨r,rfl,oX,hB1⟩
 obtain ⟨⟨F,n,f,G,m,g,rfl⟩,oX⟩:=oX
 have HB1:=Lib.hid (bgo HB.out hB1)
 have hz1:=hB1.size
 have OX:=Lib.hid oX
 clear hB1 oX qk3 rk3 lk3 qk4 rk4 lk4 k3 k4
 cases hx:cellNF a A K2 with
 | none=>
  have E2:Hid (symB a 4 A B K2=none):=Lib.hid (by rw[E.out,hx];rfl)
  clear hx
  go_wp2_with fail
  go_ret2
  exact ⟨_,_,by rw[E2.out];rfl,by rw[E2.out];exact A2O.nil _ _,bbox HB1.out _⟩
 | some y=>
  have E2:Hid (symB a 4 A B K2=some [y]):=Lib.hid (by rw[E.out,hx];rfl)
  have OY:=Lib.hid (OX.out y hx)
  clear hx OX
  go_wp2_with fail
  go_ret2
  refine ⟨.slice (some ⟨w1.heap.size+1,0,none⟩) 1 1,[.slice F n f,.slice G m g],by rw[E2.out];rfl,?_,bbox (bbox HB1.out _) _⟩
  rw[E2.out]
  refine A2O.one (Blk.newE ?_) ?_ (AsnO.below (AsnO.lower OY.out (by omega)) bel)
  ·simp
  ·omega
theorem c_symBc {lo hi:Nat} (v:Value) (a:Asn) (k A B:Int) (t:Fct) (X1 X2 X3 X4:Option Addr) (n1 n2 n3 n4 d1 d2 d3 d4 K0:Nat) (w:World) (h:AsnC w lo hi v a) (hhi:hi≤w.heap.size) (hv:a.valid=true) (hK0:K0<512) (hA:isTermB A=true) (hk1:¬k=1) (hk4:¬k=4) :
  Calls Tryz.prog 65 #[v,.agg #[.int .i64 k,.int .i64 A,.int .i64 B,.bool t.eq,.int .i64 t.a,.int .i64 t.b,.slice X1 n1 d1,.slice X2 n2 d2,.slice X3 n3 d3,.slice X4 n4 d4],.int .u16 K0] w fun e w'=>∃ r vs,e=.returned (.tuple #[r,.bool (symB a k A B (keepK K0 A B)).isSome])∧A2O w' w.heap.size r vs ((symB a k A B (keepK K0 A B)).getD [])∧Below w.heap.size w w':=by
 have hV:=Lib.hid h
 obtain ⟨A1,c1,A2,c2,rfl,-⟩:=h
 have hvl:=valid_len hv
 have HV:=Lib.hid hv
 obtain ⟨K1,hK1⟩:∃ x,x=tins K0 A:=⟨_,rfl⟩
 have l1:K1<512:=by rw[hK1];exact tins_lt hK0 _
 obtain ⟨K2,hK2⟩:∃ x,x=tins K1 B:=⟨_,rfl⟩
 have l2:K2<512:=by rw[hK2];exact tins_lt l1 _
 have EK:Hid (keepK K0 A B=K2):=Lib.hid (by rw[hK2,hK1];rfl)
 rw[EK.out]
 replace hK1:=Lib.hid hK1
 replace hK2:=Lib.hid hK2
 clear hv EK
 go_enter Tryz.func65,Tryz.ntmps65
 have k3:Blk ((w.alloc (.cells #[.slice A1 a.facts.length c1,.slice A2 a.atoms.length c2] tAs)).alloc (.cells #[.int .i64 k,.int .i64 A,.int .i64 B,.bool t.eq,.int .i64 t.a,.int .i64 t.b,.slice X1 n1 d1,.slice X2 n2 d2,.slice X3 n3 d3,.slice X4 n4 d4] tC)) w.heap.size tAs #[.slice A1 a.facts.length c1,.slice A2 a.atoms.length c2]:=blks
 have k4:Blk ((w.alloc (.cells #[.slice A1 a.facts.length c1,.slice A2 a.atoms.length c2] tAs)).alloc (.cells #[.int .i64 k,.int .i64 A,.int .i64 B,.bool t.eq,.int .i64 t.a,.int .i64 t.b,.slice X1 n1 d1,.slice X2 n2 d2,.slice X3 n3 d3,.slice X4 n4 d4] tC)) (w.heap.size+1) tC #[.int .i64 k,.int .i64 A,.int .i64 B,.bool t.eq,.int .i64 t.a,.int .i64 t.b,.slice X1 n1 d1,.slice X2 n2 d2,.slice X3 n3 d3,.slice X4 n4 d4]:=blks
 have HB:Hid (Below w.heap.size w ((w.alloc (.cells #[.slice A1 a.facts.length c1,.slice A2 a.atoms.length c2] tAs)).alloc (.cells #[.int .i64 k,.int .i64 A,.int .i64 B,.bool t.eq,.int .i64 t.a,.int .i64 t.b,.slice X1 n1 d1,.slice X2 n2 d2,.slice X3 n3 d3,.slice X4 n4 d4] tC))):=Lib.hid bel
 have hz:((w.alloc (.cells #[.slice A1 a.facts.length c1,.slice A2 a.atoms.length c2] tAs)).alloc (.cells #[.int .i64 k,.int .i64 A,.int .i64 B,.bool t.eq,.int .i64 t.a,.int .i64 t.b,.slice X1 n1 d1,.slice X2 n2 d2,.slice X3 n3 d3,.slice X4 n4 d4] tC)).heap.size=w.heap.size+2:=by simp
 go_upto_region 1 with fail
 generalize ((w.alloc (.cells #[.slice A1 a.facts.length c1,.slice A2 a.atoms.length c2] tAs)).alloc (.cells #[.int .i64 k,.int .i64 A,.int .i64 B,.bool t.eq,.int .i64 t.a,.int .i64 t.b,.slice X1 n1 d1,.slice X2 n2 d2,.slice X3 n3 d3,.slice X4 n4 d4] tC))=W at k3 k4 HB hz ⊢
 refine wp_region_noPanic ?_
 refine wp_region_held_drew (S:=(fun w'=>(∀ i,w'.cell? ⟨w.heap.size,i,none⟩=#[.slice A1 a.facts.length c1,.slice A2 a.atoms.length c2][i]?)∧(∀ i,w'.cell? ⟨w.heap.size+1,i,none⟩=#[.int .i64 k,.int .i64 A,.int .i64 B,.bool t.eq,.int .i64 t.a,.int .i64 t.b,.slice X1 n1 d1,.slice X2 n2 d2,.slice X3 n3 d3,.slice X4 n4 d4][i]?))) (by kernel_rfl) (⟨k3.drew.cell,k4.drew.cell⟩) (fun hHeld=>?_)
 refine tk2 0 rfl hHeld ?_
 try simp only[zz]
 refine tk2 1 rfl hHeld ?_
 try simp only[zz]
 refine tk2 2 rfl hHeld ?_
 try simp only[zz]
 refine tk2 4 rfl hHeld ?_
 try simp only[zz]
 refine tk2 5 rfl hHeld ?_
 try simp only[zz]
 refine rdc 3 rfl fun K hK=>?_
 try simp only[zz]
 (go_simp;refine (c_impl_with K0 A _ hK0).mono ?_;rintro e w1 ⟨rfl,rfl⟩;rw[←hK1.out])
 refine hK.out _ _ (⟨k3.drew.cell,k4.drew.cell⟩) ?_
 clear hHeld hK K
 intro hHeld
 try simp only[zz]
 refine rdc 6 rfl fun K hK=>?_
 try simp only[zz]
 (go_simp;refine (c_impl_with K1 B _ l1).mono ?_;rintro e w1 ⟨rfl,rfl⟩;rw[←hK2.out])
 refine hK.out _ _ (⟨k3.drew.cell,k4.drew.cell⟩) ?_
 clear hHeld hK K
 intro hHeld
 try simp only[zz]
 refine tk2 7 rfl hHeld ?_
 try simp only[zz]
 refine wpAnyH_done (by kernel_rfl) ?_ _
 refine NoPanic.normal ?_
 replace k3:=k3.drew
 replace k4:=k4.drew
 replace HB:=Lib.hid HB.out.drew
 have hzd:W.drew.heap.size=W.heap.size:=rfl
 clear hHeld hK1 hK2 l1
 generalize W.drew=V at k3 k4 HB hzd ⊢
 have E:=Lib.hid (symB_acc (a:=a) (A:=A) (B:=B) (K:=K2) hk1 hk4)
 have b1:(k == 1)=false:=beq_false_of_ne hk1
 have b4:(k == 4)=false:=beq_false_of_ne hk4
 obtain ⟨T,hT⟩:∃ x,x=symT k A B:=⟨_,rfl⟩
 rw[←hT] at E
 replace hT:=Lib.hid hT
 clear hk1 hk4
 (replace qk3:=k3.cell;replace rk3:=k3.frozen;replace lk3:=k3.lt;replace qk4:=k4.cell;replace rk4:=k4.frozen;replace lk4:=k4.lt)
 go_upto_if 71 with fail
 go_cut [12] (fun s12 wc=>s12=.int .i64 T∧wc=V)
 case first=>
  by_cases hk2:k=2
  ·have eT:Hid (T=B):=Lib.hid (by rw[hT.out,symT,if_pos hk2])
   subst hk2
   clear hT
   go_wp2_with fail
   go_meet
   case rel=>exact ⟨by rw[eT.out],rfl⟩
  ·have eT:Hid (T=A):=Lib.hid (by rw[hT.out,symT,if_neg hk2])
   have b2:(k == 2)=false:=beq_false_of_ne hk2
   clear hT hk2
   go_wp2_with fail
   go_meet
   case rel=>exact ⟨by rw[eT.out],rfl⟩
 case rest=>
  obtain ⟨rfl,rfl⟩:=hcut
  clear hT
  go_wp2_with fail
  refine (c_impl_expose 7 (Nat.le_refl _) a T K2 l2 (by omega) lo hi _ _ (hV.out.below HB.out) (by omega) HV.out).mono ?_
  rintro e w1 ⟨r,vs,rfl,oR,hB1⟩
  have HB1:=Lib.hid (bgo HB.out hB1)
  have k41:=k4.next hB1
  have hz1:=hB1.size
  cases he:exposeF 7 a T K2 with
  | none=>
   rw[he] at oR
   obtain ⟨R,c,rfl⟩:=oR.form
   have E2:Hid (symB a k A B K2=none):=Lib.hid (by rw[E.out,he];rfl)
   clear he oR
   go_wp2_with fail
   go_ret2
   exact ⟨_,_,by rw[E2.out];rfl,by rw[E2.out];exact A2O.nil _ _,HB1.out⟩
  | some l=>
   rw[he] at oR
   simp only[Option.getD_some] at oR
   obtain ⟨R,c,rfl⟩:=oR.form
   have E2:Hid (symB a k A B K2=mapF (fun x=>accF k A B x K2) l):=Lib.hid (by rw[E.out,he];rfl)
   have hll:l.length≤128:=(expose_ok he).1
   have HE:=Lib.hid (expose_ent _ _ _ _ _ he)
   have OR:=Lib.hid oR
   clear he oR E hB1 k3 k4 qk3 rk3 lk3 qk4 rk4 lk4 HB hV HV
   go_wp2_with fail
   go_loopw [15,85] (fun rs i wr=>∃ (j:Nat) (R2:Option Addr) (r2:Nat) (ys:List Asn) (us:List Value),j≤l.length∧ys.length=j∧i=.int .i64 j∧rs=.slice R2 j r2∧Hid (∀ (q:Nat) (h1:q<ys.length) (h2:q<l.length),accF k A B l[q] K2=some ys[q])∧Hid (A2O wr w1.heap.size (.slice R2 j r2) us ys)∧Hid (Below w1.heap.size w1 wr)) (fun _ i _=>l.length - (intOf i).toNat)
   case atStart=>exact ⟨0,none,0,[],[],Nat.zero_le _,rfl,rfl,rfl,fun q h1=>absurd h1 (by simp),A2O.nil _ _,Below.refl _ _⟩
   case round=>
    obtain ⟨j,R2,r2,ys,us,hj,hyl,rfl,rfl,HY,OY,HBl⟩:=hrel
    have HL:Hid (ys.length=j):=Lib.hid hyl
    clear hyl
    have hzr:=HBl.out.size
    have k4r:=k41.next HBl.out
    by_cases hlt:j<l.length
    ·obtain ⟨gb,go,P,p,Q,q,rfl,hgl,q0,q1,hC⟩:=OR.out.atC hlt
     obtain ⟨x,hx⟩:∃ x,x=l[j]:=⟨_,rfl⟩
     rw[←hx] at q0 q1 hC
     obtain ⟨hxv,-,xb,xr,hxa⟩:=HE.out x (by rw[hx];exact List.getElem_mem hlt)
     have hx0:0<x.atoms.length:=by rw[hxa];simp
     have hxl:=valid_len hxv
     have HC:=Lib.hid hC
     have hji:(j:Int)<(l.length:Int):=by omega
     have p0:wr.cell? ⟨gb,go+j*2,none⟩=some (.slice P x.facts.length p):=(HBl.out.cell (p:=⟨gb,go+j*2,none⟩) hgl).trans q0
     have p1:wr.cell? ⟨gb,go+j*2+1,none⟩=some (.slice Q x.atoms.length q):=(HBl.out.cell (p:=⟨gb,go+j*2+1,none⟩) hgl).trans q1
     have hgr:gb<wr.heap.size:=by omega
     replace hx:=Lib.hid hx
     clear q0 q1 hC hxa hxv
     (replace qk4r:=k4r.cell;replace rk4r:=k4r.frozen;replace lk4r:=k4r.lt)
     go_wp2_with fail
     refine (c_impl_accessed _ x k A B t X1 X2 X3 X4 n1 n2 n3 n4 d1 d2 d3 d4 K2 _ (HC.out.below (bbox HBl.out _)) hx0 (by omega) l2 (fun _=>hA)).mono ?_
     rintro e w2 ⟨r,rfl,oX,hB2⟩
     obtain ⟨⟨F,n,f,G,m,g,rfl⟩,oX⟩:=oX
     have OX:=Lib.hid oX
     have hbx:Below wr.heap.size wr (wr.alloc (.cells #[.slice P x.facts.length p,.slice Q x.atoms.length q] tAs)):=bbox (Below.refl _ _) _
     have HB2:=Lib.hid ((hbx.trans (hB2.mono hbx.size)))
     have hz2:=HB2.out.size
     have OY2:=Lib.hid (OY.out.below HB2.out)
     clear oX hB2 hbx p0 p1 qk4r rk4r lk4r
     cases hy:accF k A B x K2 with
     | none=>
      have E3:Hid (symB a k A B K2=none):=Lib.hid (by rw[E2.out];exact mapF_none hlt (by rw[←hx.out];exact hy))
      clear hy
      go_wp2_with fail
      go_ret2
      exact ⟨_,_,by rw[E3.out];rfl,by rw[E3.out];exact A2O.nil _ _,bbox (HB1.out.trans ((HBl.out.trans (HB2.out.mono hzr)).mono (by omega))) _⟩
     | some y=>
      have OX2:=Lib.hid (OX.out y hy)
      have HY2:Hid (∀ (q:Nat) (h1:q<(ys++[y]).length) (h2:q<l.length),accF k A B l[q] K2=some (ys++[y])[q]):=Lib.hid fun q h1 h2=>by
       have hl:=HL.out
       by_cases e:q<ys.length
       ·rw[List.getElem_append_left e];exact HY.out q e h2
       ·have eq:q=j:=by simp at h1;omega
        subst eq
        rw[List.getElem_append_right (by omega)]
        simp only[hl,Nat.sub_self,List.getElem_cons_zero]
        rw[←hx.out];exact hy
      have hjl:Hid (ys.length+1≤1049600):=Lib.hid (by have:=HL.out;omega)
      have OY3:Hid (A2O wr w1.heap.size (.slice R2 j r2) us ys):=OY
      clear hy OX HY OY
      go_wp2_with (at_builtin;refine appA2 (w0:=wr) (base:=w1.heap.size) (mid:=wr.heap.size) (ss2:=[y]) rfl _ _ rfl rfl OY3.out (bbox (bbox HB2.out _) _) hzr (A2O.one (g:=w2.heap.size+1) (Blk.newE (by simp)) (by omega) (AsnO.below (AsnO.lower OX2.out (by simp)) (bbox (bbox (Below.refl _ _) _) _))) (Nat.le_refl _) rfl hjl.out ?_;intro A3 c3 w3 hO3 hg3 hB3;have O3:=Lib.hid hO3;have HB3:=Lib.hid (((HBl.out.trans (HB2.out.mono hzr)).trans (Below.mono (bbox (bbox (Below.refl _ _) (.cells #[.slice F n f,.slice G m g] tAs)) (.cells #[.slice F n f,.slice G m g] tAs)) (by omega))).trans hB3);clear hO3 hg3 hB3;simp only[List.length_cons,List.length_nil,Nat.zero_add] at O3 ⊢;rw[HL.out] at O3 ⊢)
      go_round
      case rel=>exact ⟨j+1,A3,c3,ys++[y],_,by omega,by simp[HL.out],by go_num,rfl,HY2.out,O3.out,HB3.out⟩
      case measure=>simp[intOf];omega
    ·obtain rfl:j=l.length:=by omega
     have E3:Hid (symB a k A B K2=some ys):=Lib.hid (by rw[E2.out];exact mapF_some HL.out fun q h1 h2=>HY.out q h2 h1)
     go_wp2_with fail
     go_ret2
     exact ⟨_,us,by rw[E3.out];rfl,by rw[E3.out];exact OY.out.lower (by omega),HB1.out.trans (HBl.out.mono (by omega))⟩
end

end Go.Proofs.YtmcgbeladjlcpaaGreat
