/- Symbolic execution: impl.assigned, impl.allocatedFor. Printed by genSymJ.py. -/
import Derived.Test.YtjbboklnegfohaaGreatMAsnAt
import Derived.Deep.DeepCutAuto
set_option linter.unusedSimpArgs false
set_option linter.unusedVariables false
set_option maxRecDepth 100000
set_option maxHeartbeats 25600000
namespace Go.Proofs.YtjbboklnegfohaaGreat
open List (append_nil cons_append filter_cons_of_pos filter_nil flatMap flatMap_cons flatten_cons length_append length_cons length_drop length_nil length_set map_cons map_nil map_toArray mem_cons_of_mem mem_cons_self nil_append)
section
open Go Go.RowKit Go.Proofs
attribute [local go_sem ↓] Go.wp_at_zero Go.wp_at_succ
theorem Iz{a b:au}{x p:Int}{K:Nat}(h:bf a x K=some (b,p)):b.facts.length=a.facts.length:=by
 unfold bf at h
 split at h
 ·obtain⟨n,-,e⟩:=Option.map_eq_some_iff.1 h;injection e with e1 e2;rw[<-e1];simp[aZ]
 ·injection h with h;injection h with e1 e2;rw[e1]
theorem Fu{a b:au}{x p:Int}{K:Nat}(h:bf a x K=some (b,p)):b.atoms.length=a.atoms.length:=by
 unfold bf at h
 split at h
 ·obtain⟨n,-,e⟩:=Option.map_eq_some_iff.1 h;injection e with e1 e2;rw[<-e1];simp[aZ]
 ·injection h with h;injection h with e1 e2;rw[e1]
theorem aI.X5{w:World}{base:Nat}{F G G':Option Addr}{f g g' n n':Nat}{b:au}{ys:List aL}{m:Nat}(h:aI w base (.agg #[.slice F n f,.slice G n' g]) b)(h2:af w base (.slice G' m g') ys):aI w base (.agg #[.slice F n f,.slice G' m g']) ⟨b.facts,ys⟩:=by
 obtain⟨fv,av,e,p1,p2⟩:=h;injection e with e;injection e with e;injection e with e1 e2;subst e1;exact⟨_,_,rfl,p1,h2⟩
def qo(w:World)(base:Nat)(r:Value)(o:Option au):Prop:=(∃F n f G m g,r=.agg #[.slice F n f,.slice G m g])/\∀b,o=some b->aI w base r b
theorem qo.none(w:World)(base:Nat):qo w base (.agg #[.slice .none 0 0,.slice .none 0 0]) .none:=⟨⟨_,_,_,_,_,_,rfl⟩,fun _ h=>by cases h⟩
theorem qo.some{w:World}{base:Nat}{r:Value}{a:au}(h:aI w base r a):qo w base r (.some a):=by
 refine⟨?_,fun b e=>by obtain rfl:=Option.some.inj e;exact h⟩;obtain⟨F,f,G,g,rfl⟩:=h.I.form;exact⟨_,_,_,_,_,_,rfl⟩
theorem qo.JQ{w:World}{base:Nat}{r:Value}{a:au}(h:aI w base r a):qo w base r (JQ a):=by
 refine⟨(qo.some h).1,fun b e=>?_⟩;rw[(Iq e).2];exact h
theorem Fv{a:au}:(JQ a).isSome=a.valid:=by unfold JQ;split<;>simp_all
theorem aI.lJ{w:World}{base:Nat}{v:Value}{a:au}(h:aI w base v a){g:Nat}{cs:Array Value}(hk:ae w g aC cs)(u u':Value):aI ((w.setCell ⟨g,0,none⟩ u).setCell ⟨g,1,none⟩ u') base v a:=by
 obtain⟨fv,av,e,p1,p2⟩:=h;exact⟨fv,av,e,(p1.aA hk (by decide) _ _).aA (hk.ag _ _) (by decide) _ _,(p2.aA hk (by decide) _ _).aA (hk.ag _ _) (by decide) _ _⟩
theorem aI.Nf{w:World}{base:Nat}{F G:Option Addr}{n m f g:Nat}{b:au}(h:aI w base (.agg #[.slice F n f,.slice G m g]) b):aB w base w.heap.size G b.atoms:=by
 obtain⟨A1,c1,A2,c2,e,h1,h2⟩:=h.rj;injection e with e;injection e with e;injection e with e1 e2;injection e2 with e2;injection e2 with e2;subst e2;exact h2
theorem xE{lo hi:Nat}(v:Value)(b:au)(x p t:Int)(w:World)(h:aM w lo hi v b)(hn:b.facts.length+1<=1049600) :
  Calls Tryz.prog 93 #[v,(⟨true,x,swp x p t⟩:aF).val] w fun e w'=>∃F f G g,e=.returned (.agg #[.slice F (ib b x p t).facts.length f,.slice G (ib b x p t).atoms.length g])/\aI w' w.heap.size (.agg #[.slice F (ib b x p t).facts.length f,.slice G (ib b x p t).atoms.length g]) (ib b x p t)/\Below w.heap.size w w':=by
 refine(jC v b ⟨true,x,swp x p t⟩ w h hn).mono ?_;rintro e w' ⟨r,rfl,o,hB⟩;obtain⟨F,f,G,g,rfl⟩:=o.I.form;exact⟨F,f,G,g,rfl,o,hB⟩
theorem JS(vF vA:Value)(x p t:Int)(w:World):Calls Tryz.prog 132 #[.agg #[vF,vA,.int .i64 x,.int .i64 p],.int .i64 t] w fun e w'=>e=.returned (.int .i64 (swp x p t))/\Below w.heap.size w w':=by
 (go_enter Tryz.func132,Tryz.ntmps132);(go_wp2_with fail);refine(jy t x p _).mono ?_;rintro e w1 ⟨rfl,rfl⟩;go_wp2;go_ret;exact⟨rfl,aj⟩
theorem qP{lo hi:Nat}(v:Value)(a:au)(x t:Int)(K:Nat)(w:World)(h:aM w lo hi v a)(hK:K<512)(hx:jq x=true)(hl:a.facts.length<=1000) :
  Calls Tryz.prog 103 #[v,.int .i64 x,.int .i64 t,.int .u16 K] w fun e w'=>∃r,e=.returned (.tuple #[r,.bool (dY a x t K).isSome])/\qo w' w.heap.size r (dY a x t K)/\Below w.heap.size w w':=by
 have hV:=ax h;obtain⟨A1,c1,A2,c2,rfl,-,-⟩:=h;(go_enter Tryz.func103,Tryz.ntmps103);have k0:ae ((w.alloc (.cells #[.slice A1 a.facts.length c1,.slice A2 a.atoms.length c2] aC)).alloc (.cells #[.slice none 0 0,.slice none 0 0] aC)) w.heap.size aC #[.slice A1 a.facts.length c1,.slice A2 a.atoms.length c2]:=az;have k8:ae ((w.alloc (.cells #[.slice A1 a.facts.length c1,.slice A2 a.atoms.length c2] aC)).alloc (.cells #[.slice none 0 0,.slice none 0 0] aC)) (w.heap.size+1) aC #[.slice none 0 0,.slice none 0 0]:=az;(go_wp2_with fail);refine(tZ _ a x K _ (hV.o.bz aj) hK hx).mono ?_;rintro e w1 ⟨hF,hB1⟩;have hB:=aP (w:=w) aj hB1;replace k0:=k0.nz hB1;replace k8:=k8.nz hB1;have hz:=hB1.size;simp only[World.size_alloc] at hz;clear hB1
 cases hf:bf a x K with
 | none=>
  rw[hf] at hF;simp only[Vh] at hF;subst hF;have E:aJ (dY a x t K=none):=ax (by unfold dY;rw[hf];rfl);clear hf;(replace BN:=k8.cell;replace PK:=k8.frozen;replace Ng:=k8.lt);go_wp2;refine bodyPost_ret (v:=.tuple #[.agg #[.slice none 0 0,.slice none 0 0],.bool false]) (by simp[results,Tryz.results103,go_sem,BN,Ng]) rfl ⟨_,by rw[E.o];rfl,?_,aj⟩;rw[E.o];exact qo.none _ _
 | some bp=>
  obtain⟨b,p⟩:=bp;rw[hf] at hF;simp only[Vh] at hF;obtain⟨F,f,G,g,rfl,oB⟩:=hF;have E:aJ (dY a x t K=JQ (ib b x p t)):=ax (by unfold dY;rw[hf];rfl);have HL:aJ (b.facts.length=a.facts.length):=ax (Iz hf);have OB:=ax (oB.bq (base':=w.heap.size) (by(try simp)<;>omega));clear hf oB;(replace BN:=k8.cell;replace PK:=k8.frozen;replace Ng:=k8.lt);(go_upto_region 4 with fail);have k10:ae (w1.alloc (.cells #[.slice F b.facts.length f,.slice G b.atoms.length g,.int .i64 x,.int .i64 p] Iv)) w1.heap.size Iv #[.slice F b.facts.length f,.slice G b.atoms.length g,.int .i64 x,.int .i64 p]:=az;have aN:Below w1.heap.size w1 (w1.alloc (.cells #[.slice F b.facts.length f,.slice G b.atoms.length g,.int .i64 x,.int .i64 p] Iv)):=ai aU _;replace k8:=k8.nz aN;replace OB:=ax (OB.o.bz aN);have HB:=ax (aP hB aN);have JU:=k8.lt;have Zf:w.heap.size+2<=w1.heap.size:=by omega
  obtain⟨y,hy⟩:∃y,y=w1.heap.size:=⟨_,rfl⟩;have QO:(w1.alloc (.cells #[.slice F b.facts.length f,.slice G b.atoms.length g,.int .i64 x,.int .i64 p] Iv)).heap.size=y+1:=by simp[hy]
  rw[<-hy] at k10 Zf⊢;clear aN k0 hB BN PK Ng;generalize w1.alloc (.cells #[.slice F b.facts.length f,.slice G b.atoms.length g,.int .i64 x,.int .i64 p] Iv)=W at k8 k10 OB HB QO JU⊢;clear hy;have hlb:b.facts.length+1<=1049600:=by rw[HL.o];omega
  go_cut [12] (fun s12 wc=>∃(xb:Nat) (F2:Option Addr) (f2:Nat) (G2:Option Addr) (g2:Nat),s12=.pointer (some ⟨xb,0,none⟩)/\aJ (aI wc w.heap.size (.agg #[.slice F2 (ib b x p t).facts.length f2,.slice G2 (ib b x p t).atoms.length g2]) (ib b x p t))/\ae wc xb aC #[.slice F2 (ib b x p t).facts.length f2,.slice G2 (ib b x p t).atoms.length g2]/\ae wc (w.heap.size+1) aC #[.slice none 0 0,.slice none 0 0]/\w.heap.size+2<=xb/\aJ (Below w.heap.size w wc))
  case first=>
   have Sc:=k10.lt;go_wp2;refine lS (S:=(fun w'=>∀i,w'.cell? ⟨y,i,none⟩=#[.slice F b.facts.length f,.slice G b.atoms.length g,.int .i64 x,.int .i64 p][i]?)) (k10.drew.cell) fun aH=>?_;clear Sc;replace k8:=k8.drew;replace k10:=k10.drew;replace OB:=ax (OB.o.bz aU.drew);replace HB:=ax HB.o.drew;have df:W.heap.size<=W.drew.heap.size:=bn;generalize W.drew=wq at k8 k10 OB HB df aH⊢;refine jQ 0 1 2 3 4 ?_;refine wB 5 8 rfl rfl (fun K hK=>?_) fun K hK=>?_;(try simp only[zz]);(go_simp;refine(JS _ _ x p t _).mono ?_;rintro e wq ⟨rfl,aN⟩;replace OB:=ax (OB.o.bz aN);replace k8:=k8.nz aN;replace k10:=k10.nz aN;replace HB:=bF HB aN;replace df:=Nat.le_trans df aN.size;try replace bK:=bK.nz aN);refine hK.out _ _ (k10.cell) ?_;clear aH hK K;intro aH;(try simp only[zz]);clear aN;refine jh 6 ?_;refine wB 7 8 rfl rfl (fun K hK=>?_) fun K hK=>?_;(try simp only[zz]);(go_simp;refine(xE _ b x p t _ OB.o.rj hlb).mono ?_;rintro e wq ⟨F2,f2,G2,g2,rfl,oX,aN⟩;have OX:=ax (oX.bq (base':=w.heap.size));clear oX;replace k8:=k8.nz aN;replace k10:=k10.nz aN;replace HB:=bF HB aN;replace df:=Nat.le_trans df aN.size;try replace bK:=bK.nz aN);refine hK.out _ _ (k10.cell) ?_;clear aH hK K;intro aH;(try simp only[zz]);clear aN;refine aX 8 rfl fun K hK=>?_
   all_goals
    (try simp only[zz]);go_simp;refine hK.out _ _ (oM (ai aU _) k10.lt k10.cell) ?_;clear aH hK K;intro aH;have aN:Below wq.heap.size wq (wq.alloc (.cells #[.slice none 0 0,.slice none 0 0] aC)):=ai aU _;have bK:ae (wq.alloc (.cells #[.slice none 0 0,.slice none 0 0] aC)) wq.heap.size aC #[.slice none 0 0,.slice none 0 0]:=ae.new _ _ _;obtain⟨xb,hxb⟩:∃x,x=wq.heap.size:=⟨_,rfl⟩;have Va:W.heap.size<=xb:=by omega
    replace k8:=k8.nz aN;replace k10:=k10.nz aN;replace HB:=bF HB aN;replace df:=Nat.le_trans df aN.size;(try replace OB:=ax (OB.o.bz aN));(try replace OX:=ax (OX.o.bz aN));rw[<-hxb] at bK⊢;clear aN hxb;generalize wq.alloc (.cells #[.slice none 0 0,.slice none 0 0] aC)=wq at*
   rotate_right
   refine aX 5 rfl fun K hK=>?_;(try simp only[zz]);(go_simp;refine(JS _ _ x p t _).mono ?_;rintro e wq ⟨rfl,aN⟩;replace OB:=ax (OB.o.bz aN);replace k8:=k8.nz aN;replace k10:=k10.nz aN;replace HB:=bF HB aN;replace df:=Nat.le_trans df aN.size;try replace bK:=bK.nz aN);refine hK.out _ _ (k10.cell) ?_;clear aH hK K;intro aH;(try simp only[zz]);clear aN;refine jh 6 ?_
   any_goals
    fail_if_success have:=OX
    refine aX 7 rfl fun K hK=>?_;(try simp only[zz]);(go_simp;refine(xE _ b x p t _ OB.o.rj hlb).mono ?_;rintro e wq ⟨F2,f2,G2,g2,rfl,oX,aN⟩;have OX:=ax (oX.bq (base':=w.heap.size));clear oX;replace k8:=k8.nz aN;replace k10:=k10.nz aN;replace HB:=bF HB aN;replace df:=Nat.le_trans df aN.size;try replace bK:=bK.nz aN);refine hK.out _ _ (k10.cell) ?_;clear aH hK K;intro aH;(try simp only[zz]);clear aN
   all_goals
    have hlB:=bK.lt;have qb:=bK.cell;have rb:=bK.frozen;refine aX 9 rfl fun K hK=>?_;(try simp only[zz]);go_simp;refine hK.out _ _ (((k10.far (p:=⟨xb,0,none⟩) (k10.Bq bK (by decide)) _).far (p:=⟨xb,1,none⟩) (k10.Bq bK (by decide)) _).cell) ?_;clear aH hK K;intro aH;refine jP ?_;(go_wp2_with fail);go_meet
    case rel=>
     refine⟨xb,F2,f2,G2,g2,rfl,ax (aI.lJ OX.o bK _ _),?_,(k8.fz xb 0 _).fz xb 1 _,by omega,ax (iq (iq HB.o xb 0 _) xb 1 _)⟩;have:=(bK.ag 0 (.slice F2 (ib b x p t).facts.length f2)).ag 1 (.slice G2 (ib b x p t).atoms.length g2);simpa using this
  case rest=>
   obtain⟨xb,F2,f2,G2,g2,rfl,OX,kb,k8,hxb,HB⟩:=hcut;have hl0:=kb.lt;have RV:aJ (aM wc 0 wc.heap.size (.agg #[.slice F2 (ib b x p t).facts.length f2,.slice G2 (ib b x p t).atoms.length g2]) (ib b x p t)):=ax (OX.o.rj.Ah bn);(replace QP:=kb.z;replace BN:=k8.cell;replace PK:=k8.frozen;replace Ng:=k8.lt);(go_wp2_with fail);clear BN PK Ng;refine lS (S:=(fun w'=>∀i,w'.cell? ⟨xb,i,none⟩=#[.slice F2 (ib b x p t).facts.length f2,.slice G2 (ib b x p t).atoms.length g2][i]?)) (kb.drew.cell) fun aH=>?_;refine uM 0 1 ?_;refine aX 2 rfl fun K hK=>?_;(try simp only[zz]);(go_simp;refine(jz _ (ib b x p t) _ (RV.o.bz aU.drew)).mono ?_;rintro e w8 ⟨rfl,eQ⟩;replace eQ:Below wc.heap.size wc w8:=aU.drew.trans eQ;have Im:=kb.nz eQ;have k88:=k8.nz eQ;have Zg:=ax (OX.o.bz eQ);have ru:=bF HB eQ;clear eQ);refine hK.out _ _ (Im.cell) ?_;clear aH hK K;intro aH;(try simp only[zz]);have q88:=k88.cell;have r88:=k88.frozen;have l88:=k88.lt;refine aX 3 rfl fun K hK=>?_;(try simp only[zz]);go_simp;refine hK.out _ _ (((Im.fz (w.heap.size+1) 0 _).fz (w.heap.size+1) 1 _).cell) ?_;clear aH hK K;intro aH;refine aX 4 rfl fun K hK=>?_;(try simp only[zz]);go_simp;refine hK.out _ _ (((Im.fz (w.heap.size+1) 0 _).fz (w.heap.size+1) 1 _).cell) ?_;clear aH hK K;intro aH;refine jP ?_;(go_wp2_with fail);have z6:=((k88.ag 0 (.slice F2 (ib b x p t).facts.length f2)).ag 1 (.slice G2 (ib b x p t).atoms.length g2)).cell;refine bodyPost_ret (v:=.tuple #[.agg #[.slice F2 (ib b x p t).facts.length f2,.slice G2 (ib b x p t).atoms.length g2],.bool ((ib b x p t)).valid]) (by simp[results,Tryz.results103,go_sem,z6]) rfl ⟨_,by rw[E.o,Fv],?_,?_⟩
   ·rw[E.o];exact qo.JQ (aI.lJ Zg.o k88 _ _)
   ·exact iq (iq ru.o (w.heap.size+1) 0 _) (w.heap.size+1) 1 _
theorem tL{lo hi:Nat}(v:Value)(a:au)(x:Int)(K:Nat)(w:World)(h:aM w lo hi v a)(hK:K<512)(hx:jq x=true)(hl:a.atoms.length<=1000) :
  Calls Tryz.prog 104 #[v,.int .i64 x,.int .u16 K] w fun e w'=>∃r,e=.returned (.tuple #[r,.bool (iR a x K).isSome])/\qo w' w.heap.size r (iR a x K)/\Below w.heap.size w w':=by
 have hV:=ax h;obtain⟨A1,c1,A2,c2,rfl,-,-⟩:=h;(go_enter Tryz.func104,Tryz.ntmps104);have k0:ae ((w.alloc (.cells #[.slice A1 a.facts.length c1,.slice A2 a.atoms.length c2] aC)).alloc (.cells #[.slice none 0 0,.slice none 0 0] aC)) w.heap.size aC #[.slice A1 a.facts.length c1,.slice A2 a.atoms.length c2]:=az;have k8:ae ((w.alloc (.cells #[.slice A1 a.facts.length c1,.slice A2 a.atoms.length c2] aC)).alloc (.cells #[.slice none 0 0,.slice none 0 0] aC)) (w.heap.size+1) aC #[.slice none 0 0,.slice none 0 0]:=az;(go_wp2_with fail);refine(tZ _ a x K _ (hV.o.bz aj) hK hx).mono ?_;rintro e w1 ⟨hF,hB1⟩;have hB:=aP (w:=w) aj hB1;replace k0:=k0.nz hB1;replace k8:=k8.nz hB1;have hz:=hB1.size;simp only[World.size_alloc] at hz;clear hB1
 cases hf:bf a x K with
 | none=>
  rw[hf] at hF;simp only[Vh] at hF;subst hF;have E:aJ (iR a x K=none):=ax (by unfold iR;rw[hf];rfl);clear hf;(replace BN:=k8.cell;replace PK:=k8.frozen;replace Ng:=k8.lt);go_wp2;refine bodyPost_ret (v:=.tuple #[.agg #[.slice none 0 0,.slice none 0 0],.bool false]) (by simp[results,Tryz.results104,go_sem,BN,Ng]) rfl ⟨_,by rw[E.o];rfl,?_,aj⟩;rw[E.o];exact qo.none _ _
 | some bp=>
  obtain⟨b,p⟩:=bp;rw[hf] at hF;simp only[Vh] at hF;obtain⟨F,f,G,g,rfl,oB⟩:=hF;have E:aJ (iR a x K=JQ (gL b x)):=ax (by unfold iR;rw[hf];rfl);have HL:aJ (b.atoms.length=a.atoms.length):=ax (Fu hf);have OB:=ax (oB.bq (base':=w.heap.size) (by(try simp)<;>omega));clear hf oB;(replace BN:=k8.cell;replace PK:=k8.frozen;replace Ng:=k8.lt);(go_upto_region 5 with fail);have k10:ae ((w1.alloc (.cells #[.slice F b.facts.length f,.slice G b.atoms.length g,.int .i64 x,.int .i64 p] Iv)).alloc (.cells #[.int .i64 1,.int .i64 x,.int .i64 0] tA)) w1.heap.size Iv #[.slice F b.facts.length f,.slice G b.atoms.length g,.int .i64 x,.int .i64 p]:=az;have aN:Below w1.heap.size w1 ((w1.alloc (.cells #[.slice F b.facts.length f,.slice G b.atoms.length g,.int .i64 x,.int .i64 p] Iv)).alloc (.cells #[.int .i64 1,.int .i64 x,.int .i64 0] tA)):=ai (ai aU _) _;have kf:ae ((w1.alloc (.cells #[.slice F b.facts.length f,.slice G b.atoms.length g,.int .i64 x,.int .i64 p] Iv)).alloc (.cells #[.int .i64 1,.int .i64 x,.int .i64 0] tA)) (w1.heap.size+1) tA #[.int .i64 1,.int .i64 x,.int .i64 0]:=ae.dA (by simp);replace k8:=k8.nz aN;replace OB:=ax (OB.o.bz aN);have HB:=ax (aP hB aN);have JU:=k8.lt;have Zf:w.heap.size+2<=w1.heap.size:=by omega
  obtain⟨y,hy⟩:∃y,y=w1.heap.size:=⟨_,rfl⟩;have QO:((w1.alloc (.cells #[.slice F b.facts.length f,.slice G b.atoms.length g,.int .i64 x,.int .i64 p] Iv)).alloc (.cells #[.int .i64 1,.int .i64 x,.int .i64 0] tA)).heap.size=y+2:=by simp[hy]
  rw[<-hy] at k10 kf Zf⊢;clear aN k0 hB BN PK Ng;generalize (w1.alloc (.cells #[.slice F b.facts.length f,.slice G b.atoms.length g,.int .i64 x,.int .i64 p] Iv)).alloc (.cells #[.int .i64 1,.int .i64 x,.int .i64 0] tA)=W at k8 k10 kf OB HB QO JU⊢;clear hy;have hlb:(gL b x).atoms.length<=1049600:=by have:=HL.o;simp[gL];omega
  go_cut [11] (fun s12 wc=>∃(xb:Nat) (F2:Option Addr) (f2:Nat) (G2:Option Addr) (g2:Nat),s12=.pointer (some ⟨xb,0,none⟩)/\aJ (aI wc w.heap.size (.agg #[.slice F2 (gL b x).facts.length f2,.slice G2 (gL b x).atoms.length g2]) (gL b x))/\ae wc xb aC #[.slice F2 (gL b x).facts.length f2,.slice G2 (gL b x).atoms.length g2]/\ae wc (w.heap.size+1) aC #[.slice none 0 0,.slice none 0 0]/\w.heap.size+2<=xb/\aJ (Below w.heap.size w wc))
  case first=>
   have Sc:=k10.lt;go_wp2;refine lS (S:=(fun w'=>∀i,w'.cell? ⟨y,i,none⟩=#[.slice F b.facts.length f,.slice G b.atoms.length g,.int .i64 x,.int .i64 p][i]?)) (k10.drew.cell) fun aH=>?_;clear Sc;replace k8:=k8.drew;replace k10:=k10.drew;replace kf:=kf.drew;replace OB:=ax (OB.o.bz aU.drew);replace HB:=ax HB.o.drew;have df:W.heap.size<=W.drew.heap.size:=bn;generalize W.drew=wq at k8 k10 kf OB HB df aH⊢;refine jQ 0 1 2 3 4 ?_;refine uM 5 6 ?_;refine wB 7 9 rfl rfl (fun K hK=>?_) fun K hK=>?_;(try simp only[zz]);(go_simp;refine(zZ (some ⟨y+1,0,none⟩) G 1 g (gL b x).atoms.length [⟨1,x,0⟩] b.atoms _ (aB.one (f:=⟨1,x,0⟩) kf) OB.o.Nf (by simp[gL]<;>omega) hlb).mono ?_;rintro e wq ⟨G2,g2,rfl,oX,aN⟩;replace OB:=ax (OB.o.bz aN);have OX:aJ (aI wq w.heap.size (.agg #[.slice F (gL b x).facts.length f,.slice G2 (gL b x).atoms.length g2]) (gL b x)):=ax (aI.X5 OB.o (oX.bq));clear oX;replace k8:=k8.nz aN;replace k10:=k10.nz aN;replace kf:=kf.nz aN;replace HB:=bF HB aN;replace df:=Nat.le_trans df aN.size;try replace bK:=bK.nz aN);refine hK.out _ _ (k10.cell) ?_;clear aH hK K;intro aH;(try simp only[zz]);clear aN;refine jh 8 ?_;refine aX 9 rfl fun K hK=>?_
   all_goals
    (try simp only[zz]);go_simp;refine hK.out _ _ (oM (ai aU _) k10.lt k10.cell) ?_;clear aH hK K;intro aH;have aN:Below wq.heap.size wq (wq.alloc (.cells #[.slice none 0 0,.slice none 0 0] aC)):=ai aU _;have bK:ae (wq.alloc (.cells #[.slice none 0 0,.slice none 0 0] aC)) wq.heap.size aC #[.slice none 0 0,.slice none 0 0]:=ae.new _ _ _;obtain⟨xb,hxb⟩:∃x,x=wq.heap.size:=⟨_,rfl⟩;have Va:W.heap.size<=xb:=by omega
    replace k8:=k8.nz aN;replace k10:=k10.nz aN;replace kf:=kf.nz aN;replace HB:=bF HB aN;replace df:=Nat.le_trans df aN.size;(try replace OB:=ax (OB.o.bz aN));(try replace OX:=ax (OX.o.bz aN));rw[<-hxb] at bK⊢;clear aN hxb;generalize wq.alloc (.cells #[.slice none 0 0,.slice none 0 0] aC)=wq at*
   rotate_left
   refine aX 7 rfl fun K hK=>?_;(try simp only[zz]);(go_simp;refine(zZ (some ⟨y+1,0,none⟩) G 1 g (gL b x).atoms.length [⟨1,x,0⟩] b.atoms _ (aB.one (f:=⟨1,x,0⟩) kf) OB.o.Nf (by simp[gL]<;>omega) hlb).mono ?_;rintro e wq ⟨G2,g2,rfl,oX,aN⟩;replace OB:=ax (OB.o.bz aN);have OX:aJ (aI wq w.heap.size (.agg #[.slice F (gL b x).facts.length f,.slice G2 (gL b x).atoms.length g2]) (gL b x)):=ax (aI.X5 OB.o (oX.bq));clear oX;replace k8:=k8.nz aN;replace k10:=k10.nz aN;replace kf:=kf.nz aN;replace HB:=bF HB aN;replace df:=Nat.le_trans df aN.size;try replace bK:=bK.nz aN);refine hK.out _ _ (k10.cell) ?_;clear aH hK K;intro aH;(try simp only[zz]);clear aN;refine jh 8 ?_
   all_goals
    have hlB:=bK.lt;have qb:=bK.cell;have rb:=bK.frozen;refine aX 10 rfl fun K hK=>?_;(try simp only[zz]);go_simp;refine hK.out _ _ (((k10.far (p:=⟨xb,0,none⟩) (k10.Bq bK (by decide)) _).far (p:=⟨xb,1,none⟩) (k10.Bq bK (by decide)) _).cell) ?_;clear aH hK K;intro aH;refine jP ?_;(go_wp2_with fail);go_meet
    case rel=>
     refine⟨xb,F,f,G2,g2,rfl,ax (aI.lJ OX.o bK _ _),?_,(k8.fz xb 0 _).fz xb 1 _,by omega,ax (iq (iq HB.o xb 0 _) xb 1 _)⟩;have:=(bK.ag 0 (.slice F b.facts.length f)).ag 1 (.slice G2 (gL b x).atoms.length g2);simp only[List.setIfInBounds_toArray,List.set_cons_zero,List.set_cons_succ] at this;exact this
  case rest=>
   obtain⟨xb,F2,f2,G2,g2,rfl,OX,kb,k8,hxb,HB⟩:=hcut;have hl0:=kb.lt;have RV:aJ (aM wc 0 wc.heap.size (.agg #[.slice F2 (gL b x).facts.length f2,.slice G2 (gL b x).atoms.length g2]) (gL b x)):=ax (OX.o.rj.Ah bn);(replace QP:=kb.z;replace BN:=k8.cell;replace PK:=k8.frozen;replace Ng:=k8.lt);(go_wp2_with fail);clear BN PK Ng;refine lS (S:=(fun w'=>∀i,w'.cell? ⟨xb,i,none⟩=#[.slice F2 (gL b x).facts.length f2,.slice G2 (gL b x).atoms.length g2][i]?)) (kb.drew.cell) fun aH=>?_;refine uM 0 1 ?_;refine aX 2 rfl fun K hK=>?_;(try simp only[zz]);(go_simp;refine(jz _ (gL b x) _ (RV.o.bz aU.drew)).mono ?_;rintro e w8 ⟨rfl,eQ⟩;replace eQ:Below wc.heap.size wc w8:=aU.drew.trans eQ;have Im:=kb.nz eQ;have k88:=k8.nz eQ;have Zg:=ax (OX.o.bz eQ);have ru:=bF HB eQ;clear eQ);refine hK.out _ _ (Im.cell) ?_;clear aH hK K;intro aH;(try simp only[zz]);have q88:=k88.cell;have r88:=k88.frozen;have l88:=k88.lt;refine aX 3 rfl fun K hK=>?_;(try simp only[zz]);go_simp;refine hK.out _ _ (((Im.fz (w.heap.size+1) 0 _).fz (w.heap.size+1) 1 _).cell) ?_;clear aH hK K;intro aH;refine aX 4 rfl fun K hK=>?_;(try simp only[zz]);go_simp;refine hK.out _ _ (((Im.fz (w.heap.size+1) 0 _).fz (w.heap.size+1) 1 _).cell) ?_;clear aH hK K;intro aH;refine jP ?_;(go_wp2_with fail);have z6:=((k88.ag 0 (.slice F2 (gL b x).facts.length f2)).ag 1 (.slice G2 (gL b x).atoms.length g2)).cell;refine bodyPost_ret (v:=.tuple #[.agg #[.slice F2 (gL b x).facts.length f2,.slice G2 (gL b x).atoms.length g2],.bool ((gL b x)).valid]) (by simp[results,Tryz.results104,go_sem,z6]) rfl ⟨_,by rw[E.o,Fv],?_,?_⟩
   ·rw[E.o];exact qo.JQ (aI.lJ Zg.o k88 _ _)
   ·exact iq (iq ru.o (w.heap.size+1) 0 _) (w.heap.size+1) 1 _
end
section
open Go Go.RowKit Go.Proofs
theorem Fw(t:aF):t=⟨false,0,0⟩\/(t.eq=true/\oV t=false)\/(t.eq=false/\t.a≠0/\oV t=false)\/(t.eq=false/\t.a=0/\t.b≠0/\oV t=false):=by
 obtain⟨q,a,b⟩:=t;simp only[oV,aF.mk.injEq];cases q
 ·by_cases ha:a=0
  ·by_cases hb:b=0
   ·simp[ha,hb]
   ·simp[ha,hb]
  ·simp[ha]
 ·simp
/- a basic command that is not plain -/
theorem Lf{lo hi:Nat}(k a b:Int)(t:aF)(i:au)(A1 A2 A3 A4:Option Addr)(c1 c2 c3 c4:Nat)(body els:ay)(w:World)(hA:aM w lo hi (.agg #[.slice A1 i.facts.length c1,.slice A2 i.atoms.length c2]) i)(h3:body.len<=1049600)(h4:els.len<=1049600)(hk:1<=k/\k<=5)(hn:iC t i body els=false) :
  Calls Tryz.prog 72 #[.agg #[.int .i64 k,.int .i64 a,.int .i64 b,.bool t.eq,.int .i64 t.a,.int .i64 t.b,.slice A1 i.facts.length c1,.slice A2 i.atoms.length c2,.slice A3 body.len c3,.slice A4 els.len c4]] w fun e w'=>e=.returned (.bool false)/\Below w.heap.size w w':=by
 have h1:i.facts.length<=1049600:=by obtain⟨_,_,_,_,e,g1,g2⟩:=hA;exact g1.le
 have h2:i.atoms.length<=1049600:=by obtain⟨_,_,_,_,e,g1,g2⟩:=hA;exact g2.le
 have hkb:qf k=true:=by simp[qf,hk]
 replace hkb:=ax hkb;clear hA hk;obtain⟨y,hy⟩:∃y,y=kI i:=⟨_,rfl⟩;replace hy:=ax hy;obtain rfl|⟨u1,-⟩|⟨u1,u2,-⟩|⟨u1,u2,u3,-⟩:=Fw t
 case' inr.inl=>rw[u1];clear u1
 case' inr.inr.inl=>rw[u1];clear u1
 case' inr.inr.inr=>rw[u1,u2];clear u1 u2
 case inl=>
  have hn':(y&&(decide (body.len=0)&&decide (els.len=0)))=false:=by rw[hy.o];simpa[iC,oV] using hn
  clear hn;replace hn':=ax hn';(go_enter Tryz.func72,Tryz.ntmps72);(go_wp2_with fail);refine(gJ k a b ⟨false,0,0⟩ _ _ _ _ _).mono ?_;rintro e w1 ⟨rfl,hB1⟩;rw[hkb.o];have hB:=aP (w:=w) aj hB1;have K0:=(ae.nz (g:=w.heap.size) (ae.new w _ _) hB1);have q0:=K0.cell;have l0:=K0.lt;clear hB1;(go_wp2_with fail);refine(jH A1 A2 c1 c2 i _ h1 h2).mono ?_;rintro e w2 ⟨rfl,hB2⟩;rw[<-hy.o];have tJ:=aP hB hB2;have K1:=K0.nz hB2;clear q0 l0 hB2;have q0:=K1.cell;have l0:=K1.lt;cases y
  ·go_wp2;go_ret;exact⟨dz rfl,tJ⟩
  by_cases z1:body.len=0
  case neg=>
   have z1':0<body.len:=by omega
   go_wp2;go_ret;exact⟨dz rfl,tJ⟩
  by_cases z2:els.len=0
  case neg=>
   have z2':0<els.len:=by omega
   go_wp2;go_ret;exact⟨dz rfl,tJ⟩
  exact absurd hn'.o (by simp[z1,z2])
 case inr.inl=>
  clear hn;(go_enter Tryz.func72,Tryz.ntmps72);(go_wp2_with fail);refine(gJ k a b ⟨true,t.a,t.b⟩ _ _ _ _ _).mono ?_;rintro e w1 ⟨rfl,hB1⟩;rw[hkb.o];have hB:=aP (w:=w) aj hB1;have K0:=(ae.nz (g:=w.heap.size) (ae.new w _ _) hB1);have q0:=K0.cell;have l0:=K0.lt;clear hB1;go_wp2;go_ret;exact⟨dz rfl,hB⟩
 case inr.inr.inl=>
  clear hn;(go_enter Tryz.func72,Tryz.ntmps72);(go_wp2_with fail);refine(gJ k a b ⟨false,t.a,t.b⟩ _ _ _ _ _).mono ?_;rintro e w1 ⟨rfl,hB1⟩;rw[hkb.o];have hB:=aP (w:=w) aj hB1;have K0:=(ae.nz (g:=w.heap.size) (ae.new w _ _) hB1);have q0:=K0.cell;have l0:=K0.lt;clear hB1;go_wp2;go_ret;exact⟨dz rfl,hB⟩
 case inr.inr.inr=>
  clear hn;(go_enter Tryz.func72,Tryz.ntmps72);(go_wp2_with fail);refine(gJ k a b ⟨false,0,t.b⟩ _ _ _ _ _).mono ?_;rintro e w1 ⟨rfl,hB1⟩;rw[hkb.o];have hB:=aP (w:=w) aj hB1;have K0:=(ae.nz (g:=w.heap.size) (ae.new w _ _) hB1);have q0:=K0.cell;have l0:=K0.lt;clear hB1;go_wp2;go_ret;exact⟨dz rfl,hB⟩
theorem IA{lo hi:Nat}(k a b:Int)(t:aF)(i:au)(A1 A2 A3 A4:Option Addr)(c1 c2 c3 c4:Nat)(body els:ay)(w:World)(hA:aM w lo hi (.agg #[.slice A1 i.facts.length c1,.slice A2 i.atoms.length c2]) i)(h3:body.len<=1049600)(h4:els.len<=1049600)(hk:1<=k/\k<=5)(hn:iC t i body els=true) :
  Calls Tryz.prog 72 #[.agg #[.int .i64 k,.int .i64 a,.int .i64 b,.bool t.eq,.int .i64 t.a,.int .i64 t.b,.slice A1 i.facts.length c1,.slice A2 i.atoms.length c2,.slice A3 body.len c3,.slice A4 els.len c4]] w fun e w'=>e=.returned (.bool (fieldsB k a b))/\Below w.heap.size w w':=by
 have h1:i.facts.length<=1049600:=by obtain⟨_,_,_,_,e,g1,g2⟩:=hA;exact g1.le
 have h2:i.atoms.length<=1049600:=by obtain⟨_,_,_,_,e,g1,g2⟩:=hA;exact g2.le
 have hkb:qf k=true:=by simp[qf,hk]
 replace hkb:=ax hkb;replace hk:=ax hk;clear hA;have hn':oV t=true/\kI i=true/\body.len=0/\els.len=0:=by simpa[iC] using hn
 obtain⟨e1,e2,e3,e4⟩:=hn';rw[e3,e4];clear hn e3 e4;obtain rfl:t=⟨false,0,0⟩:=by simpa[oV] using e1
 clear e1;replace e2:=ax e2;obtain⟨R,hR⟩:∃R,R=fieldsB k a b:=⟨_,rfl⟩;rw[<-hR];unfold fieldsB at hR;obtain⟨pa,wR⟩:∃pa,pa=iF a:=⟨_,rfl⟩;obtain⟨ta,Ad⟩:∃ta,ta=jq a:=⟨_,rfl⟩;obtain⟨tb,htb⟩:∃tb,tb=jq b:=⟨_,rfl⟩;rw[<-wR,<-Ad,<-htb] at hR;replace wR:=ax wR;replace Ad:=ax Ad;replace htb:=ax htb;replace hR:=ax hR;(go_enter Tryz.func72,Tryz.ntmps72);(go_wp2_with fail);refine(gJ k a b ⟨false,0,0⟩ _ _ _ _ _).mono ?_;rintro e w1 ⟨rfl,hB1⟩;rw[hkb.o];have hB:=aP (w:=w) aj hB1;have K0:=(ae.nz (g:=w.heap.size) (ae.new w _ _) hB1);have q0:=K0.cell;have l0:=K0.lt;(go_wp2_with fail);refine(jH A1 A2 c1 c2 i _ h1 h2).mono ?_;rintro e w2 ⟨rfl,hB2⟩;rw[e2.o];have tJ:=aP hB hB2;have K1:=K0.nz hB2;clear q0 l0;have q0:=K1.cell;have l0:=K1.lt;by_cases k1:k=1\/k=2
 ·have hR2:=ax (show R=(pa&&tb) from by rw[hR.o,if_pos k1]);clear hR;rcases k1 with rfl|rfl
  all_goals
   cases pa
   all_goals
    cases tb
    all_goals
     (go_wp2_with (first|(go_at_call 91;refine(mh a _).mono ?_;rintro e w' ⟨rfl,rfl⟩;rw[<-wR.o])|(go_at_call 71;refine(dh b _).mono ?_;rintro e w' ⟨rfl,rfl⟩;rw[<-htb.o])));go_ret;exact⟨dz (by rw[hR2.o];rfl),tJ⟩
 by_cases k3:k=3
 ·have hR2:=ax (show R=(ta&&tb) from by rw[hR.o,if_neg k1,if_pos k3]);clear hR;subst k3;clear k1;cases ta
  all_goals
   cases tb
   all_goals
    (go_wp2_with (first|(go_at_call 71;refine(dh a _).mono ?_;rintro e w' ⟨rfl,rfl⟩;rw[<-Ad.o])|(go_at_call 71;refine(dh b _).mono ?_;rintro e w' ⟨rfl,rfl⟩;rw[<-htb.o])));go_ret;exact⟨dz (by rw[hR2.o];rfl),tJ⟩
 by_cases k4:k=4
 ·have hR2:=ax (show R=(pa&&decide (b=0)) from by rw[hR.o,if_neg k1,if_neg k3,if_pos k4]);clear hR;subst k4;clear k1 k3;cases pa
  all_goals
   by_cases b0:b=0
   all_goals
    have hb0:=ax b0;(go_wp2_with (go_at_call 91;refine(mh a _).mono ?_;rintro e w' ⟨rfl,rfl⟩;rw[<-wR.o]));go_ret;exact⟨dz (by rw[hR2.o];first|rfl|(simp_all)),tJ⟩
 obtain rfl:k=5:=by have:=hk.o;omega
 have hR2:=ax (show R=(ta&&decide (b=0)) from by rw[hR.o,if_neg k1,if_neg k3,if_neg k4,if_pos rfl]);clear hR k1 k3 k4;cases ta
 all_goals
  by_cases b0:b=0
  all_goals
   have hb0:=ax b0;(go_wp2_with (go_at_call 71;refine(dh a _).mono ?_;rintro e w' ⟨rfl,rfl⟩;rw[<-Ad.o]));go_ret;exact⟨dz (by rw[hR2.o];first|rfl|(simp_all)),tJ⟩
theorem IB{lo hi:Nat}(k a b:Int)(t:aF)(i:au)(A1 A2 A3 A4:Option Addr)(c1 c2 c3 c4:Nat)(body els:ay)(w:World)(hA:aM w lo hi (.agg #[.slice A1 i.facts.length c1,.slice A2 i.atoms.length c2]) i)(h3:body.len<=1049600)(h4:els.len<=1049600)(hk:¬(1<=k/\k<=5)) :
  Calls Tryz.prog 72 #[.agg #[.int .i64 k,.int .i64 a,.int .i64 b,.bool t.eq,.int .i64 t.a,.int .i64 t.b,.slice A1 i.facts.length c1,.slice A2 i.atoms.length c2,.slice A3 body.len c3,.slice A4 els.len c4]] w fun e w'=>e=.returned (.bool (dK k a b t i body els))/\Below w.heap.size w w':=by
 have h1:i.facts.length<=1049600:=by obtain⟨_,_,_,_,e,g1,g2⟩:=hA;exact g1.le
 have h2:i.atoms.length<=1049600:=by obtain⟨_,_,_,_,e,g1,g2⟩:=hA;exact g2.le
 have hkb:qf k=false:=by simp[qf];omega
 replace hkb:=ax hkb;obtain⟨F,hF⟩:∃F,F=dK k a b t i body els:=⟨_,rfl⟩;rw[<-hF];obtain⟨tv,Fx⟩:∃x,x=t.valid:=⟨_,rfl⟩;obtain⟨ni,hni⟩:∃x,x=kI i:=⟨_,rfl⟩;obtain⟨iv,Fy⟩:∃x,x=i.valid:=⟨_,rfl⟩;replace Fx:=ax Fx;replace hni:=ax hni;replace Fy:=ax Fy;replace hF:=ax hF;replace hA:=ax hA;(go_enter Tryz.func72,Tryz.ntmps72);(go_wp2_with fail);refine(gJ k a b t _ _ _ _ _).mono ?_;rintro e w1 ⟨rfl,hB1⟩;rw[hkb.o];have hB:=aP (w:=w) aj hB1;have K0:=(ae.nz (g:=w.heap.size) (ae.new w _ _) hB1);have q0:=K0.cell;have l0:=K0.lt;clear hB1;by_cases k6:k=6
 ·subst k6;clear hk;by_cases a0:a=0
  case neg=>
   go_wp2;go_ret;exact⟨dz (hF.o.trans (by unfold dK;rw[if_pos rfl];simp[a0])).symm,hB⟩
  subst a0;by_cases b0:b=0
  case neg=>
   go_wp2;go_ret;exact⟨dz (hF.o.trans (by unfold dK;rw[if_pos rfl];simp[b0])).symm,hB⟩
  subst b0;(go_wp2_with fail);refine(iX t _).mono ?_;rintro e w2 ⟨rfl,hBx⟩;rw[<-Fx.o];replace hB:=aP hB hBx;replace K0:=K0.nz hBx;replace q0:=K0.cell;replace l0:=K0.lt;clear hBx;cases tv
  case false=>
   go_wp2;go_ret;exact⟨dz (hF.o.trans (by unfold dK;rw[if_pos rfl];simp[<-Fx.o])).symm,hB⟩
  (go_wp2_with fail);refine(jH A1 A2 c1 c2 i _ h1 h2).mono ?_;rintro e w3 ⟨rfl,hBx⟩;rw[<-hni.o];replace hB:=aP hB hBx;replace K0:=K0.nz hBx;replace q0:=K0.cell;replace l0:=K0.lt;clear hBx;have Vm:=ax (show F=ni from hF.o.trans (by unfold dK;rw[if_pos rfl];simp[<-Fx.o,<-hni.o]));go_wp2;go_ret;exact⟨dz Vm.o.symm,hB⟩
 by_cases k7:k=7
 ·subst k7;clear hk;by_cases a0:a=0
  case neg=>
   go_wp2;go_ret;exact⟨dz (hF.o.trans (by unfold dK;rw[if_neg (by decide),if_pos rfl];simp[a0])).symm,hB⟩
  subst a0;by_cases b0:b=0
  case neg=>
   go_wp2;go_ret;exact⟨dz (hF.o.trans (by unfold dK;rw[if_neg (by decide),if_pos rfl];simp[b0])).symm,hB⟩
  subst b0;(go_wp2_with fail);refine(iX t _).mono ?_;rintro e w2 ⟨rfl,hBx⟩;rw[<-Fx.o];replace hB:=aP hB hBx;replace K0:=K0.nz hBx;replace q0:=K0.cell;replace l0:=K0.lt;clear hBx;cases tv
  case false=>
   go_wp2;go_ret;exact⟨dz (hF.o.trans (by unfold dK;rw[if_neg (by decide),if_pos rfl];simp[<-Fx.o])).symm,hB⟩
  (go_wp2_with fail);refine(jz _ i _ (hA.o.bz hB)).mono ?_;rintro e w3 ⟨rfl,hBx⟩;rw[<-Fy.o];replace hB:=aP hB hBx;replace K0:=K0.nz hBx;replace q0:=K0.cell;replace l0:=K0.lt;clear hBx;cases iv
  case false=>
   go_wp2;go_ret;exact⟨dz (hF.o.trans (by unfold dK;rw[if_neg (by decide),if_pos rfl];simp[<-Fy.o])).symm,hB⟩
  have Vm:=ax (show F=decide (els.len=0) from hF.o.trans (by unfold dK;rw[if_neg (by decide),if_pos rfl];simp[<-Fx.o,<-Fy.o]));by_cases e0:els.len=0
  all_goals
   have Ex:=ax e0;go_wp2;go_ret;exact⟨dz (by rw[Vm.o];first|rfl|(simp_all)),hB⟩
 have Vm:aJ (F=false):=by
  rw[aJ,hF.o,jM k6 k7]
  have:fieldsB k a b=false:=by
   cases h:fieldsB k a b
   ·rfl
   ·exact absurd (BL h) hk
  rw[this,Bool.and_false]
 have kk1:k≠1:=fun e=>hk (by omega);have kk2:k≠2:=fun e=>hk (by omega);have kk3:k≠3:=fun e=>hk (by omega);have kk4:k≠4:=fun e=>hk (by omega);have kk5:k≠5:=fun e=>hk (by omega);clear hk;go_wp2;go_ret;exact⟨dz Vm.o.symm,hB⟩
theorem uC{lo hi:Nat}(k a b:Int)(t:aF)(i:au)(A1 A2 A3 A4:Option Addr)(c1 c2 c3 c4:Nat)(body els:ay)(w:World)(hA:aM w lo hi (.agg #[.slice A1 i.facts.length c1,.slice A2 i.atoms.length c2]) i)(h3:body.len<=1049600)(h4:els.len<=1049600) :
  Calls Tryz.prog 72 #[.agg #[.int .i64 k,.int .i64 a,.int .i64 b,.bool t.eq,.int .i64 t.a,.int .i64 t.b,.slice A1 i.facts.length c1,.slice A2 i.atoms.length c2,.slice A3 body.len c3,.slice A4 els.len c4]] w fun e w'=>e=.returned (.bool (dK k a b t i body els))/\Below w.heap.size w w':=by
 by_cases hk:1<=k/\k<=5
 ·rw[jM (by omega) (by omega)];cases hn:iC t i body els
  ·exact Lf k a b t i A1 A2 A3 A4 c1 c2 c3 c4 body els w hA h3 h4 hk hn
  ·exact IA k a b t i A1 A2 A3 A4 c1 c2 c3 c4 body els w hA h3 h4 hk hn
 ·exact IB k a b t i A1 A2 A3 A4 c1 c2 c3 c4 body els w hA h3 h4 hk
theorem Zh(A B:Option Addr)(n m c d:Nat)(w:World):(Instr.index 116 (.agg #[.slice A n c,.slice B m d]) (.int .i64 0)).run Tryz.prog w=.ok (.slice A n c) w/\(Instr.index 116 (.agg #[.slice A n c,.slice B m d]) (.int .i64 1)).run Tryz.prog w=.ok (.slice B m d) w:=by
 have h:=Tryz.underlying116
 constructor<;>simp[Instr.index,run_underlying h,asIntOf,go_sem]
def yM(L:ay)(d:Nat)(room:Int):Bool:=L.shape d&&decide ((L.sz:Int)<=room)
def QV(L:ay)(d:Nat)(room:Int):Int:=if yM L d room then L.sz else 0
theorem Ai{L:ay}{d:Nat}{room:Int}(h:yM L d room=true):QV L d room=L.sz:=by unfold QV;rw[if_pos h]
theorem Lg{L:ay}{d:Nat}{room:Int}(h:yM L d room=false):QV L d room=0:=by unfold QV;rw[h];rfl
theorem BO:∀(N:Nat) (L:ay),L.sz<N->∀(A:Option Addr) (c d lo hi:Nat) (D room:Int) (w:World),bH w lo hi A L->L.len<=1049600->L.small 1049600->D+d=5->1<=D->0<=room->room<=16->
  Calls Tryz.prog 44 #[.slice A L.len c,.int .i64 D,.int .i64 room] w fun e w'=>e=.returned (.tuple #[.int .i64 (QV L d room),.bool (yM L d room)])/\Below w.heap.size w w':=by
 intro N
 induction N with
 | zero=>intro L h;omega
 | succ N IH=>
  intro L hsz A c d lo hi D room w hV hlen hsm hD hD1 hr0 hr1;replace IH:=ax IH;replace hV:=ax hV;replace hsm:=ax hsm;replace hsz:=ax hsz;obtain⟨n,hn⟩:∃n,n=L.len:=⟨_,rfl⟩;obtain⟨T,hT⟩:∃T,T=QV L d room:=⟨_,rfl⟩;obtain⟨R,hR⟩:∃R,R=yM L d room:=⟨_,rfl⟩;have hno:R=false->T=0:=fun h=>by rw[hT];exact Lg (by rw[<-hR];exact h)
  have PL:R=true->T=L.sz:=fun h=>by rw[hT];exact Ai (by rw[<-hR];exact h)
  rw[<-hn,<-hR,<-hT];rw[<-hn] at hlen;replace hn:=ax hn;replace hR:=ax hR;replace hno:=ax hno;replace PL:=ax PL;replace hD:=ax hD;clear hT;by_cases q1:room<n
  ·have e0:R=false:=by
    rw[hR.o,yM,Bool.and_eq_false_iff];right;have:=ay.wS L;have h2:=hn.o;simp;omega
   rw[e0,hno.o e0];(go_enter Tryz.func44,Tryz.ntmps44);go_wp2;go_ret2;exact⟨rfl,aj⟩
  by_cases q2:0<n
  case' neg=>
   obtain rfl:n=0:=by omega
   have e1:L=.nil:=by
    have:=hn.o
    cases L with
    | nil=>rfl
    | cons=>simp[ay.len] at this
  case' pos=>
   by_cases q3:4<D
   ·have e0:R=false:=by
     rw[hR.o,yM,Bool.and_eq_false_iff];left;obtain⟨k,a,b,t,i,body,els,r,eL⟩:=ay.dF (L:=L) (by rw[<-hn.o];exact q2);obtain rfl:d=0:=by have:=hD.o;omega
     rw[eL];rfl
    rw[e0,hno.o e0];(go_enter Tryz.func44,Tryz.ntmps44);go_wp2;go_ret2;exact⟨rfl,aj⟩
   have hd1:aJ (1<=d):=by have:=hD.o;show 1<=d;omega
  case neg=>
   have e0:R=true:=by rw[hR.o,e1];simp[yM,ay.shape,ay.sz,hr0]
   have e2:T=0:=by rw[PL.o e0,e1];rfl
   rw[e0,e2];clear e1 e0 e2;(go_enter Tryz.func44,Tryz.ntmps44);(go_wp2_with fail)
   go_loopw [8,32] (fun m x wr=>m=.int .i64 0/\x=.int .i64 0/\Below w.heap.size w wr) (fun _ _ _=>0)
   case atStart=>exact⟨rfl,rfl,aj⟩
   case round=>
    obtain⟨rfl,rfl,hB⟩:=hrel;go_wp2;go_ret2;exact⟨rfl,hB⟩
  (go_enter Tryz.func44,Tryz.ntmps44);(go_wp2_with fail)
  go_loopw [8,32] (fun y x wr=>∃j m:Nat,j<=n/\x=.int .i64 j/\y=.int .i64 m/\(m:Int)<=room/\aJ (m+(L.drop j).sz=L.sz+(L.drop j).len)/\aJ (L.shape d=(L.drop j).shape d)/\Below w.heap.size w wr) (fun _ x _=>n - (intOf x).toNat)
  case atStart=>exact⟨0,n,dJ,rfl,rfl,by omega,ax (by have:=hn.o;show n+L.sz=L.sz+L.len;omega),ax rfl,aj⟩
  case round=>
   obtain⟨j,m,hj,rfl,rfl,hm,HZ,HR,hB⟩:=hrel;by_cases hlt:j<n
   ·have hpos:0<(L.drop j).len:=by rw[ay.iT,<-hn.o];omega
    obtain⟨k,a,b,t,i,body,els,r,eL⟩:=ay.dF hpos;obtain⟨bl,o,rfl,-,-,hAt⟩:=(hV.o.bz hB) (by rw[<-hn.o];omega);have hDr:=hAt.drop j;have hS:=ay.fG j hsm.o;have hZ:=ay.kv j L;have hDs:=ay.ik j L eL;have iU:=HR.o;have Vn:=HZ.o;rw[eL] at hDr hS hZ iU Vn;obtain⟨⟨p0,p1,p2,p3,p4,p5⟩,⟨A6,c6,p6,g6⟩,⟨A7,c7,p7,g7⟩,⟨A8,c8,p8,g8⟩,⟨A9,c9,p9,g9⟩,-⟩:=hDr;obtain⟨s1,s2,s3,s4,s5,s6,-⟩:=hS;simp only[ay.sz] at hZ;simp only[ay.sz,ay.len] at Vn;have hbs:body.sz<N:=by have:=hsz.o;omega
    have hes:els.sz<N:=by have:=hsz.o;omega
    have hrl:=ay.wS r;have gA:aM wr lo hi (.agg #[.slice A6 i.facts.length c6,.slice A7 i.atoms.length c7]) i:=⟨_,_,_,_,rfl,⟨g6,s1⟩,⟨g7,s2⟩⟩;have gB:aJ (bH wr lo hi A8 body):=g8;have gE:aJ (bH wr lo hi A9 els):=g9;obtain⟨e,rfl⟩:∃e,d=e+1:=⟨d - 1,by have:=hd1.o;omega⟩;rw[ay.shape.eq_2,decide_eq_true (by omega),Bool.true_and,Nat.add_sub_cancel,<-hDs] at iU;obtain⟨F,hF⟩:∃F,F=dK k a b t i body els:=⟨_,rfl⟩;rw[<-hF] at iU;have f1:F=false->R=false:=fun h=>by rw[hR.o,yM,iU,h];rfl
    have f2:yM body e (room - m)=false->R=false:=fun h=>by
     rw[yM,Bool.and_eq_false_iff] at h;rw[hR.o,yM,Bool.and_eq_false_iff];rcases h with h|h
     ·left;rw[iU,h];simp
     ·right;simp at h⊢;omega
    have f3:yM els e (room - ((m+body.sz:Nat):Int))=false->R=false:=fun h=>by
     rw[yM,Bool.and_eq_false_iff] at h;rw[hR.o,yM,Bool.and_eq_false_iff];rcases h with h|h
     ·left;rw[iU,h];simp
     ·right;simp at h⊢;omega
    have t2:yM body e (room - m)=true->body.shape e=true/\(body.sz:Int)<=room - m:=fun h=>by simpa[yM] using h
    have t3:yM els e (room - ((m+body.sz:Nat):Int))=true->els.shape e=true/\(els.sz:Int)<=room - ((m+body.sz:Nat):Int):=fun h=>by simpa[yM] using h
    replace f1:=ax f1;replace f2:=ax f2;replace f3:=ax f3;replace t2:=ax t2;replace t3:=ax t3;replace iU:=ax iU;replace Vn:=ax Vn;replace hbs:=ax hbs;replace hes:=ax hes;replace s5:=ax s5;replace s6:=ax s6;replace gA:=ax gA;replace hF:=ax hF;replace hDs:=ax hDs;replace hrl:=ax hrl;clear hZ hpos hAt g6 g7 g8 g9 HR HZ eL;(go_wp2_with fail);refine(uC k a b t i A6 A7 A8 A9 c6 c7 c8 c9 body els _ (gA.o.bz aj) s3 s4).mono ?_;rintro e' w1 ⟨rfl,hBx⟩;rw[<-hF.o];have hB2:Below w.heap.size w w1:=aP (ai hB _) hBx;have hW:Below wr.heap.size wr w1:=aP (ai aU _) hBx;have k0:ae w1 wr.heap.size tC #[.int .i64 k,.int .i64 a,.int .i64 b,.bool t.eq,.int .i64 t.a,.int .i64 t.b,.slice A6 i.facts.length c6,.slice A7 i.atoms.length c7,.slice A8 body.len c8,.slice A9 els.len c9]:=ae.nz az hBx;have q0:=k0.cell;have l0:=k0.lt;clear hBx gA p0 p1 p2 p3 p4 p5 p6 p7 p8 p9 k0;cases F
    ·have e0:=ax (f1.o (by simp));go_wp2;go_ret2;exact⟨by rw[e0.o,hno.o e0.o];rfl,hB2⟩
    have gB:=ax (gB.o.bz hW);have gE:=ax (gE.o.bz hW);clear hW hB;(go_wp2_with fail);clear q0 l0
    go_loopw [8,44] (fun y x wx=>∃(q:Int) (m2:Nat),x=.int .i64 q/\y=.int .i64 m2/\(m2:Int)<=room/\aJ ((q=0/\m2=m)\/(q=1/\m2=m+body.sz/\body.shape e=true)\/(q=2/\m2=m+body.sz+els.sz/\body.shape e=true/\els.shape e=true))/\Below w1.heap.size w1 wx) (fun _ x _=>2 - (intOf x).toNat)
    case atStart=>exact⟨0,m,rfl,rfl,hm,ax (.inl ⟨rfl,rfl⟩),aU⟩
    case round=>
     obtain⟨q,m2,rfl,rfl,hm2,HQ,Sd⟩:=hrel;obtain⟨hi0,hi1⟩:=Zh A8 A9 body.len els.len c8 c9 wr;rcases HQ.o with ⟨rfl,rfl⟩|⟨rfl,rfl,y1⟩|⟨rfl,rfl,y1,y2⟩
     ·clear HQ;(go_wp2_with fail);refine(IH.o body hbs.o A8 c8 e lo hi (D+1) (room - m2) _ (gB.o.bz Sd) s3 s5.o (by have:=hD.o;omega) (by omega) (by omega) (by omega)).mono ?_;rintro e' w2 ⟨rfl,hBx⟩;have hB3:=aP hB2 (aP Sd hBx);have hB4:=aP Sd hBx;clear hBx;obtain⟨T1,hT1⟩:∃x,x=QV body e (room - m2):=⟨_,rfl⟩;obtain⟨x1,hx1⟩:∃x,x=yM body e (room - m2):=⟨_,rfl⟩;have g1:x1=true->T1=body.sz:=fun h=>by rw[hT1];exact Ai (by rw[<-hx1];exact h)
      rw[<-hT1,<-hx1];replace hx1:=ax hx1;replace g1:=ax g1;clear hT1;cases x1
      ·have e0:=ax (f2.o hx1.o.symm);go_wp2;go_ret2;exact⟨by rw[e0.o,hno.o e0.o];rfl,hB3⟩
      ·have T2:=t2.o hx1.o.symm;obtain rfl:=g1.o (by simp);have Zi:=ax T2.1;have T2b:=T2.2;clear T2;(go_wp2_with fail)
       go_round
       case rel=>exact⟨1,m2+body.sz,by go_num,by push_cast;rfl,by push_cast;omega,ax (.inr (.inl ⟨rfl,rfl,Zi.o⟩)),hB4⟩
       case measure=>simp[intOf]
     ·clear HQ;replace y1:=ax y1;(go_wp2_with fail);refine(IH.o els hes.o A9 c9 e lo hi (D+1) (room - ((m+body.sz:Nat):Int)) _ (gE.o.bz Sd) s4 s6.o (by have:=hD.o;omega) (by omega) (by omega) (by omega)).mono ?_;rintro e' w2 ⟨rfl,hBx⟩;have hB3:=aP hB2 (aP Sd hBx);have hB4:=aP Sd hBx;clear hBx;obtain⟨T1,hT1⟩:∃x,x=QV els e (room - ((m+body.sz:Nat):Int)):=⟨_,rfl⟩;obtain⟨x1,hx1⟩:∃x,x=yM els e (room - ((m+body.sz:Nat):Int)):=⟨_,rfl⟩;have g1:x1=true->T1=els.sz:=fun h=>by rw[hT1];exact Ai (by rw[<-hx1];exact h)
      rw[<-hT1,<-hx1];replace hx1:=ax hx1;replace g1:=ax g1;clear hT1;cases x1
      ·have e0:=ax (f3.o hx1.o.symm);go_wp2;go_ret2;exact⟨by rw[e0.o,hno.o e0.o];rfl,hB3⟩
      ·have T2:=t3.o hx1.o.symm;obtain rfl:=g1.o (by simp);have Zi:=ax T2.1;have T2b:=T2.2;clear T2;(go_wp2_with fail)
       go_round
       case rel=>exact⟨2,m+body.sz+els.sz,by go_num,by push_cast;rfl,by push_cast at T2b⊢;omega,ax (.inr (.inr ⟨rfl,rfl,y1.o,Zi.o⟩)),hB4⟩
       case measure=>simp[intOf]
     ·clear HQ;replace y1:=ax y1;replace y2:=ax y2;have hB3:=aP hB2 Sd;(go_wp2_with fail)
      go_round
      case rel=>
       refine⟨j+1,m+body.sz+els.sz,by omega,by go_num,rfl,hm2,ax ?_,ax ?_,hB3⟩
       ·rw[hDs.o];have:=Vn.o;omega
       ·rw[iU.o,y1.o,y2.o];simp
      case measure=>simp[intOf];omega
   ·go_wp2;go_ret2;obtain rfl:j=n:=by omega
    have e1:L.drop j=.nil:=by rw[hn.o];exact ay.jw L
    have h2:=HR.o;have h3:=HZ.o;rw[e1] at h2 h3;simp only[ay.sz,ay.len,Nat.add_zero] at h3;have e0:R=true:=by rw[hR.o,yM,h2];simp[ay.shape];omega
    refine⟨?_,hB⟩;rw[PL.o e0,e0,<-h3];rfl
theorem mq{lo hi:Nat}(L:ay)(A:Option Addr)(c:Nat)(w:World)(hV:bH w lo hi A L)(hlen:L.len<=1049600)(hsm:L.small 1049600) :
  Calls Tryz.prog 17 #[.slice A L.len c] w fun e w'=>e=.returned (.bool L.prog)/\Below w.heap.size w w':=by
 have hR:yM L 4 16=L.prog:=by
  unfold yM ay.prog
  congr 1
  rw[decide_eq_decide];omega
 replace hR:=ax hR;replace hV:=ax hV;replace hsm:=ax hsm;(go_enter Tryz.func17,Tryz.ntmps17);(go_wp2_with fail);refine(BO _ L (Nat.lt_succ_self _) A c 4 lo hi 1 16 w hV.o hlen hsm.o (by omega) (by omega) (by omega) (by omega)).mono ?_;rintro e w1 ⟨rfl,hB1⟩;rw[hR.o];go_wp2;go_ret;exact⟨rfl,hB1⟩
end
section
open Go Go.RowKit Go.Proofs
attribute [local go_sem ↓] Go.wp_at_zero Go.wp_at_succ
theorem af.Nh{w:World}{base g n c:Nat}{fs:List aL}(h:af w base (.slice (some ⟨g,0,none⟩) n c) fs)(hk:0<fs.length)(v:Int){x:aL}(hx:fs[0]? = some x):af (w.setCell ⟨g,2,none⟩ (.int .i64 v)) base (.slice (some ⟨g,0,none⟩) n c) (fs.set 0 ⟨x.kind,x.a,v⟩):=by
 have e:fs[0]=x:=by rw[List.getElem?_eq_getElem hk] at hx;exact Option.some.inj hx
 have:=af.Pf h (k:=0) hk v (gs:=fs.set 0 ⟨x.kind,x.a,v⟩) (by rw[e]);simpa using this
theorem IC{lo hi:Nat}(v:Value)(a:au)(w:World)(h:eB w lo hi v a)(hi:0<a.atoms.length) :
  Calls Tryz.prog 136 #[v,.int .i64 0] w fun e w'=>∃G g,e=.returned (.slice G (iI a).atoms.length g)/\af w' w.heap.size (.slice G (iI a).atoms.length g) (iI a).atoms/\Below w.heap.size w w':=by
 have:=jZ v a 0 w h hi;refine Calls.mono this ?_;rintro e w' ⟨r,rfl,o,hB⟩;obtain⟨G,g,rfl,-⟩:=o.rj;exact⟨G,g,rfl,o,hB⟩
theorem Se{lo hi:Nat}(v:Value)(a:au)(A B:Int)(t:aF)(X1 X2 X3 X4:Option Addr)(n1 n2 n3 n4 d1 d2 d3 d4 K0:Nat)(w:World)(h:eB w lo hi v a)(h0:0<a.atoms.length)(hl:a.facts.length<=1000/\a.atoms.length<=1000)(Cs:K0<512)(HA:jq A=true) :
  Calls Tryz.prog 106 #[v,.agg #[.int .i64 2,.int .i64 A,.int .i64 B,.bool t.eq,.int .i64 t.a,.int .i64 t.b,.slice X1 n1 d1,.slice X2 n2 d2,.slice X3 n3 d3,.slice X4 n4 d4],.int .u16 K0] w fun e w'=>∃r,e=.returned (.tuple #[r,.bool (gy 2 A B a K0).isSome])/\qo w' w.heap.size r (gy 2 A B a K0)/\Below w.heap.size w w':=by
 have hV:=ax h;obtain⟨A1,c1,A2,c2,rfl,h1,h2,-⟩:=h;have H1:=ax h1;have H2:=ax h2;obtain⟨b,o,rfl,g0,g1,g2⟩:=h2.at h0;have E0:aJ (a.atoms[0]? = some (dR a)):=ax (by unfold dR;rw[List.getElem?_eq_getElem h0];rfl);have e0:a.atoms[0]=dR a:=by unfold dR;rw[List.getElem?_eq_getElem h0];rfl
 obtain⟨xb,hxb⟩:∃x,x=(dR a).b:=⟨_,rfl⟩;rw[e0] at g0 g1 g2;rw[<-hxb] at g2;replace hxb:=ax hxb;have hbl:=block_lt_of_cell g2;simp only[Nat.zero_mul,Nat.add_zero] at hbl g2;have hii:(0:Int)<(a.atoms.length:Int):=by omega
 clear h1 h2 g0 g1 e0;have E:aJ (gy 2 A B a K0=dY a A xb K0):=ax (by rw[hxb.o];rfl);(go_enter Tryz.func106,Tryz.ntmps106);have k3:ae (((w.alloc (.cells #[.slice A1 a.facts.length c1,.slice (some ⟨b,o,none⟩) a.atoms.length c2] aC)).alloc (.cells #[.int .i64 2,.int .i64 A,.int .i64 B,.bool t.eq,.int .i64 t.a,.int .i64 t.b,.slice X1 n1 d1,.slice X2 n2 d2,.slice X3 n3 d3,.slice X4 n4 d4] tC)).alloc (.cells #[.slice none 0 0,.slice none 0 0] aC)) w.heap.size aC #[.slice A1 a.facts.length c1,.slice (some ⟨b,o,none⟩) a.atoms.length c2]:=az;have k4:ae (((w.alloc (.cells #[.slice A1 a.facts.length c1,.slice (some ⟨b,o,none⟩) a.atoms.length c2] aC)).alloc (.cells #[.int .i64 2,.int .i64 A,.int .i64 B,.bool t.eq,.int .i64 t.a,.int .i64 t.b,.slice X1 n1 d1,.slice X2 n2 d2,.slice X3 n3 d3,.slice X4 n4 d4] tC)).alloc (.cells #[.slice none 0 0,.slice none 0 0] aC)) (w.heap.size+1) tC #[.int .i64 2,.int .i64 A,.int .i64 B,.bool t.eq,.int .i64 t.a,.int .i64 t.b,.slice X1 n1 d1,.slice X2 n2 d2,.slice X3 n3 d3,.slice X4 n4 d4]:=az;have k6:ae (((w.alloc (.cells #[.slice A1 a.facts.length c1,.slice (some ⟨b,o,none⟩) a.atoms.length c2] aC)).alloc (.cells #[.int .i64 2,.int .i64 A,.int .i64 B,.bool t.eq,.int .i64 t.a,.int .i64 t.b,.slice X1 n1 d1,.slice X2 n2 d2,.slice X3 n3 d3,.slice X4 n4 d4] tC)).alloc (.cells #[.slice none 0 0,.slice none 0 0] aC)) (w.heap.size+1+1) aC #[.slice none 0 0,.slice none 0 0]:=az;have HB:aJ (Below w.heap.size w (((w.alloc (.cells #[.slice A1 a.facts.length c1,.slice (some ⟨b,o,none⟩) a.atoms.length c2] aC)).alloc (.cells #[.int .i64 2,.int .i64 A,.int .i64 B,.bool t.eq,.int .i64 t.a,.int .i64 t.b,.slice X1 n1 d1,.slice X2 n2 d2,.slice X3 n3 d3,.slice X4 n4 d4] tC)).alloc (.cells #[.slice none 0 0,.slice none 0 0] aC))):=ax aj;have hz:(((w.alloc (.cells #[.slice A1 a.facts.length c1,.slice (some ⟨b,o,none⟩) a.atoms.length c2] aC)).alloc (.cells #[.int .i64 2,.int .i64 A,.int .i64 B,.bool t.eq,.int .i64 t.a,.int .i64 t.b,.slice X1 n1 d1,.slice X2 n2 d2,.slice X3 n3 d3,.slice X4 n4 d4] tC)).alloc (.cells #[.slice none 0 0,.slice none 0 0] aC)).heap.size=w.heap.size+3:=by simp
 have hq2:(((w.alloc (.cells #[.slice A1 a.facts.length c1,.slice (some ⟨b,o,none⟩) a.atoms.length c2] aC)).alloc (.cells #[.int .i64 2,.int .i64 A,.int .i64 B,.bool t.eq,.int .i64 t.a,.int .i64 t.b,.slice X1 n1 d1,.slice X2 n2 d2,.slice X3 n3 d3,.slice X4 n4 d4] tC)).alloc (.cells #[.slice none 0 0,.slice none 0 0] aC)).cell? ⟨b,o+2,none⟩=some (.int .i64 xb):=(HB.o.cell (p:=⟨b,o+2,none⟩) hbl).trans g2;(go_upto_region 3 with fail);generalize (((w.alloc (.cells #[.slice A1 a.facts.length c1,.slice (some ⟨b,o,none⟩) a.atoms.length c2] aC)).alloc (.cells #[.int .i64 2,.int .i64 A,.int .i64 B,.bool t.eq,.int .i64 t.a,.int .i64 t.b,.slice X1 n1 d1,.slice X2 n2 d2,.slice X3 n3 d3,.slice X4 n4 d4] tC)).alloc (.cells #[.slice none 0 0,.slice none 0 0] aC))=W at k3 k4 k6 hq2 HB hz⊢;have hdz:W.drew.heap.size=W.heap.size:=rfl;have Zj:W.drew.cell? ⟨b,o+2,none⟩=some (.int .i64 xb):=hq2;refine lS (S:=(fun w'=>(∀i,w'.cell? ⟨w.heap.size,i,none⟩=#[.slice A1 a.facts.length c1,.slice (some ⟨b,o,none⟩) a.atoms.length c2][i]?)/\(∀i,w'.cell? ⟨w.heap.size+1,i,none⟩=#[.int .i64 2,.int .i64 A,.int .i64 B,.bool t.eq,.int .i64 t.a,.int .i64 t.b,.slice X1 n1 d1,.slice X2 n2 d2,.slice X3 n3 d3,.slice X4 n4 d4][i]?)/\w'.cell? ⟨b,o+2,none⟩=some (.int .i64 xb))) (⟨k3.drew.cell,k4.drew.cell,Zj⟩) fun aH=>?_;refine jQ 0 1 2 3 4 ?_;refine O7 5 6 7 8 ?_;refine aX 9 rfl fun K hK=>?_;(try simp only[zz]);(go_simp;refine(qP _ a A xb K0 _ (hV.o.V.bz HB.o.drew) Cs HA hl.1).mono ?_;rintro e w1 ⟨r,rfl,oX,hB1⟩;replace hB1:Below W.heap.size W w1:=aU.drew.trans hB1;obtain⟨⟨F,n,f,G,m,g,rfl⟩,oX⟩:=oX;have k31:=k3.nz hB1;have k41:=k4.nz hB1;have k61:=k6.nz hB1;have Zk:w1.cell? ⟨b,o+2,none⟩=some (.int .i64 xb):=(hB1.cell (p:=⟨b,o+2,none⟩) (by simp only;omega)).trans hq2;have HB1:=bF HB hB1;have OX:=ax oX;have hz1:=hB1.size;clear hB1 oX);refine hK.out _ _ (⟨k31.cell,k41.cell,Zk⟩) ?_;clear aH hK K;intro aH;refine uM 10 11 ?_;have l61:=k61.lt;have q61:=k61.cell;have r61:=k61.frozen;refine aX 12 rfl fun K hK=>?_;(try simp only[zz]);go_simp;refine hK.out _ _ (⟨((k31.fz (w.heap.size+1+1) 0 _).fz (w.heap.size+1+1) 1 _).cell,((k41.fz (w.heap.size+1+1) 0 _).fz (w.heap.size+1+1) 1 _).cell,(((iq (iq HB1.o (w.heap.size+1+1) 0 _) (w.heap.size+1+1) 1 _).cell (p:=⟨b,o+2,none⟩) hbl).trans g2)⟩) ?_;clear aH hK K;intro aH;refine jh 13 ?_;refine jP ?_;(go_wp2_with fail);have z6:=((k61.ag 0 (.slice F n f)).ag 1 (.slice G m g)).cell;refine bodyPost_ret (v:=.tuple #[.agg #[.slice F n f,.slice G m g],.bool (dY a A xb K0).isSome]) (by simp[results,Tryz.results106,go_sem,z6]) rfl ⟨_,by rw[E.o],?_,?_⟩
 ·rw[E.o];exact⟨⟨_,_,_,_,_,_,rfl⟩,fun c hc=>(aI.lJ (OX.o c hc) k61 _ _).bq⟩
 ·exact iq (iq HB1.o (w.heap.size+1+1) 0 _) (w.heap.size+1+1) 1 _
theorem Sf{lo hi:Nat}(v:Value)(a:au)(A B:Int)(t:aF)(X1 X2 X3 X4:Option Addr)(n1 n2 n3 n4 d1 d2 d3 d4 K0:Nat)(w:World)(h:eB w lo hi v a)(h0:0<a.atoms.length)(hl:a.facts.length<=1000/\a.atoms.length<=1000)(Cs:K0<512) :
  Calls Tryz.prog 106 #[v,.agg #[.int .i64 3,.int .i64 A,.int .i64 B,.bool t.eq,.int .i64 t.a,.int .i64 t.b,.slice X1 n1 d1,.slice X2 n2 d2,.slice X3 n3 d3,.slice X4 n4 d4],.int .u16 K0] w fun e w'=>∃r,e=.returned (.tuple #[r,.bool (gy 3 A B a K0).isSome])/\qo w' w.heap.size r (gy 3 A B a K0)/\Below w.heap.size w w':=by
 have hV:=ax h;obtain⟨A1,c1,A2,c2,rfl,h1,h2,-⟩:=h;have H1:=ax h1;have H2:=ax h2;obtain⟨b,o,rfl,g0,g1,g2⟩:=h2.at h0;have E0:aJ (a.atoms[0]? = some (dR a)):=ax (by unfold dR;rw[List.getElem?_eq_getElem h0];rfl);have e0:a.atoms[0]=dR a:=by unfold dR;rw[List.getElem?_eq_getElem h0];rfl
 obtain⟨xb,hxb⟩:∃x,x=(dR a).b:=⟨_,rfl⟩;rw[e0] at g0 g1 g2;rw[<-hxb] at g2;replace hxb:=ax hxb;have hbl:=block_lt_of_cell g2;simp only[Nat.zero_mul,Nat.add_zero] at hbl g2;have hii:(0:Int)<(a.atoms.length:Int):=by omega
 clear h1 h2 g0 g1 e0;have E:aJ (gy 3 A B a K0=some (mY a B)):=ax rfl;(go_enter Tryz.func106,Tryz.ntmps106);(go_upto_region 5 with fail);refine Ro (w:=w) (F:=Code.wp _ _ _ _) ?_;rintro W k3 k4 k6 HB hz;replace HB:=ax HB;have hdz:W.drew.heap.size=W.heap.size:=rfl;(replace fq:=k3.z;replace eZ:=k4.z;replace oD:=k6.z);(go_wp2_with fail);refine(cz _ a _ (hV.o.V.bz HB.o)).mono ?_;rintro e w1 ⟨r,rfl,oC,hB1⟩;obtain⟨fv,av,rfl,of,oa⟩:=oC;obtain⟨F,f,rfl,-⟩:=of.rj;obtain⟨G,g,rfl,-⟩:=oa.rj;obtain⟨gb,cur,-,rfl,hg,kg,hsz,x0,x1,x2,-⟩:=oa.open_ (k:=0) h0;simp only[Nat.zero_mul,Nat.zero_add] at x0 x1 x2;have k41:=k4.nz hB1;have k61:=k6.nz hB1;have HB1:=bF HB hB1;have hz1:=hB1.size;have OF:=ax of;have OA:=ax oa;clear of oa hB1 k3 k4 k6 fq eZ oD HB x0 x1;have hgl:=kg.lt;have rg:=kg.frozen;have q2:=(kg.cell 2).trans x2;(replace Fz:=k41.z;replace Vo:=k61.z);(go_wp2_with fail);have hne:gb≠w.heap.size+1+1:=fun e=>by omega
 have k62:=k61.far (p:=⟨gb,2,none⟩) (fun e=>hne e.symm) (.int .i64 B);have Ul:=OA.o.Nh h0 B E0.o;have MZ:=OF.o.aA kg (by decide) 2 (.int .i64 B);have z6:=(((k62.ag 0 (.slice F a.facts.length f)).ag 1 (.slice (some ⟨gb,0,none⟩) a.atoms.length g)).alloc (.cells #[.slice F a.facts.length f,.slice (some ⟨gb,0,none⟩) a.atoms.length g] aC)).cell
 have OX:aI (w1.setCell ⟨gb,2,none⟩ (.int .i64 B)) W.heap.size (.agg #[.slice F a.facts.length f,.slice (some ⟨gb,0,none⟩) a.atoms.length g]) (mY a B):=by
  refine⟨_,_,rfl,MZ,?_⟩;exact Ul
 have HB2:=(iq HB1.o gb 2 (.int .i64 B));refine bodyPost_ret (v:=.tuple #[.agg #[.slice F a.facts.length f,.slice (some ⟨gb,0,none⟩) a.atoms.length g],.bool true]) (by simp[results,Tryz.results106,go_sem,z6]) rfl ⟨_,by rw[E.o];rfl,?_,?_⟩
 ·rw[E.o];refine qo.some ((aI.lJ OX k62 _ _).bq |>.bz aj)
 ·exact ai ((iq (iq HB2 (w.heap.size+1+1) 0 _) (w.heap.size+1+1) 1 _)) _
theorem Sg{lo hi:Nat}(v:Value)(a:au)(k A B:Int)(t:aF)(X1 X2 X3 X4:Option Addr)(n1 n2 n3 n4 d1 d2 d3 d4 K0:Nat)(w:World)(h:eB w lo hi v a)(h0:0<a.atoms.length)(hl:a.facts.length<=1000/\a.atoms.length<=1000)(Cs:K0<512)(hk2:¬k=2)(hk3:¬k=3) :
  Calls Tryz.prog 106 #[v,.agg #[.int .i64 k,.int .i64 A,.int .i64 B,.bool t.eq,.int .i64 t.a,.int .i64 t.b,.slice X1 n1 d1,.slice X2 n2 d2,.slice X3 n3 d3,.slice X4 n4 d4],.int .u16 K0] w fun e w'=>∃r,e=.returned (.tuple #[r,.bool (gy k A B a K0).isSome])/\qo w' w.heap.size r (gy k A B a K0)/\Below w.heap.size w w':=by
 have hV:=ax h;obtain⟨A1,c1,A2,c2,rfl,h1,h2,-⟩:=h;have H1:=ax h1;have H2:=ax h2;obtain⟨b,o,rfl,g0,g1,g2⟩:=h2.at h0;have E0:aJ (a.atoms[0]? = some (dR a)):=ax (by unfold dR;rw[List.getElem?_eq_getElem h0];rfl);have e0:a.atoms[0]=dR a:=by unfold dR;rw[List.getElem?_eq_getElem h0];rfl
 obtain⟨xb,hxb⟩:∃x,x=(dR a).b:=⟨_,rfl⟩;rw[e0] at g0 g1 g2;rw[<-hxb] at g2;replace hxb:=ax hxb;have hbl:=block_lt_of_cell g2;simp only[Nat.zero_mul,Nat.add_zero] at hbl g2;have hii:(0:Int)<(a.atoms.length:Int):=by omega
 clear h1 h2 g0 g1 e0;have E:aJ (gy k A B a K0=some (iI a)):=ax (by unfold gy;rw[if_neg hk2,if_neg hk3]);have b2:(k == 2)=false:=beq_false_of_ne hk2;have b3:(k == 3)=false:=beq_false_of_ne hk3;clear hk2 hk3;(go_enter Tryz.func106,Tryz.ntmps106);(go_upto_region 8 with fail);refine Ro (w:=w) (F:=Code.wp _ _ _ _) ?_;rintro W k3 k4 k6 HB hz;replace HB:=ax HB;have hdz:W.drew.heap.size=W.heap.size:=rfl;(replace fq:=k3.z;replace eZ:=k4.z;replace oD:=k6.z);(go_wp2_with fail);clear fq eZ oD;refine lS (S:=(fun w'=>(∀i,w'.cell? ⟨w.heap.size,i,none⟩=#[.slice A1 a.facts.length c1,.slice (some ⟨b,o,none⟩) a.atoms.length c2][i]?))) (k3.drew.cell) fun aH=>?_;refine yU 0 1 3 ?_;refine aX 2 rfl fun K hK=>?_;(try simp only[zz]);(go_simp;refine(nH A1 none c1 0 a.facts [] _ (H1.o.bz HB.o.drew) (Rd.nil _ 0 0 _ _) (by simp;omega)).mono ?_;rintro e w1 ⟨r,rfl,oF,hB1⟩;rw[append_nil] at oF;obtain⟨F,f,rfl,-⟩:=oF.rj;replace hB1:Below W.heap.size W w1:=aU.drew.trans hB1;have k31:=k3.nz hB1;have k61:=k6.nz hB1;have HB1:=bF HB hB1;have OF:=ax (oF.bq (base':=w.heap.size));have hz1:=hB1.size;clear hB1 oF);refine hK.out _ _ (k31.cell) ?_;clear aH hK K;intro aH;refine aX 4 rfl fun K hK=>?_;(try simp only[zz]);(go_simp;refine(IC _ a _ (hV.o.bz HB1.o) h0).mono ?_;rintro e w2 ⟨G,g,rfl,oA,hB2⟩;have k32:=k31.nz hB2;have k62:=k61.nz hB2;have HB2:=bF HB1 hB2;have Oz:=ax (OF.o.bz hB2);have OA:=ax (oA.bq (base':=w.heap.size));have hz2:=hB2.size;clear hB2 oA);refine hK.out _ _ (k32.cell) ?_;clear aH hK K;intro aH;refine jh 5 ?_;have l62:=k62.lt;have q62:=k62.cell;have r62:=k62.frozen;refine aX 6 rfl fun K hK=>?_;(try simp only[zz]);go_simp;refine hK.out _ _ (((k32.fz (w.heap.size+1+1) 0 _).fz (w.heap.size+1+1) 1 _).cell) ?_;clear aH hK K;intro aH;refine jh 7 ?_;refine jP ?_;(go_wp2_with fail);have z6:=((k62.ag 0 (.slice F a.facts.length f)).ag 1 (.slice G (iI a).atoms.length g)).cell;refine bodyPost_ret (v:=.tuple #[.agg #[.slice F a.facts.length f,.slice G (iI a).atoms.length g],.bool true]) (by simp[results,Tryz.results106,go_sem,z6]) rfl ⟨_,by rw[E.o];rfl,?_,?_⟩
 ·rw[E.o];exact qo.some (aI.lJ (⟨_,_,rfl,Oz.o,OA.o⟩:aI w2 w.heap.size (.agg #[.slice F a.facts.length f,.slice G (iI a).atoms.length g]) (iI a)) k62 _ _)
 ·exact iq (iq HB2.o (w.heap.size+1+1) 0 _) (w.heap.size+1+1) 1 _
theorem xX{lo hi:Nat}(v:Value)(a:au)(k A B:Int)(t:aF)(X1 X2 X3 X4:Option Addr)(n1 n2 n3 n4 d1 d2 d3 d4 K0:Nat)(w:World)(h:eB w lo hi v a)(h0:0<a.atoms.length)(hl:a.facts.length<=1000/\a.atoms.length<=1000)(Cs:K0<512)(hA:k=2->jq A=true) :
  Calls Tryz.prog 106 #[v,.agg #[.int .i64 k,.int .i64 A,.int .i64 B,.bool t.eq,.int .i64 t.a,.int .i64 t.b,.slice X1 n1 d1,.slice X2 n2 d2,.slice X3 n3 d3,.slice X4 n4 d4],.int .u16 K0] w fun e w'=>∃r,e=.returned (.tuple #[r,.bool (gy k A B a K0).isSome])/\qo w' w.heap.size r (gy k A B a K0)/\Below w.heap.size w w':=by
 by_cases h2:k=2
 ·subst h2;exact Se v a A B t X1 X2 X3 X4 n1 n2 n3 n4 d1 d2 d3 d4 K0 w h h0 hl Cs (hA rfl)
 ·by_cases h3:k=3
  ·subst h3;exact Sf v a A B t X1 X2 X3 X4 n1 n2 n3 n4 d1 d2 d3 d4 K0 w h h0 hl Cs
  ·exact Sg v a k A B t X1 X2 X3 X4 n1 n2 n3 n4 d1 d2 d3 d4 K0 w h h0 hl Cs h2 h3
def wo(xs:List aL)(i k:Int):Nat->List aL
 | 0=>[]
 | j+1=>if (j:Int)=i\/(j:Int)=k then wo xs i k j else wo xs i k j++(xs[j]?).toList
theorem DF{xs:List aL}{i k:Int}{j:Nat}(h:(j:Int)=i\/(j:Int)=k):wo xs i k (j+1)=wo xs i k j:=by rw[wo,if_pos h]
theorem JV{xs:List aL}{i k:Int}{j:Nat}(hj:j<xs.length)(h1:¬(j:Int)=i)(h2:¬(j:Int)=k):wo xs i k (j+1)=wo xs i k j++[xs[j]]:=by
 rw[wo,if_neg (by omega),List.getElem?_eq_getElem hj];rfl
theorem Si{xs:List aL}{i:Nat}(hi:i<xs.length):wo xs i i xs.length=zv xs i:=by
 have key:∀j,j<=xs.length->wo xs i i j=if j<=i then xs.take j else xs.take i++(xs.drop (i+1)).take (j - (i+1)):=by
  intro j
  induction j with
  | zero=>intro _;simp[wo]
  | succ j ih=>
   intro hj;have h:=ih (by omega);by_cases e:j=i
   ·subst e;rw[DF (Or.inl rfl),h,if_pos bn,if_neg (by omega)];simp
   ·rw[JV (by omega) (by omega) (by omega),h];by_cases hlt:j<=i
    ·rw[if_pos hlt,if_pos (by omega),List.take_succ_eq_append_getElem (by omega)]
    ·rw[if_neg hlt,if_neg (by omega),List.append_assoc,show j+1 - (i+1)=(j - (i+1))+1 by omega];rw[List.take_succ_eq_append_getElem (by rw[length_drop];omega)];simp only[List.getElem_drop,show i+1+(j - (i+1))=j by omega]
 rw[key _ bn,if_neg (by omega)];unfold zv
 congr 1
 exact List.take_of_length_le (by rw[length_drop];omega)
theorem Lh{o:Oper}{a:Act}{K:Act->World->Prop}{Q:Exit->Act->World->Prop}{w:World}{base lo hi c:Nat}{v:Value}{A:Option Addr}(s x:Operand)(ho:o.op=.call { callee:=.builtin .append,args:=#[s,x],argTypes:=#[23,23] })
  {xs ys:List aF} (hs:a.eval s=v) (hown:ah w base v xs) (hx:a.eval x=.slice A ys.length c) (hR:aG w lo hi A ys) (hn:xs.length+ys.length<=1049600) (hb:base<=w.heap.size)
  (h:∀A' c' w',ah w' base (.slice A' (xs++ys).length c') (xs++ys)->w.grownBy w' v.ownBlock->Below base w w'->K (a.put o.dst (.slice A' (xs++ys).length c')) w'):Oper.wp Tryz.prog o a w K Q:=by
 refine uP s x 23 ho Tryz.underlying23 Jv rfl (by decide) (by decide) hs hown.1 hx hR.raw (ze _) hn hb ?_;intro v' w' h1 h2 h3;have hO:ah w' base v' (xs++ys):=⟨by rw[length_append,show iJ (xs++ys)=iJ xs++iJ ys from List.flatMap_append];exact h1,by simp[il];omega⟩;obtain⟨A',c',rfl,-⟩:=hO.rj;exact h A' c' w' hO h2 h3
theorem af.Vp(w:World)(x:aL){base:Nat}(hb:base<=w.heap.size):af (w.alloc (.cells #[.int .i64 x.kind,.int .i64 x.a,.int .i64 x.b] tA)) base (.slice (some ⟨w.heap.size,0,none⟩) 1 1) [x]:=
 ⟨ed (ae.new w _ _) hb rfl (by intro j hj;match j,hj with|0,_=>rfl|1,_=>rfl|2,_=>rfl) bn (by decide) rfl,by simp[il]⟩
theorem DI{lo hi:Nat}(v:Value)(a:au)(i k:Int)(x:aL)(w:World)(h:aM w lo hi v a)(hl1:a.facts.length<=1000)(hl2:a.atoms.length<=1000) :
  Calls Tryz.prog 153 #[v,.int .i64 i,.int .i64 k,.agg #[.int .i64 x.kind,.int .i64 x.a,.int .i64 x.b]] w fun e w'=>∃r,e=.returned r/\aI w' w.heap.size r ⟨a.facts,[x]++wo a.atoms i k a.atoms.length⟩/\Below w.heap.size w w':=by
 obtain⟨A1,c1,A2,c2,rfl,h1,h2⟩:=h;have H1:=ax h1;have H2:=ax h2;clear h1 h2;(go_enter Tryz.func153,Tryz.ntmps153);have k0:ae (((w.alloc (.cells #[.slice A1 a.facts.length c1,.slice A2 a.atoms.length c2] aC)).alloc (.cells #[.int .i64 x.kind,.int .i64 x.a,.int .i64 x.b] tA)).alloc (.cells #[.slice none 0 0,.slice none 0 0] aC)) w.heap.size aC #[.slice A1 a.facts.length c1,.slice A2 a.atoms.length c2]:=az;have k1:ae (((w.alloc (.cells #[.slice A1 a.facts.length c1,.slice A2 a.atoms.length c2] aC)).alloc (.cells #[.int .i64 x.kind,.int .i64 x.a,.int .i64 x.b] tA)).alloc (.cells #[.slice none 0 0,.slice none 0 0] aC)) (w.heap.size+1) tA #[.int .i64 x.kind,.int .i64 x.a,.int .i64 x.b]:=az;have kr:ae (((w.alloc (.cells #[.slice A1 a.facts.length c1,.slice A2 a.atoms.length c2] aC)).alloc (.cells #[.int .i64 x.kind,.int .i64 x.a,.int .i64 x.b] tA)).alloc (.cells #[.slice none 0 0,.slice none 0 0] aC)) (w.heap.size+2) aC #[.slice none 0 0,.slice none 0 0]:=az;have hB:Below w.heap.size w (((w.alloc (.cells #[.slice A1 a.facts.length c1,.slice A2 a.atoms.length c2] aC)).alloc (.cells #[.int .i64 x.kind,.int .i64 x.a,.int .i64 x.b] tA)).alloc (.cells #[.slice none 0 0,.slice none 0 0] aC)):=aj;(go_wp2_with fail);generalize (((w.alloc (.cells #[.slice A1 a.facts.length c1,.slice A2 a.atoms.length c2] aC)).alloc (.cells #[.int .i64 x.kind,.int .i64 x.a,.int .i64 x.b] tA)).alloc (.cells #[.slice none 0 0,.slice none 0 0] aC))=W at k0 k1 kr hB⊢;refine lS (S:=(fun w'=>(∀i,w'.cell? ⟨w.heap.size,i,none⟩=#[.slice A1 a.facts.length c1,.slice A2 a.atoms.length c2][i]?)/\(∀i,w'.cell? ⟨w.heap.size+1,i,none⟩=#[.int .i64 x.kind,.int .i64 x.a,.int .i64 x.b][i]?))) (⟨k0.drew.cell,k1.drew.cell⟩) fun aH=>?_;refine yU 1 2 4 ?_
 refine mQ [0,3,5,6,7] #[true,true,true,true,true,true,true,true,false] 5 (by kernel_rfl) aH
  (fun a0 D a1 w'=>aJ (Below w.heap.size w w'/\ae w' w.heap.size aC #[.slice A1 a.facts.length c1,.slice A2 a.atoms.length c2]/\ae w' (w.heap.size+1) tA #[.int .i64 x.kind,.int .i64 x.a,.int .i64 x.b]/\ae w' (w.heap.size+2) aC #[.slice none 0 0,.slice none 0 0])/\
   aJ ((dn D 3=true->dn D 0=true)/\(dn D 6=true->dn D 3=true/\dn D 5=true))/\
   ∃v11 v14 v16 v17 v9,a1=((((a0.put (some 11) v11).put (some 14) v14).put (some 16) v16).put (some 17) v17).put (some 9) v9/\
    aJ (dn D 0=true->dn D 3=false->(∃g,v11=.slice (some ⟨g,0,none⟩) 0 0)/\ah w' w.heap.size v11 [])/\
    aJ (dn D 3=true->(∃A c,v14=.slice A a.facts.length c)/\ah w' w.heap.size v14 a.facts)/\
    aJ (dn D 5=true->(∃g,v16=.slice (some ⟨g,0,none⟩) 1 1)/\af w' w.heap.size v16 [x])/\
    aJ (dn D 6=true->v17=.agg #[v14,v16])/\
    aJ (dn D 7=true->∃g,v9=.pointer (some ⟨g,0,none⟩)/\w.heap.size+2<g/\ae w' g aC #[.slice none 0 0,.slice none 0 0])) ?start ?steps ?fin
 case start=>
  refine⟨⟨hB.drew,k0.drew,k1.drew,kr.drew⟩,⟨fun h=>absurd h (by decide),fun h=>absurd h (by decide)⟩,undef,undef,undef,undef,undef,rfl,fun h=>absurd h (by decide),fun h=>absurd h (by decide),fun h=>absurd h (by decide),fun h=>absurd h (by decide),fun h=>absurd h (by decide)⟩
 case steps=>
  refine aV.cons rfl (fun D a1 w' hu hd hI hS K' hK G hG=>?_) (aV.cons rfl (fun D a1 w' hu hd hI hS K' hK G hG=>?_) (aV.cons rfl (fun D a1 w' hu hd hI hS K' hK G hG=>?_) (aV.cons rfl (fun D a1 w' hu hd hI hS K' hK G hG=>?_) (aV.cons rfl (fun D a1 w' hu hd hI hS K' hK G hG=>?_) aV.nil))))
  ·
   obtain⟨HW,HC,v11,v14,v16,v17,v9,ha,h0,h3,h5,h6,h7⟩:=hI;rw[ha] at hG;clear ha a1;have u0:=nJ hu;have u3:dn D 3=false:=by cases e:dn D 3;rfl;have:=HC.o.1 e;rw[u0] at this;cases this
   have HU:=ax u3;have U6:aJ (dn D 6=false):=by show _=_;cases e:dn D 6;rfl;have:=(HC.o.2 e).1;rw[u3] at this;cases this
   clear u0 u3;refine hG ?_;clear hG hd;(try simp only[zz]);go_simp;have hB2:Below w.heap.size w (w'.alloc (.cells #[] tF)):=HW.o.1.alloc HW.o.1.size _;have hBw:Below w'.heap.size w' (w'.alloc (.cells #[] tF)):=ai aU _;refine hK.out _ _ ⟨(HW.o.2.1.alloc _).cell,(HW.o.2.2.1.alloc _).cell⟩ ⟨⟨hB2,HW.o.2.1.alloc _,HW.o.2.2.1.alloc _,HW.o.2.2.2.alloc _⟩,⟨fun h=>?_,fun h=>?_⟩,.slice (some ⟨w'.heap.size,0,none⟩) 0 0,v14,v16,v17,v9,rfl,?_,?_,?_,?_,?_⟩
   ·exact jV hu
   ·rw[aT (by decide)] at h;rw[U6.o] at h;cases h
   ·exact fun _ _=>⟨⟨_,rfl⟩,(ah.empty w').bq HW.o.1.size⟩
   ·intro h;rw[aT (by decide)] at h;rw[HU.o] at h;cases h
   ·intro h;rw[aT (by decide)] at h;exact⟨(h5.o h).1,(h5.o h).2.bz hBw⟩
   ·intro h;rw[aT (by decide)] at h;rw[U6.o] at h;cases h
   ·intro h;rw[aT (by decide)] at h;obtain⟨g,e,hg,hk⟩:=h7.o h;exact⟨g,e,hg,hk.alloc _⟩
  ·
   obtain⟨HW,HC,v11,v14,v16,v17,v9,ha,h0,h3,h5,h6,h7⟩:=hI;rw[ha] at hG;clear ha a1;have u3:=nJ hu;have t0:dn D 0=true:=hd ⟨0,.data⟩ (by simp) (by decide);obtain⟨⟨y,rfl⟩,o⟩:=h0.o t0 u3;have HO:=ax o;have HU:=ax (And.intro u3 t0);have U6:aJ (dn D 6=false):=by show _=_;cases e:dn D 6;rfl;have:=(HC.o.2 e).1;rw[u3] at this;cases this
   clear u3 t0 o h0 hd;refine hG ?_;clear hG;(try simp only[zz]);rw[if_pos (by simp[Region.wanted])];refine Lh (base:=w.heap.size) (xs:=[]) (ys:=a.facts) _ _ rfl rfl HO.o rfl (H1.o.bz HW.o.1) (by simp;omega) HW.o.1.size ?_;intro A' c' w2 o2 hg2 hB2;simp only[nil_append] at o2⊢;refine hK.out _ _ ⟨(ae.zm (hg:=hg2) HW.o.2.1 HO.o.1 (by decide)).cell,(ae.zm (hg:=hg2) HW.o.2.2.1 HO.o.1 (by decide)).cell⟩ ⟨⟨HW.o.1.trans hB2,ae.zm (hg:=hg2) HW.o.2.1 HO.o.1 (by decide),ae.zm (hg:=hg2) HW.o.2.2.1 HO.o.1 (by decide),ae.zm (hg:=hg2) HW.o.2.2.2 HO.o.1 (by decide)⟩,⟨fun h=>?_,fun h=>?_⟩,.slice (some ⟨y,0,none⟩) 0 0,.slice A' a.facts.length c',v16,v17,v9,rfl,?_,?_,?_,?_,?_⟩
   ·rw[aT (by decide)];exact HU.o.2
   ·rw[aT (by decide)] at h;rw[U6.o] at h;cases h
   ·intro _ h;rw[jV hu] at h;cases h
   ·exact fun _=>⟨⟨A',c',rfl⟩,o2⟩
   ·intro h;rw[aT (by decide)] at h;exact⟨(h5.o h).1,af.lY (h5.o h).2 HO.o hg2⟩
   ·intro h;rw[aT (by decide)] at h;rw[U6.o] at h;cases h
   ·intro h;rw[aT (by decide)] at h;obtain⟨g,e,hg,hk⟩:=h7.o h;exact⟨g,e,hg,ae.zm (hg:=hg2) hk HO.o.1 (by decide)⟩
  ·
   obtain⟨HW,HC,v11,v14,v16,v17,v9,ha,h0,h3,h5,h6,h7⟩:=hI;rw[ha] at hG;clear ha a1;have u5:=nJ hu;have U6:aJ (dn D 6=false):=by show _=_;cases e:dn D 6;rfl;have:=(HC.o.2 e).2;rw[u5] at this;cases this
   clear u5;refine hG ?_;clear hG hd;(try simp only[zz]);go_simp;have hB2:Below w.heap.size w (w'.alloc (.cells #[.int .i64 x.kind,.int .i64 x.a,.int .i64 x.b] tA)):=HW.o.1.alloc HW.o.1.size _;have hBw:Below w'.heap.size w' (w'.alloc (.cells #[.int .i64 x.kind,.int .i64 x.a,.int .i64 x.b] tA)):=ai aU _;refine hK.out _ _ ⟨(HW.o.2.1.alloc _).cell,(HW.o.2.2.1.alloc _).cell⟩ ⟨⟨hB2,HW.o.2.1.alloc _,HW.o.2.2.1.alloc _,HW.o.2.2.2.alloc _⟩,⟨fun h=>?_,fun h=>?_⟩,v11,v14,.slice (some ⟨w'.heap.size,0,none⟩) 1 1,v17,v9,rfl,?_,?_,?_,?_,?_⟩
   ·rw[aT (by decide)] at h⊢;exact HC.o.1 h
   ·rw[aT (by decide)] at h;rw[U6.o] at h;cases h
   ·intro h h';rw[aT (by decide)] at h h';exact⟨(h0.o h h').1,(h0.o h h').2.bz hBw⟩
   ·intro h;rw[aT (by decide)] at h;exact⟨(h3.o h).1,(h3.o h).2.bz hBw⟩
   ·exact fun _=>⟨⟨_,rfl⟩,af.Vp w' x HW.o.1.size⟩
   ·intro h;rw[aT (by decide)] at h;rw[U6.o] at h;cases h
   ·intro h;rw[aT (by decide)] at h;obtain⟨g,e,hg,hk⟩:=h7.o h;exact⟨g,e,hg,hk.alloc _⟩
  ·
   obtain⟨HW,HC,v11,v14,v16,v17,v9,ha,h0,h3,h5,h6,h7⟩:=hI;rw[ha] at hG;clear ha a1;have t3:dn D 3=true:=hd ⟨3,.data⟩ (by simp) (by decide);have t5:dn D 5=true:=hd ⟨5,.data⟩ (by simp) (by decide);have HT2:=ax (And.intro t3 t5);obtain⟨⟨A,c,rfl⟩,o3⟩:=h3.o t3;obtain⟨⟨y,rfl⟩,o5⟩:=h5.o t5;have uT:=ax o3;have JE:=ax o5;clear t3 t5 hd o3 o5 h3 h5;refine hG ?_;clear hG;(try simp only[zz]);go_simp;refine hK.out _ _ hS ⟨HW.o,⟨fun h=>?_,fun h=>?_⟩,v11,.slice A a.facts.length c,.slice (some ⟨y,0,none⟩) 1 1,.agg #[.slice A a.facts.length c,.slice (some ⟨y,0,none⟩) 1 1],v9,rfl,?_,?_,?_,?_,?_⟩
   ·rw[aT (by decide)] at h⊢;exact HC.o.1 h
   ·rw[aT (by decide),aT (by decide)];exact HT2.o
   ·intro h h';rw[aT (by decide)] at h h';exact h0.o h h'
   ·exact fun _=>⟨⟨_,_,rfl⟩,uT.o⟩
   ·exact fun _=>⟨⟨_,rfl⟩,JE.o⟩
   ·exact fun _=>rfl
   ·intro h;rw[aT (by decide)] at h;exact h7.o h
  ·
   obtain⟨HW,HC,v11,v14,v16,v17,v9,ha,h0,h3,h5,h6,h7⟩:=hI;rw[ha] at hG;clear ha a1;refine hG ?_;clear hG hd;(try simp only[zz]);go_simp;have hB2:Below w.heap.size w (w'.alloc (.cells #[.slice none 0 0,.slice none 0 0] aC)):=HW.o.1.alloc HW.o.1.size _;have hBw:Below w'.heap.size w' (w'.alloc (.cells #[.slice none 0 0,.slice none 0 0] aC)):=ai aU _;have hlt:=HW.o.2.2.2.lt;refine hK.out _ _ ⟨(HW.o.2.1.alloc _).cell,(HW.o.2.2.1.alloc _).cell⟩ ⟨⟨hB2,HW.o.2.1.alloc _,HW.o.2.2.1.alloc _,HW.o.2.2.2.alloc _⟩,⟨fun h=>?_,fun h=>?_⟩,v11,v14,v16,v17,.pointer (some ⟨w'.heap.size,0,none⟩),rfl,?_,?_,?_,?_,?_⟩
   ·rw[aT (by decide)] at h⊢;exact HC.o.1 h
   ·rw[aT (by decide)] at h;rw[aT (by decide),aT (by decide)];exact HC.o.2 h
   ·intro h h';rw[aT (by decide)] at h h';exact⟨(h0.o h h').1,(h0.o h h').2.bz hBw⟩
   ·intro h;rw[aT (by decide)] at h;exact⟨(h3.o h).1,(h3.o h).2.bz hBw⟩
   ·intro h;rw[aT (by decide)] at h;exact⟨(h5.o h).1,(h5.o h).2.bz hBw⟩
   ·intro h;rw[aT (by decide)] at h;exact h6.o h
   ·exact fun _=>⟨_,rfl,hlt,ae.new _ _ _⟩
 case fin=>
  rintro a1 w4 aH ⟨HW,-,v11,v14,v16,v17,v9,rfl,-,h3,h5,h6,h7⟩;obtain rfl:=h6.o (by decide);obtain⟨⟨A,c,rfl⟩,o3⟩:=h3.o (by decide);obtain⟨⟨B,rfl⟩,o5⟩:=h5.o (by decide);obtain⟨g,rfl,hg,kg⟩:=h7.o (by decide);have uT:=ax o3;have JE:=ax o5;have QW:=HW.o.1;have k4:=HW.o.2.1;have k14:=HW.o.2.2.1;have Es:=HW.o.2.2.2;clear h3 h5 h6 h7 o3 o5 k0 k1 kr hB HW;(try simp only[zz]);(replace eZ:=k4.z;replace Pj:=Es.z;replace Xx:=kg.z);refine aX 8 rfl fun K hK=>?_;(try simp only[zz]);go_simp;refine hK.out _ _ (⟨((k4.fz g 0 _).fz g 1 _).cell,((k14.fz g 0 _).fz g 1 _).cell⟩) ?_;clear aH hK K;intro aH;refine jP ?_;have Zl:ae ((w4.setCell ⟨g,0,none⟩ (.slice A a.facts.length c)).setCell ⟨g,1,none⟩ (.slice (some ⟨B,0,none⟩) 1 1)) g aC #[.slice A a.facts.length c,.slice (some ⟨B,0,none⟩) 1 1]:=by simpa using (kg.ag 0 (.slice A a.facts.length c)).ag 1 (.slice (some ⟨B,0,none⟩) 1 1)
  have bW:Below w.heap.size w ((w4.setCell ⟨g,0,none⟩ (.slice A a.facts.length c)).setCell ⟨g,1,none⟩ (.slice (some ⟨B,0,none⟩) 1 1)):=iq (iq QW g 0 _) g 1 _;have k5:=(k4.fz g 0 (.slice A a.facts.length c)).fz g 1 (.slice (some ⟨B,0,none⟩) 1 1);have JC:=(Es.fz g 0 (.slice A a.facts.length c)).fz g 1 (.slice (some ⟨B,0,none⟩) 1 1);have Pm:=ax ((uT.o.aA kg (by decide) 0 (.slice A a.facts.length c)).aA (kg.ag 0 _) (by decide) 1 (.slice (some ⟨B,0,none⟩) 1 1));have Vq:=ax ((JE.o.aA kg (by decide) 0 (.slice A a.facts.length c)).aA (kg.ag 0 _) (by decide) 1 (.slice (some ⟨B,0,none⟩) 1 1));clear uT JE QW k4 k14 Es kg eZ Pj Xx;generalize ((w4.setCell ⟨g,0,none⟩ (.slice A a.facts.length c)).setCell ⟨g,1,none⟩ (.slice (some ⟨B,0,none⟩) 1 1))=w5 at Zl bW k5 JC Pm Vq⊢;have wm:=ax bW;clear bW;(go_wp2_with fail)
  go_loopw [10] (fun n wr=>∃(j:Nat) (xs:List aL) (A3:Option Addr) (c3:Nat),j<=a.atoms.length/\n=.int .i64 j/\xs.length<=j+1/\aJ (xs=[x]++wo a.atoms i k j)/\aJ (ah wr w.heap.size (.slice A a.facts.length c) a.facts)/\aJ (af wr w.heap.size (.slice A3 xs.length c3) xs)/\
   ae wr w.heap.size aC #[.slice A1 a.facts.length c1,.slice A2 a.atoms.length c2]/\ae wr (w.heap.size+2) aC #[.slice none 0 0,.slice none 0 0]/\ae wr g aC #[.slice A a.facts.length c,.slice A3 xs.length c3]/\aJ (Below w.heap.size w wr)) (fun n _=>a.atoms.length - (intOf n).toNat)
  case atStart=>exact⟨0,[x],some ⟨B,0,none⟩,1,dJ,rfl,bn,(by show _=_;rfl),Pm.o,Vq.o,k5,JC,Zl,wm.o⟩
  case round=>
   clear k5 JC Zl Pm Vq wm;obtain⟨j,xs,A3,c3,hj,rfl,hxl,Ue,HF,HA,k0,kr,kg,HB⟩:=hrel;(replace bT:=k0.z;replace uS:=kr.cell;replace EF:=kr.frozen;replace EG:=kr.lt;replace Xx:=kg.z);have hsz:=HB.o.size;by_cases hlt:j<a.atoms.length
   ·have HX:=ax (H2.o.bz HB.o);obtain⟨b,off,rfl,hbl⟩:=HX.o.blt hlt;have hji:(j:Int)<(a.atoms.length:Int):=by omega
    by_cases e1:(j:Int)=i
    ·have Ni:aJ (xs=[x]++wo a.atoms i k (j+1)):=ax (by rw[Ue.o,DF (Or.inl e1)]);have e1':((j:Int) != i)=false:=by simpa using e1
     clear e1;(go_wp2_with fail)
     go_round
     case rel=>exact⟨j+1,xs,A3,c3,by omega,by go_num,by omega,Ni,HF,HA,k0,kr,kg,HB⟩
     case measure=>simp[intOf];omega
    ·have e1':((j:Int) != i)=true:=by simpa using e1
     have K9:=ax e1;clear e1;by_cases e2:(j:Int)=k
     ·have Ni:aJ (xs=[x]++wo a.atoms i k (j+1)):=ax (by rw[Ue.o,DF (Or.inr e2)]);have e2':((j:Int) != k)=false:=by simpa using e2
      clear e2;(go_wp2_with fail)
      go_round
      case rel=>exact⟨j+1,xs,A3,c3,by omega,by go_num,by omega,Ni,HF,HA,k0,kr,kg,HB⟩
      case measure=>simp[intOf];omega
     ·have Ni:aJ (xs++[a.atoms[j]]=[x]++wo a.atoms i k (j+1)):=ax (by rw[Ue.o,JV hlt K9.o e2,List.append_assoc]);have e2':((j:Int) != k)=true:=by simpa using e2
      clear e2;go_wp2;refine wp_region_noPanic ?_;refine bQ (S:=(fun w'=>(∀i,w'.cell? ⟨g,i,none⟩=#[.slice A a.facts.length c,.slice A3 xs.length c3][i]?)/\(∀i,w'.cell? ⟨w.heap.size,i,none⟩=#[.slice A1 a.facts.length c1,.slice (some ⟨b,off,none⟩) a.atoms.length c2][i]?)/\w'.cell? ⟨b,off+j * 3,none⟩=some (.int .i64 a.atoms[j].kind)/\w'.cell? ⟨b,off+j * 3+1,none⟩=some (.int .i64 a.atoms[j].a)/\w'.cell? ⟨b,off+j * 3+2,none⟩=some (.int .i64 a.atoms[j].b))) (by simp) (by kernel_rfl) (by kernel_rfl) (⟨ae.cell az,ae.cell az,(aB.bz HX.o aj).cl hlt⟩) (fun aH=>?_);simp only[List.dropLast,List.getLast,gP,cons_append,nil_append,length_cons,length_nil,Nat.zero_add,Nat.reduceAdd];refine jQ 0 1 2 3 4 ?_;refine uM 5 6 ?_;refine aX 7 rfl fun K hK=>?_;(try simp only[zz]);go_simp;refine hK.out _ _ (⟨ae.cell az,ae.cell az,(aB.bz HX.o aj).cl hlt⟩) ?_;clear aH hK K;intro aH;(try simp only[zz]);have OD:Below w.heap.size w (wr.alloc (.cells #[.int .i64 a.atoms[j].kind,.int .i64 a.atoms[j].a,.int .i64 a.atoms[j].b] tA)).drew:=(Below.alloc HB.o hsz _).drew;have Um:=ax (HA.o.bz (((Below.refl wr.heap.size wr).alloc bn (.cells #[.int .i64 a.atoms[j].kind,.int .i64 a.atoms[j].a,.int .i64 a.atoms[j].b] tA)).drew));have HFX:=ax (HF.o.bz (((Below.refl wr.heap.size wr).alloc bn (.cells #[.int .i64 a.atoms[j].kind,.int .i64 a.atoms[j].a,.int .i64 a.atoms[j].b] tA)).drew));have kl:=(ae.new wr tA #[.int .i64 a.atoms[j].kind,.int .i64 a.atoms[j].a,.int .i64 a.atoms[j].b]).drew;have kgX:=(kg.alloc (.cells #[.int .i64 a.atoms[j].kind,.int .i64 a.atoms[j].a,.int .i64 a.atoms[j].b] tA)).drew;have k0X:=(k0.alloc (.cells #[.int .i64 a.atoms[j].kind,.int .i64 a.atoms[j].a,.int .i64 a.atoms[j].b] tA)).drew;have krX:=(kr.alloc (.cells #[.int .i64 a.atoms[j].kind,.int .i64 a.atoms[j].a,.int .i64 a.atoms[j].b] tA)).drew;clear kg k0 kr HA HF HX bT Xx uS EF EG;generalize (wr.alloc (.cells #[.int .i64 a.atoms[j].kind,.int .i64 a.atoms[j].a,.int .i64 a.atoms[j].b] tA)).drew=V at OD Um HFX kl kgX k0X krX aH⊢;have Zm:=OD.size;generalize wr.heap.size=L at kl⊢;clear hsz hbl HB;refine aX 8 rfl fun K hK=>?_;skip;(refine lW (base:=w.heap.size) (xs:=xs) (ys:=[a.atoms[j]]) rfl _ _ rfl rfl Um.o rfl (aB.qV kl) (by simp;omega) Zm ?_;intro A' d' w2 lQ hg2 hB3;have z2:=ae.zm (hg:=hg2) kgX Um.o.1 (by decide);have z0:=ae.zm (hg:=hg2) k0X Um.o.1 (by decide);have hBw2:Below w.heap.size w w2:=OD.trans hB3);refine hK.out _ _ (⟨z2.cell,z0.cell,(H2.o.bz hBw2).cl hlt⟩) ?_;clear aH hK K;intro aH;(try simp only[zz]);have rz2:=z2.frozen;have lz2:=z2.lt;refine jh 9 ?_;refine aX 10 rfl fun K hK=>?_;go_simp;refine hK.out _ _ (⟨z2.cell,z0.cell,(H2.o.bz hBw2).cl hlt⟩) (fun aH=>?_);clear hK K;refine wpAnyH_done (by kernel_rfl) ?_ _;unfold mi;go_simp;refine NoPanic.normal ?_;have zr:=ae.zm (hg:=hg2) krX Um.o.1 (by decide);(go_wp2_with fail);have Dl:=lQ.aA z2 (by decide) 1 (.slice A' (xs.length+1) d')
      go_round
      case rel=>exact⟨j+1,xs++[a.atoms[j]],A',d',by omega,by go_num,by simp;omega,Ni,(ah.jF HFX.o Um.o hg2).aA z2 (by decide) _ _,Dl,z0.far (by simp only[];omega) _,zr.far (by simp only[];omega) _,(by have:=z2.ag 1 (.slice A' (xs.length+1) d');simpa using this),iq hBw2 g 1 _⟩
      case measure=>simp[intOf];omega
   ·obtain rfl:j=a.atoms.length:=by omega
    have hne:g≠w.heap.size+2:=by omega
    go_wp2;refine bodyPost_ret (v:=.agg #[.slice A a.facts.length c,.slice A3 xs.length c3]) (by simp[results,Tryz.results153,go_sem,uS]) rfl ⟨_,rfl,⟨_,_,rfl,?_,?_⟩,?_⟩
    ·exact(HF.o.aA kr (by decide) 0 _).aA (kr.ag 0 _) (by decide) 1 _
    ·rw[Ue.o] at HA⊢;exact(HA.o.aA kr (by decide) 0 _).aA (kr.ag 0 _) (by decide) 1 _
    ·exact iq (iq HB.o (w.heap.size+2) 0 _) (w.heap.size+2) 1 _
end
section
open Go Go.RowKit Go.Proofs
end
section
open Go Go.RowKit Go.Proofs
attribute [local go_sem ↓] Go.wp_at_zero Go.wp_at_succ
theorem bX.QX{w:World}{base:Nat}{A:Option Addr}{n c k:Nat}{fs:List Bool}(h:bX w base (.slice A n c) fs)(hk:k<fs.length):∃g cur,n=fs.length/\A=some ⟨g,0,none⟩/\base<=g/\ae w g tB cur/\cur[k]? = some (.bool fs[k])/\
  (∀v:Bool,bX (w.setCell ⟨g,k,none⟩ (.bool v)) base (.slice A n c) (fs.set k v)):=by
 obtain⟨⟨hl,h2⟩,hL⟩:=h;rcases h2 with ⟨e,hn⟩|⟨g,cap,cur,e,hb,hh,hn,hm,hs,ht⟩
 ·omega
 ·injection e with e1 e2 e3;subst e1 e2 e3;have hK:ae w g tB cur:=hh
  have hP:Pre cur (dN fs) (fs.length * 1):=by
   intro j hj;rw[<-ht,List.getElem?_take,if_pos hj];simp
  refine⟨g,cur,rfl,rfl,hb,hK,(hP _ (by omega)).trans (by simp[List.getElem?_eq_getElem hk]),?_⟩;intro v;refine⟨?_,by rw[length_set];exact hL⟩;rw[show dN (fs.set k v)=(dN fs).set k (.bool v) from by simp[dN,List.map_set],length_set];exact ed (hK.ag k (.bool v)) hb (by rw[length_set,hl]) (hP.Hm k (.bool v) (by rw[hs];exact Nat.mul_le_mul hn bn) (by rw[hl];exact bn)) hn hm (by simpa using hs)
theorem ug{B:Nat}{w w':World}(h:Below B w w'){g:Nat}(hg:g<B){cs:Array Value}(hc:∀i,w.cell? ⟨g,i,none⟩=cs[i]?):∀i,w'.cell? ⟨g,i,none⟩=cs[i]?:=fun i=>(h.cell (p:=⟨g,i,none⟩) hg).trans (hc i)
theorem Aj{lo hi:Nat}(v:Value)(a:au)(f:aF)(w:World)(h:aM w lo hi v a) :
  Calls Tryz.prog 152 #[v,f.val] w fun e w'=>e=.returned (.bool (mF a f))/\Below w.heap.size w w':=by
 have hV:=ax h;obtain⟨A1,c1,A2,c2,rfl,h1,h2⟩:=h;have H1:=ax h1;have H2:=ax h2;have HE:aJ (mF a f=(a.valid&&f.valid&&(cases a (dP a (kG f))).all (aF.fits · f))):=ax rfl;obtain⟨fe,fa,fb⟩:=f;clear h1 h2;(go_enter Tryz.func152,Tryz.ntmps152);have k0:ae ((w.alloc (.cells #[.slice A1 a.facts.length c1,.slice A2 a.atoms.length c2] aC)).alloc (.cells #[.bool fe,.int .i64 fa,.int .i64 fb] tF)) w.heap.size aC #[.slice A1 a.facts.length c1,.slice A2 a.atoms.length c2]:=az;have k1:ae ((w.alloc (.cells #[.slice A1 a.facts.length c1,.slice A2 a.atoms.length c2] aC)).alloc (.cells #[.bool fe,.int .i64 fa,.int .i64 fb] tF)) (w.heap.size+1) tF #[.bool fe,.int .i64 fa,.int .i64 fb]:=az;have hB0:aJ (Below w.heap.size w ((w.alloc (.cells #[.slice A1 a.facts.length c1,.slice A2 a.atoms.length c2] aC)).alloc (.cells #[.bool fe,.int .i64 fa,.int .i64 fb] tF))):=ax aj;have hs0:((w.alloc (.cells #[.slice A1 a.facts.length c1,.slice A2 a.atoms.length c2] aC)).alloc (.cells #[.bool fe,.int .i64 fa,.int .i64 fb] tF)).heap.size=w.heap.size+2:=by simp
 (go_wp2_with fail);generalize ((w.alloc (.cells #[.slice A1 a.facts.length c1,.slice A2 a.atoms.length c2] aC)).alloc (.cells #[.bool fe,.int .i64 fa,.int .i64 fb] tF))=W at k0 k1 hB0 hs0⊢;refine(vz _ a _ (hV.o.bz hB0.o)).mono ?_;rintro e w1 ⟨rfl,hB1⟩;replace k0:=k0.nz hB1;replace k1:=k1.nz hB1;have hB:aJ (Below w.heap.size w w1):=bF hB0 hB1;have hz1:=hB1.size;clear hB1 hB0;(replace bT:=k0.z;replace fI:=k1.z);cases hv:a.valid
 ·go_wp2;go_ret;exact⟨dz (by rw[HE.o,hv];rfl),hB.o⟩
 have HV:=ax hv;clear hv;(go_wp2_with fail);refine(iY ⟨fe,fa,fb⟩ _).mono ?_;rintro e w2 ⟨rfl,hB2⟩;replace k0:=k0.nz hB2;replace k1:=k1.nz hB2;replace hB:aJ (Below w.heap.size w w2):=bF hB hB2;have hz2:=hB2.size;clear hB2 bT fI;(replace bT:=k0.z;replace fI:=k1.z);cases hf:aF.valid ⟨fe,fa,fb⟩
 ·go_wp2;go_ret;exact⟨dz (by rw[HE.o,hf];simp),hB.o⟩
 have Ui:=aF.dm hf;have QY:=ax (MP (f:=⟨fe,fa,fb⟩) HV.o hf);have HE2:aJ (mF a ⟨fe,fa,fb⟩=(gG ⟨a.facts++[aF.mk (!fe) fa fb],a.atoms⟩ ((aO (mz a)|||1 <<< fa.toNat)|||1 <<< fb.toNat) 8 opened).isEmpty):=ax (by rw[HE.o,HV.o,hf,QY.o];rfl)
 have yN:aJ (gz (a.facts++[aF.mk (!fe) fa fb])/\dM a.atoms):=ax ⟨fun g hg=>by
  rw[List.mem_append,List.mem_singleton] at hg;rcases hg with hg|rfl
  ·exact(au.dm HV.o).1 g hg
  ·exact Ui,(au.dm HV.o).2⟩
 have hvl:=tT HV.o;have Zn:aJ ((a.facts++[aF.mk (!fe) fa fb]).length<=40/\a.atoms.length<=6):=ax ⟨by simp;omega,hvl.2⟩;have hfl:a.facts.length+1<=1049600:=by omega
 clear hf QY HE hvl;simp only at Ui;obtain⟨⟨ha0,ha8⟩,hb0,G7⟩:=Ui;obtain⟨na,rfl⟩:∃n:Nat,fa=(n:Int):=⟨fa.toNat,by omega⟩;obtain⟨nb,rfl⟩:∃n:Nat,fb=(n:Int):=⟨fb.toNat,by omega⟩;have hna:na<9:=by omega
 have hnb:nb<9:=by omega
 have hnai:(na:Int)<9:=by omega
 have hnbi:(nb:Int)<9:=by omega
 have HT:=ax (jK HV.o);rw[show ((na:Int)).toNat=na from rfl,show ((nb:Int)).toNat=nb from rfl] at HE2;clear ha0 ha8 hb0 G7;(go_wp2_with fail);refine(dO _ a _ (hV.o.bz hB.o) HT.o).mono ?_;rintro e w3 ⟨r3,rfl,o3,hB3⟩;obtain⟨Tb,ct,rfl,-⟩:=o3.rj;rw[yD] at o3⊢;obtain⟨S0,hS0⟩:∃S0,S0=aO (mz a):=⟨_,rfl⟩;rw[<-hS0] at o3 HE2;replace k0:=k0.nz hB3;replace k1:=k1.nz hB3;replace hB:aJ (Below w.heap.size w w3):=bF hB hB3;have hz3:=hB3.size;clear hB3 hS0 bT fI HT;obtain⟨g,cur,-,rfl,hg,kg,hc,hset⟩:=o3.QX (k:=na) (by rw[yD];exact hna);have qg:=kg.cell na;rw[hc] at qg;have fg:=kg.frozen na;have lg:=kg.lt;have hg0:=k0.Bq kg (by decide);have hg1:=k1.Bq kg (by decide);have O4:=ax (hset true);have Un:w2.heap.size<=g:=hg;clear hset hc;(replace bT:=k0.z;replace fI:=k1.z);(go_upto_region 5 with fail);rw[rC] at O4;replace k0:=k0.far (p:=⟨g,na,none⟩) hg0 (.bool true);replace k1:=k1.far (p:=⟨g,na,none⟩) hg1 (.bool true);replace hB:aJ (Below w.heap.size w (w3.setCell ⟨g,na,none⟩ (.bool true))):=ax (iq hB.o g na _);have Dp:(w3.setCell ⟨g,na,none⟩ (.bool true)).heap.size=w3.heap.size:=by simp
 clear qg fg kg bT fI o3;generalize (w3.setCell ⟨g,na,none⟩ (.bool true))=W4 at k0 k1 hB Dp O4⊢;obtain⟨g',cur',-,eg,-,kg,hc,hset⟩:=O4.o.QX (k:=nb) (by rw[yD];exact hnb);injection eg with eg;injection eg with eg;subst eg;have qg:=kg.cell nb;rw[hc] at qg;have fg:=kg.frozen nb;have O5:=ax (hset true);clear hset hc;(replace bT:=k0.z;replace fI:=k1.z);(go_upto_region 6 with fail);rw[rC] at O5;obtain⟨S1,hS1⟩:∃S1,S1=(S0|||1 <<< na)|||1 <<< nb:=⟨_,rfl⟩;rw[<-hS1] at O5 HE2;replace k0:=k0.far (p:=⟨g,nb,none⟩) hg0 (.bool true);replace k1:=k1.far (p:=⟨g,nb,none⟩) hg1 (.bool true);replace hB:aJ (Below w.heap.size w (W4.setCell ⟨g,nb,none⟩ (.bool true))):=ax (iq hB.o g nb _);have PM:(W4.setCell ⟨g,nb,none⟩ (.bool true)).heap.size=W4.heap.size:=by simp
 clear qg fg kg bT fI O4 hS1;generalize (W4.setCell ⟨g,nb,none⟩ (.bool true))=W5 at k0 k1 hB PM O5⊢;have T5:=ax (O5.o.rj);clear O5;(replace bT:=k0.z;replace fI:=k1.z);(go_upto_region 7 with fail);have hbx:Below W5.heap.size W5 (W5.alloc (.cells #[.bool !fe,.int .i64 na,.int .i64 nb] tF)):=ai aU _;have kn:ae (W5.alloc (.cells #[.bool !fe,.int .i64 na,.int .i64 nb] tF)) W5.heap.size tF #[.bool !fe,.int .i64 na,.int .i64 nb]:=ae.new _ _ _;replace k0:=k0.nz hbx;have qY:=bF hB hbx;have FB:(W5.alloc (.cells #[.bool !fe,.int .i64 na,.int .i64 nb] tF)).heap.size=W5.heap.size+1:=by simp
 have T6:aJ (bB (W5.alloc (.cells #[.bool !fe,.int .i64 na,.int .i64 nb] tF)) w2.heap.size W5.heap.size (some ⟨g,0,none⟩) (zj S1)):=ax (by
  obtain⟨A,c,e,h⟩:=T5.o;injection e with e;subst e
  exact h.bz hbx)
 clear T5 hB hbx k1 bT fI;have h53:W5.heap.size=w3.heap.size:=by omega
 obtain⟨xn,Zo⟩:∃x,x=w3.heap.size:=⟨_,rfl⟩;rw[h53,<-Zo] at kn FB;rw[<-Zo];generalize (W5.alloc (.cells #[.bool !fe,.int .i64 na,.int .i64 nb] tF))=W6 at k0 kn qY FB T6⊢;have hln:xn<W6.heap.size:=by omega
 have hz56:W5.heap.size<=W6.heap.size:=by omega
 clear Zo h53 FB;have hl0:=k0.lt;have QZ:w.heap.size<=W6.heap.size:=qY.o.size;have Sj:=ax (fun(W:World) (hb:Below w.heap.size w W)=>(show aB W 0 (hi+W.heap.size) A2 a.atoms from(H2.o.bz hb).mono dJ (by omega)))
 go_cut [7,8] (fun s7 s8 wc=>s8=.bool (!(gG ⟨a.facts++[aF.mk (!fe) na nb],a.atoms⟩ S1 8 opened).isEmpty)/\aJ (Below w.heap.size w wc))
 case first=>
  go_wp2;refine lS (S:=(fun w'=>(∀i,w'.cell? ⟨w.heap.size,i,none⟩=#[.slice A1 a.facts.length c1,.slice A2 a.atoms.length c2][i]?)/\(∀i,w'.cell? ⟨xn,i,none⟩=#[.bool !fe,.int .i64 na,.int .i64 nb][i]?))) (⟨k0.cell,kn.cell⟩) fun aH=>?_;refine jQ 1 2 4 7 8 ?_;refine jh 10 ?_;refine wB 0 5 rfl rfl (fun K hK=>?_) fun K hK=>?_
  ·skip;(try simp only[zz]);go_simp;refine hK.out _ _ ⟨(ug (show Below W6.heap.size W6 _ from aj) (by omega) k0.cell),(ug (show Below W6.heap.size W6 _ from aj) (by omega) kn.cell)⟩ ?_;clear aH hK K;intro aH;have hE:aJ (ah (W6.drew.alloc (.cells #[] tF)) W6.heap.size (.slice (some ⟨W6.heap.size,0,none⟩) 0 0) []):=ax (ah.empty W6.drew);have PN:Below W6.heap.size W6 (W6.drew.alloc (.cells #[] tF)):=aj;have Uo:=ax (qY.o.trans (PN.mono QZ));have TE:=ax (T6.o.bz PN);have Xy:=k0.nz PN;have Xz:=kn.nz PN;have zE:(W6.drew.alloc (.cells #[] tF)).heap.size=W6.heap.size+1:=by simp
   refine wB 3 5 rfl rfl (fun K hK=>?_) fun K hK=>?_
   ·skip;refine jT (ys:=a.facts) (base:=W6.heap.size) rfl _ _ rfl rfl hE.o rfl (H1.o.bz (Uo.o)) (by simpa using Nat.le_of_succ_le hfl) (by first|omega|(simp;done)|(simp;omega)) ?_;intro A3 c3 JW o3 hg3 hB3;have Zp:=Xy.bz hB3 (by omega);have Zq:=Xz.bz hB3 (by omega);have Zr:=ax (Uo.o.trans (hB3.mono QZ));have Tc0:=ax (show bB JW w2.heap.size W5.heap.size (some ⟨g,0,none⟩) (zj S1) from Rd.keep TE.o fun b h1 h2=>hB3.block b (by omega));have Vr:=hg3.size;simp only[World.size_alloc,World.size_drew] at Vr;have O3:=ax o3;clear hg3 hB3 o3;refine hK.out _ _ ⟨Zp.cell,Zq.cell⟩ ?_;clear aH hK K;intro aH;refine aX 5 rfl fun K hK=>?_;(try simp only[zz]);go_simp;refine hK.out _ _ (⟨(ug (show Below JW.heap.size JW _ from aj) (by omega) Zp.cell),(ug (show Below JW.heap.size JW _ from aj) (by omega) Zq.cell)⟩) ?_;clear aH hK K;intro aH;(try simp only[zz]);have hbL:Below JW.heap.size JW (JW.alloc (.cells #[.bool !fe,.int .i64 na,.int .i64 nb] tF)):=ai aU _;have Sk:=Zp.nz hbL;have Sl:=Zq.nz hbL;have Vs:=bF Zr hbL;have Tc:=ax (Tc0.o.bz hbL);have OF:=ax (O3.o.bz hbL);have KL:ae (JW.alloc (.cells #[.bool !fe,.int .i64 na,.int .i64 nb] tF)) JW.heap.size tF #[.bool !fe,.int .i64 na,.int .i64 nb]:=ae.new _ _ _;clear hbL;refine aX 6 rfl fun K hK=>?_;skip;(refine jT (ys:=[aF.mk (!fe) na nb]) (base:=W6.heap.size) rfl _ _ rfl rfl OF.o rfl (aG.one (f:=aF.mk (!fe) na nb) KL) (by simpa using hfl) (by first|omega|(simp;done)|(simp;omega)) ?_;intro A6 c6 w6 o6 nG iA;have ka:=Sk.bz iA hl0;have kb:=Sl.bz iA hln;have yH:=ax (Vs.o.trans (iA.mono QZ));have T7:=ax (show bB w6 w2.heap.size W5.heap.size (some ⟨g,0,none⟩) (zj S1) from Rd.keep Tc.o fun b h1 h2=>iA.block b (by omega));have O6:=ax o6;have z6:=nG.size;clear o6 nG iA);refine hK.out _ _ (⟨ka.cell,kb.cell⟩) ?_;clear aH hK K;intro aH;refine jh 9 ?_;refine aX 11 rfl fun K hK=>?_;(try simp only[zz]);(go_simp;refine(lu _).mono ?_;rintro e w7 ⟨r7,rfl,o7,iB⟩;obtain⟨C7,d7,rfl,f7⟩:=o7.rj;have kc:=ka.nz iB;have kd:=kb.nz iB;have ru:=bF yH iB;have T8:=ax (T7.o.bz iB);have O8:=ax (O6.o.bz iB);have F8:=ax f7;have z7:=iB.size;clear iB o7 f7);refine hK.out _ _ (⟨kc.cell,kd.cell⟩) ?_;clear aH hK K;intro aH;refine aX 12 rfl fun K hK=>?_;(try simp only[zz]);(go_simp;have Q0:aM w7 0 (hi+w7.heap.size) (.agg #[.slice A6 (a.facts++[aF.mk (!fe) na nb]).length c6,.slice A2 a.atoms.length c2]) ⟨a.facts++[aF.mk (!fe) na nb],a.atoms⟩:=⟨_,_,_,_,rfl,O8.o.dG.2.mono dJ (by omega),(Sj.o _ ru.o)⟩;have hcall:=jB (a:=⟨a.facts++[aF.mk (!fe) na nb],a.atoms⟩) (S:=S1) (some ⟨g,0,none⟩) ct yN Zn 8 opened C7 d7 _ _ w7 (by omega) rfl (pY.2 _) pY.1 Q0 T8.o F8.o;simp only[length_append,length_cons,length_nil,Nat.zero_add] at hcall;refine hcall.mono ?_;rintro e w8 ⟨r8,rfl,o8,eQ⟩;have ke:=kc.nz eQ;have kf:=kd.nz eQ;have Ew:=bF ru eQ;clear eQ o8 hcall Q0);refine hK.out _ _ (⟨ke.cell,kf.cell⟩) ?_;clear aH hK K;intro aH;refine yU 13 14 15 ?_;refine aX 16 rfl fun K hK=>?_;(try simp only[zz]);go_simp;refine hK.out _ _ (⟨ke.cell,kf.cell⟩) ?_;clear aH hK K;intro aH;refine aX 17 rfl fun K hK=>?_;(try simp only[zz]);go_simp;refine hK.out _ _ (⟨ke.cell,kf.cell⟩) ?_;clear aH hK K;intro aH;refine jP ?_;(go_wp2_with fail);go_meet
    case rel=>exact⟨rfl,Ew⟩
   ·skip;(try simp only[zz]);go_simp;refine hK.out _ _ ⟨(ug (show Below W6.heap.size W6 _ from aj) (by omega) k0.cell),(ug (show Below W6.heap.size W6 _ from aj) (by omega) kn.cell)⟩ ?_;clear aH hK K;intro aH;have hbL:Below (W6.drew.alloc (.cells #[] tF)).heap.size (W6.drew.alloc (.cells #[] tF)) ((W6.drew.alloc (.cells #[] tF)).alloc (.cells #[.bool !fe,.int .i64 na,.int .i64 nb] tF)):=ai aU _;have kL:=ae.new (W6.drew.alloc (.cells #[] tF)) tF #[.bool !fe,.int .i64 na,.int .i64 nb];have kL0:=Xy.nz hbL;have kLn:=Xz.nz hbL;have RU:=bF Uo hbL;have TL:=ax (TE.o.bz hbL);have hL:=ax (hE.o.bz hbL);refine aX 3 rfl fun K hK=>?_;skip;(refine jT (ys:=a.facts) (base:=W6.heap.size) rfl _ _ rfl rfl hL.o rfl (H1.o.bz (RU.o)) (by simpa using Nat.le_of_succ_le hfl) (by first|omega|(simp;done)|(simp;omega)) ?_;intro A3 c3 JW o3 hg3 hB3;have Sk:=kL0.bz hB3 (by omega);have Sl:=kLn.bz hB3 (by omega);have Vs:=ax (RU.o.trans (hB3.mono QZ));have Tc:=ax (show bB JW w2.heap.size W5.heap.size (some ⟨g,0,none⟩) (zj S1) from Rd.keep TL.o fun b h1 h2=>hB3.block b (by omega));have KL:=kL.grown hg3 (fun e=>by have e2:(W6.drew.alloc (.cells #[] tF)).heap.size=W6.heap.size:=Option.some.inj e;simp only[World.size_alloc,World.size_drew] at e2;omega);have Vr:=hg3.size;have OF:=ax o3;clear hg3 hB3 o3);refine hK.out _ _ (⟨Sk.cell,Sl.cell⟩) ?_;clear aH hK K;intro aH;(try simp only[zz]);simp only[World.size_alloc,World.size_drew] at KL Vr;refine aX 6 rfl fun K hK=>?_;skip;(refine jT (ys:=[aF.mk (!fe) na nb]) (base:=W6.heap.size) rfl _ _ rfl rfl OF.o rfl (aG.one (f:=aF.mk (!fe) na nb) KL) (by simpa using hfl) (by first|omega|(simp;done)|(simp;omega)) ?_;intro A6 c6 w6 o6 nG iA;have ka:=Sk.bz iA hl0;have kb:=Sl.bz iA hln;have yH:=ax (Vs.o.trans (iA.mono QZ));have T7:=ax (show bB w6 w2.heap.size W5.heap.size (some ⟨g,0,none⟩) (zj S1) from Rd.keep Tc.o fun b h1 h2=>iA.block b (by omega));have O6:=ax o6;have z6:=nG.size;clear o6 nG iA);refine hK.out _ _ (⟨ka.cell,kb.cell⟩) ?_;clear aH hK K;intro aH;refine jh 9 ?_;refine aX 11 rfl fun K hK=>?_;(try simp only[zz]);(go_simp;refine(lu _).mono ?_;rintro e w7 ⟨r7,rfl,o7,iB⟩;obtain⟨C7,d7,rfl,f7⟩:=o7.rj;have kc:=ka.nz iB;have kd:=kb.nz iB;have ru:=bF yH iB;have T8:=ax (T7.o.bz iB);have O8:=ax (O6.o.bz iB);have F8:=ax f7;have z7:=iB.size;clear iB o7 f7);refine hK.out _ _ (⟨kc.cell,kd.cell⟩) ?_;clear aH hK K;intro aH;refine aX 12 rfl fun K hK=>?_;(try simp only[zz]);(go_simp;have Q0:aM w7 0 (hi+w7.heap.size) (.agg #[.slice A6 (a.facts++[aF.mk (!fe) na nb]).length c6,.slice A2 a.atoms.length c2]) ⟨a.facts++[aF.mk (!fe) na nb],a.atoms⟩:=⟨_,_,_,_,rfl,O8.o.dG.2.mono dJ (by omega),(Sj.o _ ru.o)⟩;have hcall:=jB (a:=⟨a.facts++[aF.mk (!fe) na nb],a.atoms⟩) (S:=S1) (some ⟨g,0,none⟩) ct yN Zn 8 opened C7 d7 _ _ w7 (by omega) rfl (pY.2 _) pY.1 Q0 T8.o F8.o;simp only[length_append,length_cons,length_nil,Nat.zero_add] at hcall;refine hcall.mono ?_;rintro e w8 ⟨r8,rfl,o8,eQ⟩;have ke:=kc.nz eQ;have kf:=kd.nz eQ;have Ew:=bF ru eQ;clear eQ o8 hcall Q0);refine hK.out _ _ (⟨ke.cell,kf.cell⟩) ?_;clear aH hK K;intro aH;refine yU 13 14 15 ?_;refine aX 16 rfl fun K hK=>?_;(try simp only[zz]);go_simp;refine hK.out _ _ (⟨ke.cell,kf.cell⟩) ?_;clear aH hK K;intro aH;refine aX 17 rfl fun K hK=>?_;(try simp only[zz]);go_simp;refine hK.out _ _ (⟨ke.cell,kf.cell⟩) ?_;clear aH hK K;intro aH;refine jP ?_;(go_wp2_with fail);go_meet
    case rel=>exact⟨rfl,Ew⟩
  ·skip;(try simp only[zz]);go_simp;refine hK.out _ _ ⟨(ug (show Below W6.heap.size W6 _ from aj) (by omega) k0.cell),(ug (show Below W6.heap.size W6 _ from aj) (by omega) kn.cell)⟩ ?_;clear aH hK K;intro aH;have kL:=ae.new W6.drew tF #[.bool !fe,.int .i64 na,.int .i64 nb];refine aX 0 rfl fun K hK=>?_;(try simp only[zz]);go_simp;refine hK.out _ _ (⟨(ug (show Below W6.heap.size W6 _ from aj) (by omega) k0.cell),(ug (show Below W6.heap.size W6 _ from aj) (by omega) kn.cell)⟩) ?_;clear aH hK K;intro aH;(try simp only[zz]);have PN:Below W6.heap.size W6 ((W6.drew.alloc (.cells #[.bool !fe,.int .i64 na,.int .i64 nb] tF)).alloc (.cells #[] tF)):=aj;have Xy:=k0.nz PN;have Xz:=kn.nz PN;have kL2:=kL.alloc (.cells #[] tF);have Uo:=ax (qY.o.trans (PN.mono QZ));have TE:=ax (T6.o.bz PN)
   have hE:aJ (ah ((W6.drew.alloc (.cells #[.bool !fe,.int .i64 na,.int .i64 nb] tF)).alloc (.cells #[] tF)) W6.heap.size (.slice (some ⟨W6.heap.size+1,0,none⟩) 0 0) []):=ax (by
    have:=(ah.empty (W6.drew.alloc (.cells #[.bool !fe,.int .i64 na,.int .i64 nb] tF))).bq (base':=W6.heap.size) (by simp)
    simpa using this)
   have zE:((W6.drew.alloc (.cells #[.bool !fe,.int .i64 na,.int .i64 nb] tF)).alloc (.cells #[] tF)).heap.size=W6.heap.size+2:=by simp
   refine aX 3 rfl fun K hK=>?_;skip;(refine jT (ys:=a.facts) (base:=W6.heap.size) rfl _ _ rfl rfl hE.o rfl (H1.o.bz (Uo.o)) (by simpa using Nat.le_of_succ_le hfl) (by first|omega|(simp;done)|(simp;omega)) ?_;intro A3 c3 JW o3 hg3 hB3;have Sk:=Xy.bz hB3 (by omega);have Sl:=Xz.bz hB3 (by omega);have Vs:=ax (Uo.o.trans (hB3.mono QZ));have Tc:=ax (show bB JW w2.heap.size W5.heap.size (some ⟨g,0,none⟩) (zj S1) from Rd.keep TE.o fun b h1 h2=>hB3.block b (by omega));have KL:=kL2.grown hg3 (fun e=>by have e2:W6.heap.size=W6.heap.size+1:=Option.some.inj e;omega);have Vr:=hg3.size;have OF:=ax o3;clear hg3 hB3 o3);refine hK.out _ _ (⟨Sk.cell,Sl.cell⟩) ?_;clear aH hK K;intro aH;(try simp only[zz]);simp only[World.size_alloc,World.size_drew] at Vr;simp only[World.size_drew] at KL;refine aX 6 rfl fun K hK=>?_;skip;(refine jT (ys:=[aF.mk (!fe) na nb]) (base:=W6.heap.size) rfl _ _ rfl rfl OF.o rfl (aG.one (f:=aF.mk (!fe) na nb) KL) (by simpa using hfl) (by first|omega|(simp;done)|(simp;omega)) ?_;intro A6 c6 w6 o6 nG iA;have ka:=Sk.bz iA hl0;have kb:=Sl.bz iA hln;have yH:=ax (Vs.o.trans (iA.mono QZ));have T7:=ax (show bB w6 w2.heap.size W5.heap.size (some ⟨g,0,none⟩) (zj S1) from Rd.keep Tc.o fun b h1 h2=>iA.block b (by omega));have O6:=ax o6;have z6:=nG.size;clear o6 nG iA);refine hK.out _ _ (⟨ka.cell,kb.cell⟩) ?_;clear aH hK K;intro aH;refine jh 9 ?_;refine aX 11 rfl fun K hK=>?_;(try simp only[zz]);(go_simp;refine(lu _).mono ?_;rintro e w7 ⟨r7,rfl,o7,iB⟩;obtain⟨C7,d7,rfl,f7⟩:=o7.rj;have kc:=ka.nz iB;have kd:=kb.nz iB;have ru:=bF yH iB;have T8:=ax (T7.o.bz iB);have O8:=ax (O6.o.bz iB);have F8:=ax f7;have z7:=iB.size;clear iB o7 f7);refine hK.out _ _ (⟨kc.cell,kd.cell⟩) ?_;clear aH hK K;intro aH;refine aX 12 rfl fun K hK=>?_;(try simp only[zz]);(go_simp;have Q0:aM w7 0 (hi+w7.heap.size) (.agg #[.slice A6 (a.facts++[aF.mk (!fe) na nb]).length c6,.slice A2 a.atoms.length c2]) ⟨a.facts++[aF.mk (!fe) na nb],a.atoms⟩:=⟨_,_,_,_,rfl,O8.o.dG.2.mono dJ (by omega),(Sj.o _ ru.o)⟩;have hcall:=jB (a:=⟨a.facts++[aF.mk (!fe) na nb],a.atoms⟩) (S:=S1) (some ⟨g,0,none⟩) ct yN Zn 8 opened C7 d7 _ _ w7 (by omega) rfl (pY.2 _) pY.1 Q0 T8.o F8.o;simp only[length_append,length_cons,length_nil,Nat.zero_add] at hcall;refine hcall.mono ?_;rintro e w8 ⟨r8,rfl,o8,eQ⟩;have ke:=kc.nz eQ;have kf:=kd.nz eQ;have Ew:=bF ru eQ;clear eQ o8 hcall Q0);refine hK.out _ _ (⟨ke.cell,kf.cell⟩) ?_;clear aH hK K;intro aH;refine yU 13 14 15 ?_;refine aX 16 rfl fun K hK=>?_;(try simp only[zz]);go_simp;refine hK.out _ _ (⟨ke.cell,kf.cell⟩) ?_;clear aH hK K;intro aH;refine aX 17 rfl fun K hK=>?_;(try simp only[zz]);go_simp;refine hK.out _ _ (⟨ke.cell,kf.cell⟩) ?_;clear aH hK K;intro aH;refine jP ?_;(go_wp2_with fail);go_meet
   case rel=>exact⟨rfl,Ew⟩
 case rest=>
  obtain⟨rfl,Ew⟩:=hcut;rw[<-HE2.o];go_wp2;go_ret;exact⟨dz (by simp),Ew.o⟩
theorem Am{lo hi:Nat}(v:Value)(a:au)(x y:Int)(w:World)(h:aM w lo hi v a):Calls Tryz.prog 140 #[v,.int .i64 x,.int .i64 y] w fun e w'=>e=.returned (.bool (mF a ⟨true,x,y⟩))/\Below w.heap.size w w':=by
 have hV:=ax h;obtain⟨A1,c1,A2,c2,rfl,-⟩:=h;(go_enter Tryz.func140,Tryz.ntmps140);(go_wp2_with fail);refine(Aj _ a ⟨true,x,y⟩ _ (hV.o.bz aj)).mono ?_;rintro e w1 ⟨rfl,hB1⟩;have hB:=aP (w:=w) aj hB1;go_wp2;go_ret;exact⟨rfl,hB⟩
theorem Ao{lo hi:Nat}(v:Value)(a:au)(x:aL)(i:Nat)(w:World)(h:aM w lo hi v a)(hv:a.valid=true)(hi':i<a.atoms.length) :
  Calls Tryz.prog 141 #[v,.agg #[.int .i64 x.kind,.int .i64 x.a,.int .i64 x.b],.int .i64 i] w fun e w'=>∃F d G g,e=.returned (.agg #[.slice F a.facts.length d,.slice G a.atoms.length g])/\aI w' w.heap.size (.agg #[.slice F a.facts.length d,.slice G a.atoms.length g]) ⟨a.facts,[x]++zv a.atoms i⟩/\Below w.heap.size w w':=by
 have hV:=ax h;obtain⟨A1,c1,A2,c2,rfl,-⟩:=h;have hvl:=tT hv;have hwl:([x]++zv a.atoms i).length=a.atoms.length:=by have:=ja hi';simp;omega
 have HW:=ax hwl;have HE:=ax (Si hi');clear hv hwl;(go_enter Tryz.func141,Tryz.ntmps141);have kr:ae (((w.alloc (.cells #[.slice A1 a.facts.length c1,.slice A2 a.atoms.length c2] aC)).alloc (.cells #[.int .i64 x.kind,.int .i64 x.a,.int .i64 x.b] tA)).alloc (.cells #[.slice none 0 0,.slice none 0 0] aC)) (w.heap.size+2) aC #[.slice none 0 0,.slice none 0 0]:=az;(go_wp2_with fail);refine(DI _ a i i x _ (hV.o.bz aj) (by omega) (by omega)).mono ?_;rw[HE.o];rintro e w1 ⟨r,rfl,o,hB1⟩;have hB:=aP (w:=w) aj hB1;replace kr:=kr.nz hB1;clear hB1;obtain⟨fv,av,rfl,o1,o2⟩:=o;obtain⟨F,d,rfl,-⟩:=o1.rj;obtain⟨G,g,rfl,-⟩:=o2.rj;simp only[HW.o] at o2⊢;have O1:=ax (o1.bq (base':=w.heap.size) (by simp;omega));have O2:=ax (o2.bq (base':=w.heap.size) (by simp;omega));clear o1 o2;(replace uS:=kr.cell;replace EF:=kr.frozen;replace EG:=kr.lt);go_wp2;refine bodyPost_ret (v:=.agg #[.slice F a.facts.length d,.slice G a.atoms.length g]) (by simp[results,Tryz.results141,go_sem,uS]) rfl ⟨F,d,G,g,rfl,⟨_,_,rfl,?_,?_⟩,aj⟩
 ·exact(O1.o.aA kr (by decide) 0 _).aA (kr.ag 0 _) (by decide) 1 _
 ·exact(O2.o.aA kr (by decide) 0 _).aA (kr.ag 0 _) (by decide) 1 _
theorem wT{lo hi:Nat}(v:Value)(a:au)(x t:Int)(w:World)(h:aM w lo hi v a)(hl:a.facts.length<=1000) :
  Calls Tryz.prog 138 #[v,.int .i64 x,.int .i64 t] w fun e w'=>∃F d G g,e=.returned (.agg #[.slice F (a.facts.length+1) d,.slice G a.atoms.length g])/\aI w' w.heap.size (.agg #[.slice F (a.facts.length+1) d,.slice G a.atoms.length g]) ⟨a.facts++[⟨true,x,t⟩],a.atoms⟩/\Below w.heap.size w w':=by
 have hV:=ax h;obtain⟨A1,c1,A2,c2,rfl,-⟩:=h;(go_enter Tryz.func138,Tryz.ntmps138);have kr:ae ((w.alloc (.cells #[.slice A1 a.facts.length c1,.slice A2 a.atoms.length c2] aC)).alloc (.cells #[.slice none 0 0,.slice none 0 0] aC)) (w.heap.size+1) aC #[.slice none 0 0,.slice none 0 0]:=az;(go_wp2_with fail);refine(oG _ a _ (hV.o.bz aj)).mono ?_;rintro e w1 ⟨r,rfl,o,hB1⟩;have hB:=aP (w:=w) aj hB1;replace kr:=kr.nz hB1;have hs1:w.heap.size+2<=w1.heap.size:=by have:=hB1.size;simp at this;omega
 clear hB1;obtain⟨fv,av,rfl,o1,o2⟩:=o;obtain⟨F,d,rfl,-⟩:=o1.rj;obtain⟨G,g,rfl,-⟩:=o2.rj;have O1:=ax (o1.bq (base':=w.heap.size) (by simp;omega));have O2:=ax (o2.bq (base':=w.heap.size) (by simp;omega));have HB:=ax hB;clear o1 o2 hB;(go_upto_region 2 with fail);have ko:ae (w1.alloc (.cells #[.slice F a.facts.length d,.slice G a.atoms.length g] aC)) w1.heap.size aC #[.slice F a.facts.length d,.slice G a.atoms.length g]:=ae.new _ _ _;replace kr:=kr.alloc (.cells #[.slice F a.facts.length d,.slice G a.atoms.length g] aC);replace O1:=ax (O1.o.bz (ai aU (.cells #[.slice F a.facts.length d,.slice G a.atoms.length g] aC)));replace O2:=ax (O2.o.bz (ai aU (.cells #[.slice F a.facts.length d,.slice G a.atoms.length g] aC)));replace HB:=ax (ai HB.o (.cells #[.slice F a.facts.length d,.slice G a.atoms.length g] aC));have hsw:w1.heap.size<(w1.alloc (.cells #[.slice F a.facts.length d,.slice G a.atoms.length g] aC)).heap.size:=by simp
 generalize (w1.alloc (.cells #[.slice F a.facts.length d,.slice G a.atoms.length g] aC))=W at ko kr O1 O2 HB hsw⊢;obtain⟨y,hy⟩:∃y,y=w1.heap.size:=⟨_,rfl⟩;rw[<-hy] at ko hs1 hsw⊢;clear hy;(replace Kz:=ko.z;replace uS:=kr.cell;replace EF:=kr.frozen;replace EG:=kr.lt);(go_wp2_with (at_builtin;refine gN (ys:=[⟨true,x,t⟩]) (base:=w.heap.size) rfl _ _ rfl rfl (O1.o.bz aj) rfl (aG.one (f:=⟨true,x,t⟩) (ae.new W tF _)) (by simp;omega) (by simp;omega) ?_;intro A6 c6 w6 o6 nG iA;have kO:=O1.o.bz (w':=W.alloc (.cells #[.bool true,.int .i64 x,.int .i64 t] tF)) aj;have Zs:=ae.zm (hg:=nG) (ko.alloc _) kO.1 (by decide);have Ma:=ae.zm (hg:=nG) (kr.alloc _) kO.1 (by decide);have O26:aJ (af w6 w.heap.size (.slice G a.atoms.length g) a.atoms):=ax ⟨ek (O2.o.bz (w':=W.alloc (.cells #[.bool true,.int .i64 x,.int .i64 t] tF)) aj).1 kO.1 nG (by decide),O2.o.2⟩;have qY:aJ (Below w.heap.size w w6):=ax ((ai HB.o _).trans iA);have Up:=ax o6;clear iA nG o6 kO Kz uS EF EG;(replace qko6:=Zs.z;replace Rv:=Ma.cell;replace rkr6:=Ma.frozen;replace lkr6:=Ma.lt)));simp only[length_append,length_cons,length_nil,Nat.zero_add] at Up⊢;refine bodyPost_ret (v:=.agg #[.slice A6 (a.facts.length+1) c6,.slice G a.atoms.length g]) (by simp[results,Tryz.results138,go_sem,Rv]) rfl ⟨A6,c6,G,g,rfl,⟨_,_,rfl,?_,?_⟩,?_⟩
 ·have Ou:=Ma.fz y 0 (.slice A6 (a.facts.length+1) c6);exact((Up.o.aA Zs (by decide) 0 _).aA Ou (by decide) 0 _).aA (Ou.ag 0 _) (by decide) 1 _
 ·have Ou:=Ma.fz y 0 (.slice A6 (a.facts.length+1) c6);exact((O26.o.aA Zs (by decide) 0 _).aA Ou (by decide) 0 _).aA (Ou.ag 0 _) (by decide) 1 _
 ·exact iq (iq (iq qY.o y 0 _) (w.heap.size+1) 0 _) (w.heap.size+1) 1 _
theorem FC{lo hi bJ hi':Nat}(v:Value)(a:au)(B:Option Addr)(c K:Nat)(w:World)(h:aM w lo hi v a)(h':bB w bJ hi' B (zj K))(hv:a.valid=true) :
  Calls Tryz.prog 151 #[v,.slice B 9 c] w fun e w'=>e=.returned (.tuple #[.int .i64 (gX (aO (mz a)|||K)),.bool (kC (aO (mz a)|||K)).isSome])/\Below w.heap.size w w':=by
 have hV:=ax h;have HT:=ax (jK hv);have h'':=ax h';obtain⟨pb,ob,rfl,TW⟩:=iN h';obtain⟨A1,c1,A2,c2,rfl,h1,h2⟩:=h;clear hv h1 h2;(go_enter Tryz.func151,Tryz.ntmps151);(go_wp2_with fail);refine(dO _ a _ (hV.o.bz aj) HT.o).mono ?_;rintro e w1 ⟨r,rfl,oT,hB1⟩;have hB:=aP (w:=w) aj hB1;have fC:=h''.o.bz hB;generalize hTe:aO (mz a)=T at oT;have HTE:=ax hTe;clear hTe;obtain⟨Tb,ct,rfl,fT⟩:=oT.rj;rw[yD];obtain⟨pt,ot,rfl,lpt⟩:=iN fT;clear hB1 oT h' h'';(go_wp2_with fail)
 go_loop [7] (fun i=>∃k:Nat,5<=k/\k<=9/\i=.int .i64 k/\aJ (∀j,5<=j->j<k->(T|||K).testBit j=true)) (fun i=>10 - (intOf i).toNat)
 case atStart=>exact⟨5,by omega,by omega,rfl,ax fun j h1 h2=>by omega⟩
 case round=>
  obtain⟨k,h5,h9,rfl,HA⟩:=hrel;by_cases hlt:k<9
  ·have hki:(k:Int)<=8:=by omega
   have f1:=iM fT (m:=k) (by omega);have f2:=iM fC (m:=k) (by omega);have k9:(k:Int)<9:=by omega
   have Li:aJ ((T|||K).testBit k=(T.testBit k || K.testBit k)):=ax (Nat.testBit_or ..)
   have HN:aJ ((T|||K).testBit k=true->∀j,5<=j->j<k+1->(T|||K).testBit j=true):=ax fun hb j h1 h2=>by
    by_cases e:j=k
    ·rw[e];exact hb
    ·exact HA.o j h1 (by omega)
   cases ht:T.testBit k
   ·cases hc:K.testBit k
    ·have E:=ax (E8 h5 (by omega) HA.o (by rw[Li.o,ht,hc];rfl));rw[ht] at f1;rw[hc] at f2;clear ht hc HA HN Li;go_wp2;go_ret2;exact⟨by unfold gX;rw[HTE.o,E.o];rfl,hB⟩
    ·have OH:=ax (HN.o (by rw[Li.o,ht,hc];rfl));rw[ht] at f1;rw[hc] at f2;clear ht hc HA HN Li;(go_wp2_with fail)
     go_round
     case rel=>exact⟨k+1,by omega,by omega,by go_num,OH⟩
     case measure=>simp[intOf];omega
   ·have OH:=ax (HN.o (by rw[Li.o,ht];rfl));rw[ht] at f1;clear ht HA HN Li;(go_wp2_with fail)
    go_round
    case rel=>exact⟨k+1,by omega,by omega,by go_num,OH⟩
    case measure=>simp[intOf];omega
  ·obtain rfl:k=9:=by omega
   have E:=ax (JO (S:=T|||K) fun j h1 h2=>HA.o j h1 (by omega));go_wp2;go_ret2;exact⟨by unfold gX;rw[HTE.o,E.o];rfl,hB⟩
theorem aI.parts{w:World}{b:Nat}{f g:Value}{a:au}(h:aI w b (.agg #[f,g]) a):ah w b f a.facts/\af w b g a.atoms:=by
 obtain⟨_,_,e,h1,h2⟩:=h;injection e with e;injection e with e;injection e with e1 e2;injection e2 with e2 e3;subst e1 e2;exact⟨h1,h2⟩
section
variable{ops:Array Oper}{o:Oper}{a:Act}{K:Act->World->Prop}{Q:Exit->Act->World->Prop}{E:Prop}{w:World}{base lo hi c n m:Nat}{v:Value}{A:Option Addr}
theorem JX(hgd:o.guard=none)(s x:Operand)(ho:o.op=.call { callee:=.builtin .append,args:=#[s,x],argTypes:=#[24,24] })
  {xs ys zs:List aL} (hs:a.eval s=v) (hown:af w base v xs) (hx:a.eval x=.slice A m c) (hm:m=ys.length) (hR:aB w lo hi A ys) (hz:zs=xs++ys) (hn:n=zs.length) (hl:n<=1049600) (hb:base<=w.heap.size)
  (h:∀A' c' w',af w' base (.slice A' n c') zs->w.grownBy w' v.ownBlock->Below base w w'->K (a.put o.dst (.slice A' n c')) w'):if Region.wanted o (yielded ops a.tmps)=true then Oper.wp Tryz.prog o a w K Q else E:=by
 subst hm hz hn;refine lW hgd s x ho hs hown hx hR (by rwa [length_append] at hl) hb h
end
def OpC(n:Nat)(a:au)(t:Int)(K:Nat):Prop:=∀(lo hi bJ hi':Nat) (v:Value) (B:Option Addr) (c:Nat) (w:World),eB w lo hi v a->bB w bJ hi' B (zj (aQ K t))->a.facts.length<=1000->a.atoms.length<=1000->
 Calls Tryz.prog 110 #[v,.int .i64 t,.slice B 9 c,.int .i64 (n:Int)] w fun e w'=>∃r vs l,e=.returned (.tuple #[r,.bool (aR n a t K).isSome])/\bg w' w.heap.size r vs l/\l.length<=2 ^ n/\(aR n a t K=none\/aR n a t K=some l)/\Below w.heap.size w w'
def UnC(n:Nat)(a:au)(x:aL)(i:Nat)(t:Int)(K:Nat):Prop:=∀(lo hi bJ hi':Nat) (v:Value) (B:Option Addr) (c:Nat) (w:World),eB w lo hi v a->bB w bJ hi' B (zj (aQ K t))->
 Calls Tryz.prog 142 #[v,.int .i64 t,.slice B 9 c,.int .i64 ((n:Int)+1),.int .i64 i] w fun e w'=>∃r vs l,e=.returned (.tuple #[r,.bool (je n a x i t K).isSome])/\bg w' w.heap.size r vs l/\l.length<=2 ^ (n+1)/\(je n a x i t K=none\/je n a x i t K=some l)/\Below w.heap.size w w'
theorem FD(n:Nat)(a:au)(x:aL)(i:Nat)(t:Int)(Ks:Nat)(hv:a.valid=true)(hx:a.atoms[i]? = some x)(hn:n<=6)
  (HE:OpC n (eD a x i) t Ks) (HF:∀m:Nat,OpC n (dQ a x i (m:Int)) t Ks):UnC n a x i t Ks:=by
 intro lo hi0 bJ hi' v B cB w h hB0;have hV:=ax h;have PO:=ax hB0;obtain⟨A1,c1,A2,c2,rfl,h1,h2,hcap⟩:=h;have hvl:=tT hv;have Sb:=ax hv;obtain⟨hi,hxe⟩:=List.getElem?_eq_some_iff.1 hx;have hwl:=ja hi;obtain⟨b,o,rfl,-⟩:=h2.at hi;have OK:=ax h2;have hii:(i:Int)<(a.atoms.length:Int):=by omega
 have hw:IntKind.i64.wrap ((i:Int)+1)=(i:Int)+1:=IntWalk.i64_in _ (by omega);have hs1:=JP b o a.atoms.length c2 i (by omega);obtain⟨A',hs2,hA'⟩:=Dq b o a.atoms.length c2 (i+1) (by omega) hcap
 push_cast at hs2
 have hT:=ax (h2.QN (k:=i) (by omega))
 have hD:aJ (aB w lo _ A' (a.atoms.drop (i+1))):=ax (by
  by_cases hlt:i+1<a.atoms.length
  ·rw[hA' (by omega)];exact h2.MQ (by omega)
  ·rw[List.drop_eq_nil_of_le (by omega)]
   exact Rd.nil _ _ _ _ _)
 have HL1:aJ ((a.atoms.take i).length=i):=ax (by rw[List.length_take];omega);have HL2:aJ ((a.atoms.drop (i+1)).length=a.atoms.length - (i+1)):=ax length_drop;have HHi:=ax hi;have Y0:=ax HE;have Y1:=ax HF;have HN:=ax (Nat.pow_le_pow_right (show 0<2 from by decide) hn);have HX:=ax hxe;clear h1 h2 HE HF hx hv hB0 hA' hxe;(go_enter Tryz.func142,Tryz.ntmps142);have k0:ae (w.alloc (.cells #[.slice A1 a.facts.length c1,.slice (some ⟨b,o,none⟩) a.atoms.length c2] aC)) w.heap.size aC #[.slice A1 a.facts.length c1,.slice (some ⟨b,o,none⟩) a.atoms.length c2]:=az;have Zt:=ax hs1;have Zu:=ax hs2;have hw':=ax hw;clear hs1 hs2 hw;(go_wp2_with fail);refine(FC _ a B cB (aQ Ks t) _ (hV.o.V.bz aj) (PO.o.bz aj) Sb.o).mono ?_;rintro e w1 ⟨rfl,hB1⟩;have HB:=ax (aP (w:=w) aj hB1);replace k0:=k0.nz hB1;have hz1:w.heap.size+1<=w1.heap.size:=by have:=hB1.size;simp at this;omega
 clear hB1;cases hnt:kC (aO (mz a)|||aQ Ks t)
 case none=>
  have E:=ax (Cn (n:=n) (x:=x) (i:=i) hnt);clear hnt;go_wp2;go_ret2;exact⟨_,[],[],by rw[E.o];rfl,(bg.empty w1 rfl).bq,dJ,.inl E.o,ai HB.o _⟩
 case some m=>
  have EI:gX (aO (mz a)|||aQ Ks t)=(m:Int):=by unfold gX;rw[hnt]
  rw[EI];clear EI;have Oy:=ax hnt;clear hnt;(replace bT:=k0.z);obtain⟨b',o',Zv,g0,g1,g2⟩:=(OK.o.bz HB.o).at HHi.o;injection Zv with Zv;injection Zv with hb1 hb2;subst hb1 hb2;rw[HX.o] at g0 g1 g2;(go_upto_region 5 with fail);clear bT g0 g1 g2;have hbq:=ai (Below.refl w1.heap.size w1) (.cells #[.int .i64 x.kind,.int .i64 x.a,.int .i64 x.b] tA);have kx:ae (w1.alloc (.cells #[.int .i64 x.kind,.int .i64 x.a,.int .i64 x.b] tA)) w1.heap.size tA #[.int .i64 x.kind,.int .i64 x.a,.int .i64 x.b]:=ae.new _ _ _;replace k0:=k0.nz hbq;replace HB:=bF HB hbq;have JM:(w1.alloc (.cells #[.int .i64 x.kind,.int .i64 x.a,.int .i64 x.b] tA)).heap.size=w1.heap.size+1:=by simp
  clear hbq;generalize w1.alloc (.cells #[.int .i64 x.kind,.int .i64 x.a,.int .i64 x.b] tA)=W1 at k0 kx HB JM⊢;obtain⟨yx,hyx⟩:∃y,y=w1.heap.size:=⟨_,rfl⟩;rw[<-hyx] at kx JM⊢;have Y9:w.heap.size<yx:=by omega
  clear hyx hz1;(replace bT:=k0.z);(go_wp2_with fail);refine(oG _ a _ (hV.o.V.bz HB.o)).mono ?_;rintro e w2 ⟨r,rfl,oc,hB2⟩;obtain⟨fv,av,rfl,o1,o2⟩:=oc;obtain⟨F,d,rfl,-⟩:=o1.rj;obtain⟨G,g,rfl,-⟩:=o2.rj;have O1:=ax (o1.bq (base':=w.heap.size));clear o1 o2;replace k0:=k0.nz hB2;replace kx:=kx.nz hB2;replace HB:=bF HB hB2;have hz2:=hB2.size;clear hB2 bT;(go_upto_region 6 with fail);have hbq:=ai (Below.refl w2.heap.size w2) (.cells #[.slice F a.facts.length d,.slice G a.atoms.length g] aC);have kE:ae (w2.alloc (.cells #[.slice F a.facts.length d,.slice G a.atoms.length g] aC)) w2.heap.size aC #[.slice F a.facts.length d,.slice G a.atoms.length g]:=ae.new _ _ _;replace k0:=k0.nz hbq;replace kx:=kx.nz hbq;replace O1:=ax (O1.o.bz hbq);replace HB:=bF HB hbq;have hz3:(w2.alloc (.cells #[.slice F a.facts.length d,.slice G a.atoms.length g] aC)).heap.size=w2.heap.size+1:=by simp
  clear hbq;generalize (w2.alloc (.cells #[.slice F a.facts.length d,.slice G a.atoms.length g] aC))=W2 at k0 kx kE O1 HB hz3⊢;obtain⟨yE,Vd⟩:∃y,y=w2.heap.size:=⟨_,rfl⟩;rw[<-Vd] at kE hz3⊢;have hyE2:yx<yE:=by omega
  have hyE3:yE<W2.heap.size:=by omega
  clear Vd hz2 JM hz3;(replace qkE:=kE.z;replace uk:=kx.z);(go_upto_region 7 with (at_builtin;refine gN (ys:=[⟨true,x.a,x.b⟩]) (base:=w.heap.size) rfl _ _ rfl rfl (O1.o.bz aj) rfl (aG.one (f:=⟨true,x.a,x.b⟩) (ae.new W2 tF _)) (by simp<;>omega) (by simp<;>omega) ?_;intro A6 c6 w6 o6 nG iA;have kO:=O1.o.bz (w':=W2.alloc (.cells #[.bool true,.int .i64 x.a,.int .i64 x.b] tF)) aj;have XB:=ae.zm (hg:=nG) (kE.alloc _) kO.1 (by decide);have k06:=ae.zm (hg:=nG) (k0.alloc _) kO.1 (by decide);have TT:=ae.zm (hg:=nG) (kx.alloc _) kO.1 (by decide);have qY:aJ (Below w.heap.size w w6):=ax ((ai HB.o _).trans iA);have Up:=ax o6;have FB:W2.heap.size+1<=w6.heap.size:=(by have:=nG.size;simp at this;omega);clear iA nG o6 kO qkE uk;(replace Zw:=XB.z)));simp only[length_append,length_cons,length_nil,Nat.zero_add] at Up⊢
  have XC:ae (w6.setCell ⟨yE,0,none⟩ (.slice A6 (a.facts.length+1) c6)) yE aC #[.slice A6 (a.facts.length+1) c6,.slice G a.atoms.length g]:=by
   have:=XB.ag 0 (.slice A6 (a.facts.length+1) c6);simpa using this
  have k07:=k06.fz yE 0 (.slice A6 (a.facts.length+1) c6);have Zx:=TT.fz yE 0 (.slice A6 (a.facts.length+1) c6);have Zy:=ax (Up.o.aA XB (by decide) 0 (.slice A6 (a.facts.length+1) c6));have yH:=ax (iq qY.o yE 0 (.slice A6 (a.facts.length+1) c6));have U5:W2.heap.size+1<=(w6.setCell ⟨yE,0,none⟩ (.slice A6 (a.facts.length+1) c6)).heap.size:=by simpa using FB
  clear k0 kx kE O1 HB XB k06 TT Up qY FB Zw;generalize (w6.setCell ⟨yE,0,none⟩ (.slice A6 (a.facts.length+1) c6))=W7 at XC k07 Zx Zy yH U5⊢;clear w6;have hs1:=Zt.o;have hs2:=Zu.o;have hw:=hw'.o;(replace Zz:=k07.z;replace ZA:=XC.z);(go_wp2_with fail);clear Zz;refine lS (S:=(fun w'=>∀i,w'.cell? ⟨w.heap.size,i,none⟩=#[.slice A1 a.facts.length c1,.slice (some ⟨b,o,none⟩) a.atoms.length c2][i]?)) (k07.drew.cell) fun aH=>?_;have kH:aJ (Below W7.heap.size W7 W7.drew):=ax aU.drew;have df:W7.heap.size<=W7.drew.heap.size:=bn;clear ZA;generalize W7.drew=wq at kH df aH⊢;refine jQ 1 2 3 4 6 ?_;refine O7 7 8 9 10 ?_;clear hs1 hs2 hw;refine aX 0 rfl fun K hK=>?_;(try simp only[zz]);go_simp;refine hK.out _ _ (((k07.nz kH.o).alloc _).cell) ?_;clear aH hK K;intro aH;(try simp only[zz]);have ZB:aJ (af (wq.alloc (.cells #[] tA)) W7.heap.size (.slice (some ⟨wq.heap.size,0,none⟩) 0 0) []):=ax ((af.empty wq).bq df);replace kH:=ax (kH.o.alloc df (.cells #[] tA));have PQ:W7.heap.size<=(wq.alloc (.cells #[] tA)).heap.size:=by simp;omega
  generalize wq.alloc (.cells #[] tA)=wz at kH ZB PQ aH⊢;refine aX 5 rfl fun K hK=>?_;skip;(refine JX (base:=W7.heap.size) (n:=i) (zs:=a.atoms.take i) rfl _ _ rfl rfl ZB.o rfl HL1.o.symm (hT.o.bz (aP yH.o kH.o)) rfl HL1.o.symm (by omega) PQ ?_;intro A8 c8 w8 o8 Ey eQ;replace kH:=ax (kH.o.trans eQ);have Ul:=ax o8;have Sm:=Nat.le_trans PQ eQ.size;clear o8 Ey eQ ZB);refine hK.out _ _ ((k07.nz kH.o).cell) ?_;clear aH hK K;intro aH;(try simp only[zz]);refine aX 11 rfl fun K hK=>?_;skip;(refine JX (base:=W7.heap.size) (n:=a.atoms.length - 1) (zs:=zv a.atoms i) rfl _ _ rfl rfl Ul.o rfl HL2.o.symm (hD.o.bz (aP yH.o kH.o)) rfl (by omega) (by omega) Sm ?_;intro A9 c9 w9 o9 hg9 Ev;replace kH:=ax (kH.o.trans Ev);have OA2:=ax o9;have ZC:=Nat.le_trans Sm Ev.size;clear o9 hg9 Ev Ul);refine hK.out _ _ ((k07.nz kH.o).cell) ?_;clear aH hK K;intro aH;refine jh 12 ?_;have Sn:=XC.nz kH.o;have ZD:=Sn.cell;have ZE:=Sn.frozen;have ZF:=Sn.lt;refine aX 13 rfl fun K hK=>?_;(try simp only[zz]);go_simp;refine hK.out _ _ (((k07.nz kH.o).fz yE 1 _).cell) ?_;clear aH hK K;intro aH;refine jP ?_;clear ZD ZE ZF aH
  have PR:ae (w9.setCell ⟨yE,1,none⟩ (.slice A9 (a.atoms.length - 1) c9)) yE aC #[.slice A6 (a.facts.length+1) c6,.slice A9 (a.atoms.length - 1) c9]:=by
   have:=Sn.ag 1 (.slice A9 (a.atoms.length - 1) c9);simpa using this
  have k010:=(k07.nz kH.o).fz yE 1 (.slice A9 (a.atoms.length - 1) c9);have Nj:=(Zx.nz kH.o).fz yE 1 (.slice A9 (a.atoms.length - 1) c9);have ZG:=ax ((Zy.o.bz kH.o).aA Sn (by decide) 1 (.slice A9 (a.atoms.length - 1) c9));have ZH:=ax ((OA2.o.bq (base':=w.heap.size) yH.o.size).aA Sn (by decide) 1 (.slice A9 (a.atoms.length - 1) c9));have BK:=ax (iq (aP yH.o kH.o) yE 1 (.slice A9 (a.atoms.length - 1) c9));have Vt:yE<(w9.setCell ⟨yE,1,none⟩ (.slice A9 (a.atoms.length - 1) c9)).heap.size:=PR.lt;clear k07 Zx XC Zy yH U5 kH OA2 Sn df PQ Sm ZC;generalize (w9.setCell ⟨yE,1,none⟩ (.slice A9 (a.atoms.length - 1) c9))=W8 at PR k010 Nj ZG ZH BK Vt⊢;(replace Vu:=k010.z;replace Vv:=Nj.z);(go_wp2_with fail);refine(Ao _ a ⟨1,x.a,(m:Int)⟩ i _ (hV.o.V.bz BK.o) Sb.o HHi.o).mono ?_;rintro e w11 ⟨F2,d2,G2,g2,rfl,oF,Sq⟩;have Uq:=ax oF;have Lj:=ax Sq;have Vw:=Sq.size;clear oF Sq Vu Vv;(go_upto_region 9 with fail);replace Uq:=ax (Uq.o.bz (ai aU (.cells #[.slice F2 a.facts.length d2,.slice G2 a.atoms.length g2] aC)));replace Lj:=ax (ai Lj.o (.cells #[.slice F2 a.facts.length d2,.slice G2 a.atoms.length g2] aC));have kF:ae (w11.alloc (.cells #[.slice F2 a.facts.length d2,.slice G2 a.atoms.length g2] aC)) w11.heap.size aC #[.slice F2 a.facts.length d2,.slice G2 a.atoms.length g2]:=ae.new _ _ _;have ZI:w11.heap.size+1<=(w11.alloc (.cells #[.slice F2 a.facts.length d2,.slice G2 a.atoms.length g2] aC)).heap.size:=by simp
  generalize (w11.alloc (.cells #[.slice F2 a.facts.length d2,.slice G2 a.atoms.length g2] aC))=W9 at Uq Lj kF ZI⊢;obtain⟨yF,hyF⟩:∃y,y=w11.heap.size:=⟨_,rfl⟩;rw[<-hyF] at kF ZI Vw⊢;clear hyF;have MZ:=ax Uq.o.parts.1;have Oz:=ax Uq.o.parts.2;clear Uq;simp only at MZ Oz;have Vx:=Nj.nz Lj.o;(replace qkF:=kF.z;replace Vy:=Vx.z);(go_upto_region 10 with (at_builtin;refine gN (ys:=[⟨false,x.a,x.b⟩]) (base:=W8.heap.size) rfl _ _ rfl rfl (MZ.o.bz aj) rfl (aG.one (f:=⟨false,x.a,x.b⟩) (ae.new W9 tF _)) (by simp<;>omega) (by simp<;>omega) ?_;intro PS c12 w12 o12 Sr FE;have kO:=MZ.o.bz (w':=W9.alloc (.cells #[.bool false,.int .i64 x.a,.int .i64 x.b] tF)) aj;have Nk:=ae.zm (hg:=Sr) (kF.alloc _) kO.1 (by decide);have Vz:=ax (af.lY (Oz.o.bz (w':=W9.alloc (.cells #[.bool false,.int .i64 x.a,.int .i64 x.b] tF)) aj) kO Sr);have Q3:aJ (Below W8.heap.size W8 w12):=ax ((ai Lj.o _).trans FE);have Ss:=ax o12;clear FE Sr o12 kO qkF Vy;(replace VA:=Nk.z)));simp only[length_append,length_cons,length_nil,Nat.zero_add] at Ss⊢
  have PT:ae (w12.setCell ⟨yF,0,none⟩ (.slice PS (a.facts.length+1) c12)) yF aC #[.slice PS (a.facts.length+1) c12,.slice G2 a.atoms.length g2]:=by
   have:=Nk.ag 0 (.slice PS (a.facts.length+1) c12);simpa using this
  have Su:=ax (Ss.o.aA Nk (by decide) 0 (.slice PS (a.facts.length+1) c12));have PU:=ax (Vz.o.aA Nk (by decide) 0 (.slice PS (a.facts.length+1) c12));have FF:=ax (iq Q3.o yF 0 (.slice PS (a.facts.length+1) c12));clear kF Vx MZ Oz Lj Nk Ss Vz Q3 VA;generalize (w12.setCell ⟨yF,0,none⟩ (.slice PS (a.facts.length+1) c12))=ZJ at PT Su PU FF⊢;have VB:=Nj.nz FF.o;(replace VC:=PT.z;replace VD:=VB.z);(go_upto_region 11 with (at_builtin;refine qG (ys:=[⟨2,(m:Int),x.b⟩]) (base:=W8.heap.size) rfl _ _ rfl rfl (PU.o.bz aj) (by rfl) (aB.one (f:=⟨2,(m:Int),x.b⟩) (ae.new ZJ tA _)) (by simp<;>omega) (by have:=FF.o.size;simp<;>omega) ?_;intro PV c14 w14 o14 Sv VE;have kO:=PU.o.bz (w':=ZJ.alloc (.cells #[.int .i64 2,.int .i64 m,.int .i64 x.b] tA)) aj;have Nl:=ae.zm (hg:=Sv) (PT.alloc _) kO.1 (by decide);have VF:=ax (ah.jF (Su.o.bz (w':=ZJ.alloc (.cells #[.int .i64 2,.int .i64 m,.int .i64 x.b] tA)) aj) kO Sv);have Q6:aJ (Below W8.heap.size W8 w14):=ax ((ai FF.o _).trans VE);have Nn:=ax o14;clear VE Sv o14 kO VC VD;(replace VG:=Nl.z)));simp only[length_append,length_cons,length_nil,Nat.zero_add] at Nn⊢;have ZK:1+(zv a.atoms i).length+1=a.atoms.length+1:=by omega
  try rw[ZK]
  replace Nn:aJ (af w14 W8.heap.size (.slice PV (a.atoms.length+1) c14) (([⟨1,x.a,(m:Int)⟩]++zv a.atoms i)++[⟨2,(m:Int),x.b⟩])):=ax (by
   have h24:=Nn.o;(try rw[ZK] at h24)
   exact h24)
  have Sw:ae (w14.setCell ⟨yF,1,none⟩ (.slice PV (a.atoms.length+1) c14)) yF aC #[.slice PS (a.facts.length+1) c12,.slice PV (a.atoms.length+1) c14]:=by
   have:=Nl.ag 1 (.slice PV (a.atoms.length+1) c14);simpa using this
  have Sy:=ax (VF.o.aA Nl (by decide) 1 (.slice PV (a.atoms.length+1) c14));have Sz:=ax (Nn.o.aA Nl (by decide) 1 (.slice PV (a.atoms.length+1) c14));have Ap:=ax (iq Q6.o yF 1 (.slice PV (a.atoms.length+1) c14));clear PT VB Su PU FF Nl VF Nn Q6 VG ZK;generalize (w14.setCell ⟨yF,1,none⟩ (.slice PV (a.atoms.length+1) c14))=W12 at Sw Sy Sz Ap⊢;have hz15:=Ap.o.size;have VH:=PR.nz Ap.o;have OE:aJ (aI W12 w.heap.size (.agg #[.slice A6 (a.facts.length+1) c6,.slice A9 (a.atoms.length - 1) c9]) (eD a x i)):=ax ⟨_,_,rfl,ZG.o.bz Ap.o,ZH.o.bz Ap.o⟩;have OX:aJ (aI W12 W8.heap.size (.agg #[.slice PS (a.facts.length+1) c12,.slice PV (a.atoms.length+1) c14]) (dQ a x i (m:Int))):=ax ⟨_,_,rfl,Sy.o,Sz.o⟩;have SA:=ax (aP BK.o Ap.o);have hLE:aJ ((eD a x i).facts.length<=1000/\(eD a x i).atoms.length<=1000):=ax (by simp only[eD,length_append,length_cons,length_nil];omega);have hLF:aJ ((dQ a x i (m:Int)).facts.length<=1000/\(dQ a x i (m:Int)).atoms.length<=1000):=ax (by simp only[dQ,length_append,length_cons,length_nil];omega);clear ZG ZH Ap Sy Sz PR k010 Nj BK;have hni:(n:Int)<=6:=by omega
  (replace VI:=VH.z);(go_wp2_with fail);refine(Y0.o w.heap.size _ _ _ _ B cB _ OE.o.C (PO.o.bz SA.o) hLE.o.1 hLE.o.2).mono ?_;rintro e w16 ⟨r1,vs1,l1,rfl,o1,hl1,HR1,Np⟩;obtain⟨R1,z1,rfl⟩:=o1.form;have O1:=ax o1;have VJ:=ax HR1;replace OX:=ax (OX.o.bz Np);have VK:=Sw.nz Np;have SB:=bF SA Np;have hz16:=Np.size;clear o1 HR1 Np SA Sw VH VI OE;(replace VL:=VK.z);(go_wp2_with fail);refine(Y1.o m W8.heap.size _ _ _ _ B cB _ OX.o.C (PO.o.bz SB.o) hLF.o.1 hLF.o.2).mono ?_;rintro e w17 ⟨r2,vs2,l2,rfl,o2,hl2,HR2,PW⟩;obtain⟨R2,z2,rfl⟩:=o2.form;have O2:=ax o2;have VM:=ax HR2;have Q7:=ax PW;have ZL:=bF SB PW;have hz17:=PW.size;have hp:=HN.o;have hll:l1.length+l2.length<=1049600:=by omega
  have VN:aJ (l1.length+l2.length<=2 ^ (n+1)):=ax (by rw[Nat.pow_succ];omega);clear o2 HR2 PW SB VK VL OX hl1 hl2 hp;have K9:aJ (∀e1,aR n (eD a x i) t Ks=none->(je n a x i t Ks).isSome=e1->e1=false):=ax fun e1 h h'=>by rw[<-h',uw Oy.o h];rfl
  have JY:aJ ((je n a x i t Ks).isSome=((aR n (eD a x i) t Ks).isSome&&(aR n (dQ a x i (m:Int)) t Ks).isSome)/\(je n a x i t Ks=none\/je n a x i t Ks=some (l1++l2))):=ax (by
   rcases VJ.o with e1|e1
   ·rw[uw Oy.o e1,e1];exact⟨rfl,.inl rfl⟩
   ·rcases VM.o with e2|e2
    ·rw[xz Oy.o e2,e1,e2];exact⟨rfl,.inl rfl⟩
    ·rw[Co Oy.o e1 e2,e1,e2];exact⟨rfl,.inr rfl⟩)
  clear K9 VJ VM;generalize (aR n (eD a x i) t Ks).isSome=p1 at JY⊢;generalize (aR n (dQ a x i (m:Int)) t Ks).isSome=p2 at JY⊢;cases p1<;>cases p2
  all_goals
   (go_wp2_with (at_builtin;refine fJ (base:=w.heap.size) rfl _ _ 31 rfl Tryz.underlying31 qc rfl (by decide) (by decide) rfl (fu (own_below O1.o.row Q7.o) (by omega)) rfl O2.o.rd.raw O2.o.els.one_cell hll (by omega) ?_;intro v18 w18 SC VO VP;have ZM:=ax SC;have ZN:=ax VO;have ZO:=ax (ZL.o.trans VP);obtain⟨A18,d18,rfl,-⟩:=bZ SC hll;clear SC VO VP));go_ret2;exact⟨_,vs1++vs2,l1++l2,by rw[JY.o.1];rfl,(O1.o.bq).cat Q7.o O2.o (by omega) bn hll ZN.o ZM.o,by rw[length_append];exact VN.o,JY.o.2,ZO.o⟩
section
variable{ops:Array Oper}{rest:List Oper}{o:Oper}{a:Act}{Q:Exit->Act->World->Prop}{w w0:World}{base mid:Nat}{v v2:Value}{vs vs2:List Value}{ss mX:List au}
theorem vK(hgd:o.guard=none)(s x:Operand)(ho:o.op=.call { callee:=.builtin .append,args:=#[s,x],argTypes:=#[31,31] })
  (hs:a.eval s=v) (h0:bg w0 base v vs ss) (hb0:Below w0.heap.size w0 w) (hbase:base<=w0.heap.size) (h2:bg w mid v2 vs2 mX) (hm:w0.heap.size<=mid) (hx:a.eval x=v2) (hl:ss.length+mX.length<=1049600)
  (h:∀A' c' w',bg w' base (.slice A' (ss.length+mX.length) c') (vs++vs2) (ss++mX)->w.grownBy w' v.ownBlock->Below base w w'->wpList Tryz.prog ops Q rest (a.put o.dst (.slice A' (ss.length+mX.length) c')) w'):wpList Tryz.prog ops Q (o :: rest) a w:=by
 obtain⟨A,c,rfl⟩:=h2.form;refine fJ (base:=base) hgd s x 31 ho Tryz.underlying31 qc rfl (by decide) (by decide) hs (own_below h0.row hb0) hx h2.rd.raw h2.els.one_cell hl (Nat.le_trans hbase hb0.size) ?_;intro v' w' hO hg hB;have hC:=h0.cat hb0 h2 (Nat.le_trans hbase hm) hm hl hg hO;obtain⟨A',d,rfl,-⟩:=bZ hO hl;exact h A' d w' hC hg hB
end
end
section
open Go
def ID(M:Int->Int)(x:aL):aL:=⟨x.kind,M x.a,M x.b⟩
def PX(M:Int->Int)(F:List aL)(q:Int):Prop:=q=M 0\/∃y∈F,M y.a=q
def uD(M:Int->Int)(F:List aL)(q:Int):Int->List aL->Prop
 | _,[]=>False
 | p,y :: ys=>M y.a=p/\((ys=[]/\M y.b=q)\/(ys≠[]/\M y.b≠q/\(y.kind=2->PX M F q)/\uD M F q (M y.b) ys))
def qp(M:Int->Int)(F:List aL)(x:aL)(cs:List aL):Prop:=if x.kind=1 then ∃y,cs=[y]/\ID M y=ID M x else uD M F (M x.b) (M x.a) cs
def iV(M:Int->Int)(F G:List aL):Prop:=∃g:aL->List aL,(∀x∈G,qp M F x (g x))/\F.Perm (G.flatMap g)
section
variable{M:Int->Int}{F G H:List aL}
def Ll(M:Int->Int)(F:List aL):List aL->List (List aL)->Prop
 | [],[]=>True
 | x :: xs,cs :: css=>qp M F x cs/\Ll M F xs css
 | _,_=>False
theorem sU{y x:aL}(h:ID M y=ID M x):y.kind=x.kind/\M y.a=M x.a/\M y.b=M x.b:=by
 simpa[ID] using h
theorem FH{q p:Int}{cs:List aL}(h:uD M F q p cs):∃y ys,cs=y :: ys/\M y.a=p:=by
 cases cs with
 | nil=>exact absurd h id
 | cons y ys=>exact⟨y,ys,rfl,h.1⟩
theorem vL{x:aL}{cs:List aL}(h:qp M F x cs):∃y ys,cs=y :: ys/\M y.a=M x.a:=by
 unfold qp at h
 split at h
 ·obtain⟨y,rfl,e⟩:=h;exact⟨y,[],rfl,(sU e).2.1⟩
 ·exact FH h
theorem rX:∀(G:List aL) (css:List (List aL)),Ll M F G css->(G.map fun x=>M x.a).Sublist (css.flatten.map fun x=>M x.a)
 | [],[],_=>by simp
 | [],_ :: _,h=>absurd h id
 | _ :: _,[],h=>absurd h id
 | x :: G,cs :: css,h=>by
  have ih:=rX G css h.2;obtain⟨y,ys,rfl,e⟩:=vL h.1;simp only[map_cons,flatten_cons,cons_append,List.map_append];rw[e];exact List.Sublist.cons_cons _ (ih.trans (List.sublist_append_right _ _))
theorem FI:∀(G:List aL) (css:List (List aL)),Ll M F G css->(G.map fun x=>M x.a).Nodup->∃g:aL->List aL,css.flatten=G.flatMap g/\∀x∈G,qp M F x (g x)
 | [],[],_,_=>⟨fun _=>[],by simp,by simp⟩
 | [],_ :: _,h,_=>absurd h id
 | _ :: _,[],h,_=>absurd h id
 | x :: G,cs :: css,h,hn=>by
  rw[map_cons,List.nodup_cons] at hn;obtain⟨g,h1,h2⟩:=FI G css h.2 hn.2;have hx:∀y∈G,y≠x:=fun y hy e=>hn.1 (List.mem_map.2 ⟨y,hy,by rw[e]⟩);refine⟨fun y=>if y=x then cs else g y,?_,fun y hy=>?_⟩
  ·rw[flatten_cons,flatMap_cons,if_pos rfl,h1]
   congr 1
   unfold flatMap
   congr 1
   exact List.map_congr_left fun y hy=>(if_neg (hx y hy)).symm
  ·show qp M F y (if y=x then cs else g y);rcases List.mem_cons.1 hy with rfl|hy
   ·rw[if_pos rfl];exact h.1
   ·rw[if_neg (hx y hy)];exact h2 y hy
theorem xG{g:aL->List aL}:∀(G:List aL),(∀x∈G,qp M F x (g x))->Ll M F G (G.map g)
 | [],_=>trivial
 | x :: G,h=>⟨h x mem_cons_self,xG G fun y hy=>h y (mem_cons_of_mem _ hy)⟩
theorem iV.starts(h:iV M F G)(hn:(F.map fun y=>M y.a).Nodup):(G.map fun y=>M y.a).Nodup:=by
 obtain⟨g,h1,h2⟩:=h;have:=rX G _ (xG G h1);rw[<-List.flatMap_def] at this;exact((h2.map fun y=>M y.a).nodup_iff.1 hn).sublist this
/-! Ur compose -/
theorem PY{x:aL}{cs:List aL}(h:qp M F x cs):uD M F (M x.b) (M x.a) cs:=by
 unfold qp at h
 split at h
 ·obtain⟨y,rfl,e⟩:=h;exact⟨(sU e).2.1,.inl ⟨rfl,(sU e).2.2⟩⟩
 ·exact h
theorem seg_append{q r:Int}:∀(cs rest:List aL) (p:Int),uD M F r p cs->(∀y∈cs,M y.b≠q)->(∀y∈cs,y.kind=2->PX M F q)->uD M F q r rest->uD M F q p (cs++rest)
 | [],_,_,h,_,_,_=>absurd h id
 | y :: cs,rest,p,h,h1,h2,h3=>by
  refine⟨h.1,.inr ⟨?_,h1 y mem_cons_self,h2 y mem_cons_self,?_⟩⟩
  ·cases cs
   ·intro e;have e:rest=[]:=e;rw[e] at h3;exact h3
   ·simp
  ·rcases h.2 with ⟨rfl,e⟩|⟨-,-,-,hs⟩
   ·rw[e];exact h3
   ·exact seg_append cs rest _ hs (fun z hz=>h1 z (mem_cons_of_mem _ hz)) (fun z hz=>h2 z (mem_cons_of_mem _ hz)) h3
theorem FJ{r:Int}:∀(cs:List aL) (p:Int),uD M F r p cs->∀y∈cs,M y.b=r\/∃z∈cs.tail,M z.a=M y.b
 | [],_,h,_,_=>absurd h id
 | y :: cs,p,h,z,hz=>by
  rcases List.mem_cons.1 hz with rfl|hz
  ·rcases h.2 with ⟨rfl,e⟩|⟨-,-,-,hs⟩
   ·exact .inl e
   ·obtain⟨w,ws,rfl,e⟩:=FH hs;exact .inr ⟨w,by simp,e⟩
  ·rcases h.2 with ⟨rfl,e⟩|⟨-,-,-,hs⟩
   ·cases hz
   ·rcases FJ cs _ hs z hz with h1|⟨w,hw,e⟩
    ·exact .inl h1
    ·exact .inr ⟨w,List.mem_of_mem_tail hw,e⟩
theorem vM{α β:Type}(g:α->List β):∀(L:List α) (z:α),z∈L->(g z).Sublist (L.flatMap g)
 | [],_,h=>by cases h
 | y :: L,z,h=>by
  rw[flatMap_cons];rcases List.mem_cons.1 h with rfl|h
  ·exact List.sublist_append_left _ _
  ·exact(vM g L z h).trans (List.sublist_append_right _ _)
theorem Aq{α β γ:Type}(g:α->List β)(f:β->γ):∀(L:List α),((L.flatMap g).map f).Nodup->∀z∈L,∀w∈L,z≠w->∀x∈g z,∀y∈g w,f x≠f y
 | [],_,_,h,_,_,_,_,_,_,_=>by cases h
 | v :: L,hn,z,hz,w,hw,hne,x,hx,y,hy=>by
  rw[flatMap_cons,List.map_append,List.nodup_append] at hn;have hin:∀(u:α) (t:β),u∈L->t∈g u->f t∈(L.flatMap g).map f:=fun u t hu ht=>List.mem_map.2 ⟨t,List.mem_flatMap.2 ⟨u,hu,ht⟩,rfl⟩;rcases List.mem_cons.1 hz with rfl|hz1
  ·rcases List.mem_cons.1 hw with rfl|hw1
   ·exact absurd rfl hne
   ·exact hn.2.2 _ (List.mem_map.2 ⟨x,hx,rfl⟩) _ (hin w y hw1 hy)
  ·rcases List.mem_cons.1 hw with rfl|hw1
   ·exact fun e=>hn.2.2 _ (List.mem_map.2 ⟨y,hy,rfl⟩) _ (hin z x hz1 hx) e.symm
   ·exact Aq g f L hn.2.1 z hz1 w hw1 hne x hx y hy
theorem iV.trans(h1:iV M F G)(h2:iV M G H)(hn:(F.map fun y=>M y.a).Nodup)(h0:∀y∈F,M y.a≠M 0)(hG:∀z∈G,z.kind=1\/z.kind=2):iV M F H:=by
 obtain⟨g,g1,g2⟩:=h1;obtain⟨d,d1,d2⟩:=h2;have hgn:((G.flatMap g).map fun y=>M y.a).Nodup:=(g2.map fun y=>M y.a).nodup_iff.1 hn;have hmem:∀z∈G,∀y∈g z,y∈F:=fun z hz y hy=>g2.mem_iff.2 (List.mem_flatMap.2 ⟨z,hz,hy⟩)
 have ZP:∀q,PX M G q->PX M F q:=fun q h=>by
  rcases h with h|⟨w,hw,e⟩
  ·exact .inl h
  ·obtain⟨y,ys,e1,e2⟩:=vL (g1 w hw);exact .inr ⟨y,hmem w hw y (by rw[e1];simp),e2.trans e⟩
 have hin:∀x∈H,∀z∈d x,z∈G:=fun x hx z hz=>d2.mem_iff.2 (List.mem_flatMap.2 ⟨x,hx,hz⟩)
 have hnot:∀z∈G,∀y∈(g z).tail,¬PX M G (M y.a):=fun z hz y hy h=>by
  have OL:=List.mem_of_mem_tail hy;rcases h with h|⟨w,hw,e⟩
  ·exact h0 y (hmem z hz y OL) h
  ·obtain⟨y',ys,e1,e2⟩:=vL (g1 w hw);by_cases JM:z=w
   ·subst JM;have:=hgn.sublist ((vM g G z hz).map fun y=>M y.a);rw[e1] at this hy;rw[map_cons,List.nodup_cons] at this;exact this.1 (List.mem_map.2 ⟨y,hy,by rw[e2,e]⟩)
   ·exact Aq g (fun y=>M y.a) G hgn z hz w hw JM y OL y' (by rw[e1];simp) (by rw[e2,e])
 have comp:∀(q:Int) (ds:List aL) (p:Int),uD M G q p ds->(∀z∈ds,z∈G)->uD M F q p (ds.flatMap g):=by
  intro q ds
  induction ds with
  | nil=>intro p h;exact absurd h id
  | cons z ds ih=>
   intro p h hD;have hz:=hD z mem_cons_self;have hs:=PY (g1 z hz);rw[flatMap_cons];obtain⟨rfl,h⟩:=h;rcases h with ⟨rfl,e⟩|⟨-,hb,hc,hr⟩
   ·rw[List.flatMap_nil,append_nil,<-e];exact hs
   ·have hkind:∀y∈g z,(g z).tail≠[]\/y.kind=2->PX M G q:=fun y hy hor=>by
     have SE:=g1 z hz;unfold qp at SE;by_cases hk:z.kind=1
     ·rw[if_pos hk] at SE;obtain⟨y',e1,e2⟩:=SE;rw[e1] at hor hy;rcases hor with h|h
      ·exact absurd rfl h
      ·rw[List.mem_singleton.1 hy] at h;rw[(sU e2).1,hk] at h;exact absurd h (by decide)
     ·exact hc ((hG z hz).resolve_left hk)
    refine seg_append (g z) _ _ hs (fun y hy e=>?_) (fun y hy hk=>ZP _ (hkind y hy (.inr hk))) (ih _ hr fun w hw=>hD w (mem_cons_of_mem _ hw));rcases FJ _ _ hs y hy with e2|⟨y',hy',e2⟩
    ·exact hb (e2.symm.trans e)
    ·have:=hkind y hy (.inl fun h=>by rw[h] at hy';cases hy');rw[<-e,<-e2] at this;exact hnot z hz y' hy' this
 refine⟨fun x=>(d x).flatMap g,fun x hx=>?_,?_⟩
 ·have hd:=d1 x hx;unfold qp at hd⊢;by_cases hk:x.kind=1
  ·rw[if_pos hk] at hd⊢;obtain⟨z,e1,e2⟩:=hd;have hz:=hin x hx z (by rw[e1];simp);have hg:=g1 z hz;unfold qp at hg;rw[if_pos ((sU e2).1.trans hk)] at hg;obtain⟨y,e3,e4⟩:=hg;exact⟨y,by show flatMap g (d x)=_;rw[e1];simp[e3],e4.trans e2⟩
  ·rw[if_neg hk] at hd⊢;exact comp _ _ _ hd (hin x hx)
 ·refine g2.trans ?_;have:=d2.flatMap_right g;rw[List.flatMap_assoc] at this;exact this
end
end
section
open Go Go.RowKit Go.Proofs
theorem JZ{P:Program}{o:Oper}{a:Act}{K:Act->World->Prop}{Q:Exit->Act->World->Prop}{w:World}(s x:Operand)(t:TypeId)
  (ho:o.op=.call { callee:=.builtin .append,args:=#[s,x],argTypes:=#[t,t] })
  {base:Nat} {e:TypeId} {z:Value} {size bytes:Nat} (ht:P.underlying t=some (.slice e)) (hinfo:(P.info? e).map (fun i=>(i.zero,i.size,i.bytes))=some (some z,size,bytes)) (hzs:z.cells.size=size) (hsz:0<size) (hby:bytes<=200)
  {v:Value} {n:Nat} {xs:List Value} (hs:a.eval s=v) (hown:w.ownsRow base e size v n xs)
  {ad:Addr} {m c:Nat} {news:List Value} (hx:a.eval x=.slice (some ad) m c) (hl:news.length=m * size) (hnews:∀j u,news[j]? = some u->w.cell? (ad.add j)=some u) (h1:∀u∈news,u.oneCell'=true)
  (hn:n+m<=1049600) (hb:base<=w.heap.size)
  (h:∀v' w',w'.ownsRow base e size v' (n+m) (xs++news)->w.grownBy w' v.ownBlock->Below base w w'->(v'.ownBlock=v.ownBlock\/v'.ownBlock=some w.heap.size)->K (a.put o.dst v') w'):Oper.wp P o a w K Q:=by
 obtain⟨i,hi',hz,hsize,hbytes⟩:=info_parts hinfo;obtain⟨v',w',hr,h2,h3,h4,h5⟩:=run_append_own_at (P:=P) w base t o.type e i z size bytes ht hi' hz hsize hbytes hzs hsz v n xs hown ad m c news hl hnews h1 (by unfold maxLen;omega) (Nat.le_trans (Nat.mul_le_mul hn hby) (by omega)) hb;unfold Oper.wp execOp;simp only[ho,resolve,invoke,builtin,Sem.run_bind,Sem.run_pure,Result.andThen_ok,map_toArray,map_cons,map_nil,hs,hx,hr];exact h v' w' h2 h3 (jr hown h3 hb) h5
section
variable{ops:Array Oper}{rest:List Oper}{o:Oper}{a:Act}{K:Act->World->Prop}{Q:Exit->Act->World->Prop}{E:Prop}{w:World}{base:Nat}{v:Value}
end
theorem Nq{P:Program}{o:Oper}{a:Act}{K:Act->World->Prop}{Q:Exit->Act->World->Prop}{w:World}(s x:Operand)(t:TypeId)
  (ho:o.op=.call { callee:=.builtin .append,args:=#[s,x],argTypes:=#[t,t] })
  {base:Nat} {e:TypeId} {z:Value} {size bytes:Nat} (ht:P.underlying t=some (.slice e)) (hinfo:(P.info? e).map (fun i=>(i.zero,i.size,i.bytes))=some (some z,size,bytes)) (hzs:z.cells.size=size) (hsz:0<size) (hby:bytes<=200)
  {v:Value} {n:Nat} {xs:List Value} (hs:a.eval s=v) (hown:w.ownsRow base e size v n xs)
  {A:Option Addr} {m c lo hi:Nat} {news:List Value} (hx:a.eval x=.slice A m c) (hR:Rw w lo hi size A m news) (h1:∀u∈news,u.oneCell'=true)
  (hn:n+m<=1049600) (hb:base<=w.heap.size)
  (h:∀v' w',w'.ownsRow base e size v' (n+m) (xs++news)->w.grownBy w' v.ownBlock->Below base w w'->(v'.ownBlock=v.ownBlock\/v'.ownBlock=some w.heap.size)->K (a.put o.dst v') w'):Oper.wp P o a w K Q:=by
 obtain⟨i,hi',hz,hsize,hbytes⟩:=info_parts hinfo
 have key:∀(ad:Addr),A=some ad->(∀j u,news[j]? = some u->w.cell? (ad.add j)=some u)->Oper.wp P o a w K Q:=by
  rintro ad rfl hnews;obtain⟨v',w',hr,h2,h3,h4,h5⟩:=run_append_own_at (P:=P) w base t o.type e i z size bytes ht hi' hz hsize hbytes hzs hsz v n xs hown ad m c news hR.1 hnews h1 (by unfold maxLen;omega) (Nat.le_trans (Nat.mul_le_mul hn hby) (by omega)) hb;unfold Oper.wp execOp;simp only[ho,resolve,invoke,builtin,Sem.run_bind,Sem.run_pure,Result.andThen_ok,map_toArray,map_cons,map_nil,hs,hx,hr];exact h v' w' h2 h3 (jr hown h3 hb) h5
 by_cases hm:m=0
 ·subst hm;have hnil:news=[]:=List.eq_nil_of_length_eq_zero (by simpa using hR.1);subst hnil
  cases A with
  | some ad=>exact key ad rfl (by simp)
  | none=>
   have hrun:=lU (P:=P) t o.type i ht hi' v n c xs hown;unfold Oper.wp execOp;simp only[ho,resolve,invoke,builtin,Sem.run_bind,Sem.run_pure,Result.andThen_ok,map_toArray,map_cons,map_nil,hs,hx,hrun];exact h v w (by simpa using hown) (World.grownBy.refl _ _) (Below.refl _ _) (Or.inl rfl)
 ·have h0:0<m * size:=Nat.mul_pos (by omega) hsz;obtain⟨b,off,rfl,_,_,hc⟩:=hR.2 h0;exact key _ rfl fun j u hu=>by rw[show (⟨b,off,none⟩:Addr).add j=⟨b,off+j,none⟩ from by unfold Addr.add;split<;>simp_all];exact hc j u hu
theorem aD.grown{w w':World}{b:Nat}{v v':Value}{xs:List Int}(h:aD w b v' xs)(hg:w.grownBy w' v.ownBlock)(hne:∀g,v'.ownBlock=some g->v.ownBlock≠some g):aD w' b v' xs:=by
 obtain⟨⟨h1,h2⟩,h3⟩:=h;refine⟨⟨h1,?_⟩,h3⟩;rcases h2 with h2|⟨k,cap,cur,hv,hk,hh,r⟩
 ·exact Or.inl h2
 ·exact Or.inr ⟨k,cap,cur,hv,hk,ae.grown hh hg (fun e=>hne k (by rw[hv];rfl) e.symm),r⟩
end
section
open Go Go.RowKit
/-! states -/
/-! the laws -/
def uE(M:Int->Int)(a b:au):Prop:=(∀f∈b.facts,decide (M f.a=M f.b)=f.eq)/\iV M (a.atoms.filter (dD M)) (b.atoms.filter (dD M))
section
variable{M N:Int->Int}{T:Int->Prop}{F G:List aL}
theorem PX.same(h0:T 0)(he:∀s t,T s->T t->(M s=M t↔N s=N t)){q:Int}(hF:∀y∈F,T y.a/\T y.b)(hq:T q)(h:PX M F (M q)):PX N F (N q):=by
 rcases h with h|⟨y,hy,e⟩
 ·exact .inl ((he _ _ hq h0).1 h)
 ·exact .inr ⟨y,hy,(he _ _ (hF y hy).1 hq).1 e⟩
theorem uD.same(h0:T 0)(he:∀s t,T s->T t->(M s=M t↔N s=N t))(hF:∀y∈F,T y.a/\T y.b){q:Int}(hq:T q):∀(cs:List aL) (p:Int),T p->(∀y∈cs,y∈F)->uD M F (M q) (M p) cs->uD N F (N q) (N p) cs
 | [],_,_,_,h=>absurd h id
 | y :: cs,p,hp,hm,h=>by
  have hy:=hF y (hm y mem_cons_self);refine⟨(he _ _ hy.1 hp).1 h.1,?_⟩;rcases h.2 with ⟨e,hb⟩|⟨hne,hb,hc,hs⟩
  ·exact .inl ⟨e,(he _ _ hy.2 hq).1 hb⟩
  ·exact .inr ⟨hne,fun e=>hb ((he _ _ hy.2 hq).2 e),fun hk=>(hc hk).same h0 he hF hq,uD.same h0 he hF hq cs y.b hy.2 (fun z hz=>hm z (mem_cons_of_mem _ hz)) hs⟩
theorem iV.same(h0:T 0)(he:∀s t,T s->T t->(M s=M t↔N s=N t))(hF:∀y∈F,T y.a/\T y.b)(hG:∀y∈G,T y.a/\T y.b)(h:iV M F G):iV N F G:=by
 obtain⟨g,h1,h2⟩:=h;refine⟨g,fun x hx=>?_,h2⟩;have hm:∀y∈g x,y∈F:=fun y hy=>h2.mem_iff.2 (List.mem_flatMap.2 ⟨x,hx,hy⟩);have hc:=h1 x hx;unfold qp at hc⊢
 split
 ·rename_i hk;rw[if_pos hk] at hc;obtain⟨y,e,e2⟩:=hc;have hy:=hF y (hm y (by rw[e];simp));obtain⟨e3,e4,e5⟩:=sU e2;refine⟨y,e,?_⟩;unfold ID;rw[e3,(he _ _ hy.1 (hG x hx).1).1 e4,(he _ _ hy.2 (hG x hx).2).1 e5]
 ·rename_i hk;rw[if_neg hk] at hc;exact uD.same h0 he hF (hG x hx).2 _ _ (hG x hx).1 hm hc
theorem Ct(he:∀s t,T s->T t->(M s=M t↔N s=N t)){xs:List aL}(hx:∀y∈xs,T y.a/\T y.b):xs.filter (dD M)=xs.filter (dD N):=by
 refine List.filter_congr fun y hy=>?_;unfold dD;rw[decide_eq_decide.2 (he _ _ (hx y hy).1 (hx y hy).2)]
theorem uE.same{a b:au}(h0:T 0)(he:∀s t,T s->T t->(M s=M t↔N s=N t))(ha:∀y∈a.atoms,T y.a/\T y.b)(hb:∀y∈b.atoms,T y.a/\T y.b)(hf:∀f∈b.facts,T f.a/\T f.b)(h:uE M a b):uE N a b:=by
 refine⟨fun f hm=>?_,?_⟩
 ·rw[<-h.1 f hm,decide_eq_decide];exact(he _ _ (hf f hm).1 (hf f hm).2).symm
 ·rw[<-Ct he ha,<-Ct he hb];exact h.2.same h0 he (fun y hy=>ha y (List.mem_filter.1 hy).1) (fun y hy=>hb y (List.mem_filter.1 hy).1)
end
theorem IE{a:au}(h:a.valid=true){x:aL}(hx:x∈a.atoms):x.kind=1\/x.kind=2:=by
 simp only[au.valid,Bool.and_eq_true] at h;have:=List.all_eq_true.1 h.2.2 x hx;simp[aL.valid] at this;exact this.1.1
section
variable{M:Int->Int}{a b c:au}
theorem uE.sat(h:uE M a b)(ha:Sat M a):Sat M b:=by
 refine⟨h.1,fun x hx hf=>?_,h.2.starts ha.apart⟩;obtain⟨g,h1,h2⟩:=h.2;have hx':x∈b.atoms.filter (dD M):=List.mem_filter.2 ⟨hx,hf⟩;obtain⟨y,ys,e1,e2⟩:=vL (h1 x hx');have hy:y∈a.atoms.filter (dD M):=h2.mem_iff.2 (List.mem_flatMap.2 ⟨x,hx',by rw[e1];simp⟩);rw[List.mem_filter] at hy;rw[<-e2];exact ha.nil y hy.1 hy.2
theorem uE.trans(h1:uE M a b)(h2:uE M b c)(ha:Sat M a)(hb:b.valid=true):uE M a c:=
 ⟨h2.1,h1.2.trans h2.2 ha.apart (fun y hy=>ha.nil y (List.mem_filter.1 hy).1 (List.mem_filter.1 hy).2) fun z hz=>IE hb (List.mem_filter.1 hz).1⟩
theorem iV.perm{F G:List aL}(h:F.Perm G):iV M F G:=by
 refine⟨fun x=>[x],fun x hx=>?_,by simpa using h⟩;unfold qp
 split
 ·exact⟨x,rfl,rfl⟩
 ·exact⟨rfl,.inl ⟨rfl,rfl⟩⟩
theorem uE.refl(ha:Sat M a):uE M a a:=⟨ha.facts,iV.perm (List.Perm.refl _)⟩
end
/-! truth in states -/
def cellsOf(s:wh)(x:aL):List Int:=(BR s x).getD []
section
variable{M:Int->Int}{F G G':List aL}{a:au}{x:aL}{i:Nat}{t m:Int}
theorem iV.mk{css:List (List aL)}(h:Ll M F G css)(hp:F.Perm css.flatten)(hn:(F.map fun y=>M y.a).Nodup):iV M F G:=by
 have hs:=rX G css h;obtain⟨g,g1,g2⟩:=FI G css h (((hp.map fun y=>M y.a).nodup_iff.1 hn).sublist hs);exact⟨g,g2,by rw[<-g1];exact hp⟩
theorem Nr(y:aL):qp M F y [y]:=by
 unfold qp
 split
 ·exact⟨y,rfl,rfl⟩
 ·exact⟨rfl,.inl ⟨rfl,rfl⟩⟩
theorem sV:∀(G:List aL),Ll M F G (G.map fun y=>[y])
 | []=>trivial
 | y :: G=>⟨Nr y,sV G⟩
theorem sW:∀(G:List aL),(G.map fun y=>[y]).flatten=G
 | []=>rfl
 | y :: G=>by simp[sW G]
theorem iV.Q8(h:iV M F G)(hp:G.Perm G'):iV M F G':=by
 obtain⟨g,h1,h2⟩:=h;exact⟨g,fun x hx=>h1 x (hp.mem_iff.2 hx),h2.trans (hp.flatMap_right g)⟩
theorem wU(hx:a.atoms[i]? = some x):(a.atoms.filter (dD M)).Perm ((x :: zv a.atoms i).filter (dD M)):=(vg hx).filter _
theorem Cu{p q:Int}:dD M ⟨1,p,q⟩=true:=rfl
theorem IG(hx:a.atoms[i]? = some x)(hk:x.kind=1)(hs:Sat M (cZ a x i t)):M x.a=M t/\uE M (cZ a x i t) a:=by
 have hfx:dD M x=true:=by unfold dD;rw[decide_eq_true hk];rfl
 have ht:M x.a=M t:=by
  by_cases e:x.a=t
  ·rw[e]
  ·exact of_decide_eq_true (hs.facts ⟨true,x.a,t⟩ (by simp[cZ,e]))
 refine⟨ht,fun f hf=>hs.facts f (by simp[cZ,hf]),?_⟩;have hp:=wU (M:=M) hx;rw[filter_cons_of_pos hfx] at hp;have hn:=hs.apart;simp only[cZ] at hn⊢;rw[filter_cons_of_pos Cu] at hn⊢;refine(iV.mk (G:=x :: (zv a.atoms i).filter (dD M)) (css:=[⟨1,t,x.b⟩] :: ((zv a.atoms i).filter (dD M)).map fun y=>[y]) ⟨?_,sV _⟩ (by rw[flatten_cons,sW];exact List.Perm.refl _) hn).Q8 hp.symm;unfold qp;rw[if_pos hk];exact⟨_,rfl,by simp[ID,hk,ht]⟩
theorem SF(hk:x.kind=2)(he:M x.a=M x.b):dD M x=false:=by
 unfold dD;rw[decide_eq_false (by omega),decide_eq_true he];rfl
theorem FK(hx:a.atoms[i]? = some x)(hk:x.kind=2)(hs:Sat M (eD a x i)):uE M (eD a x i) a:=by
 have he:M x.a=M x.b:=of_decide_eq_true (hs.facts ⟨true,x.a,x.b⟩ (by simp[eD]));refine⟨fun f hf=>hs.facts f (by simp[eD,hf]),?_⟩;have hp:=wU (M:=M) hx;rw[List.filter_cons_of_neg (by simp[SF hk he])] at hp;exact iV.perm hp.symm
theorem II(hx:a.atoms[i]? = some x)(hk:x.kind=2)(hs:Sat M (dQ a x i m)):uE M (dQ a x i m) a:=by
 have hne:decide (M x.a=M x.b)=false:=hs.facts ⟨false,x.a,x.b⟩ (by simp[dQ]);have hfx:dD M x=true:=by unfold dD;rw[hne];simp
 have hn:=hs.apart;refine⟨fun f hf=>hs.facts f (by simp[dQ,hf]),?_⟩;have hp:=wU (M:=M) hx;rw[filter_cons_of_pos hfx] at hp;simp only[dQ] at hn⊢;rw[List.filter_append,List.filter_append,filter_cons_of_pos Cu,filter_nil] at hn⊢;refine iV.Q8 ?_ hp.symm;cases hfl:dD M ⟨2,m,x.b⟩
 ·have hmb:M m=M x.b:=by simpa[dD] using hfl
  rw[List.filter_cons_of_neg (by simp[hfl]),filter_nil,append_nil] at hn⊢;refine iV.mk (css:=[⟨1,x.a,m⟩] :: ((zv a.atoms i).filter (dD M)).map fun y=>[y]) ⟨?_,sV _⟩ (by rw[flatten_cons,sW];done) hn;unfold qp;rw[if_neg (by omega)];exact⟨rfl,.inl ⟨rfl,hmb⟩⟩
 ·have hmb:M m≠M x.b:=by simpa[dD] using hfl
  rw[filter_cons_of_pos hfl,filter_nil] at hn⊢;refine iV.mk (css:=[⟨1,x.a,m⟩,⟨2,m,x.b⟩] :: ((zv a.atoms i).filter (dD M)).map fun y=>[y]) ⟨?_,sV _⟩ ?_ hn
  ·unfold qp;rw[if_neg (by omega)];exact⟨rfl,.inr ⟨by simp,hmb,fun(h:(1:Int)=2)=>absurd h (by decide),rfl,.inl ⟨rfl,rfl⟩⟩⟩
  ·rw[flatten_cons,sW];simp only[List.singleton_append,cons_append,nil_append];exact(List.perm_append_singleton _ _).cons _
end
theorem qw{n:Nat}{a:au}{t:Int}{K:Nat}{l:List au}(h:aR n a t K=some l):a.valid=true:=by
 cases hv:a.valid
 ·rw[qd hv] at h;cases h
 ·rfl
theorem qy:∀(n:Nat) (a:au) (t:Int) (K:Nat) (l:List au),aR n a t K=some l->∀e∈l,e.valid=true/\(∀M,Sat M e->uE M e a)/\∃b rest,e.atoms=⟨1,t,b⟩ :: rest
 | 0,_,_,_,_,h=>by cases h
 | n+1,a,t,K,l,h=>by
  intro e he;have hv:=qw h;cases hc:dE a
  ·rw[wO hv hc] at h;obtain rfl:=Option.some.inj h;cases he
  cases hf:iQ a 1 t with
  | some i=>
   obtain⟨x,hx,hk,-,-⟩:=sP hf;rw[rT hv hc hf hx] at h
   split at h
   ·rename_i hcv;obtain rfl:=Option.some.inj h;obtain rfl:=List.mem_singleton.1 he;exact⟨hcv,fun M hM=>(IG hx hk hM).2,_,_,rfl⟩
   ·cases h
  | none=>
   cases hg:iQ a 2 t with
   | none=>rw[rU hv hc hf hg] at h;cases h
   | some i=>
    obtain⟨x,hx,hk,-,-⟩:=sP hg;rw[rV hv hc hf hg hx] at h;unfold je at h
    split at h
    ·cases h
    ·rename_i m hm
     split at h
     ·cases h
     ·rename_i l1 h1
      split at h
      ·cases h
      ·rename_i l2 h2;obtain rfl:=Option.some.inj h;rcases List.mem_append.1 he with he|he
       ·obtain⟨g1,g2,g3⟩:=qy n _ _ _ _ h1 e he;exact⟨g1,fun M hM=>(g2 M hM).trans (FK hx hk ((g2 M hM).sat hM)) hM (qw h1),g3⟩
       ·obtain⟨g1,g2,g3⟩:=qy n _ _ _ _ h2 e he;exact⟨g1,fun M hM=>(g2 M hM).trans (II hx hk ((g2 M hM).sat hM)) hM (qw h2),g3⟩
end
section
open Go Go.RowKit Go.Proofs
attribute [local go_sem ↓] Go.wp_at_zero Go.wp_at_succ
theorem J2{a:au}{A:Int}{K:Nat}:eH a 1 A A K=some [a]:=by unfold eH;rw[if_pos rfl,if_pos rfl]
theorem FL{a:au}{A B:Int}{K:Nat}(h:¬A=B):eH a 1 A B K=(dY a A B K).map fun x=>[x]:=by unfold eH;rw[if_pos rfl,if_neg h]
theorem FM{a:au}{A B:Int}{K:Nat}:eH a 4 A B K=(iR a A K).map fun x=>[x]:=rfl
theorem FN{a:au}{k A B:Int}{K:Nat}(h1:¬k=1)(h4:¬k=4):eH a k A B K=(aR 7 a (Dw k A B) K).bind fun l=>vC (fun x=>gy k A B x K) l:=by unfold eH;rw[if_neg h1,if_neg h4]
theorem PZ{lo hi:Nat}(v:Value)(a:au)(A B:Int)(t:aF)(X1 X2 X3 X4:Option Addr)(n1 n2 n3 n4 d1 d2 d3 d4 K0:Nat)(w:World)(h:eB w lo hi v a)(hhi:hi<=w.heap.size)(hv:a.valid=true)(Cs:K0<512)(hA:jq A=true) :
  Calls Tryz.prog 76 #[v,.agg #[.int .i64 1,.int .i64 A,.int .i64 B,.bool t.eq,.int .i64 t.a,.int .i64 t.b,.slice X1 n1 d1,.slice X2 n2 d2,.slice X3 n3 d3,.slice X4 n4 d4],.int .u16 K0] w fun e w'=>∃r vs,e=.returned (.tuple #[r,.bool (eH a 1 A B (fo K0 A B)).isSome])/\bg w' w.heap.size r vs ((eH a 1 A B (fo K0 A B)).getD [])/\Below w.heap.size w w':=by
 have hV:=ax h;obtain⟨A1,c1,A2,c2,rfl,-⟩:=h;have hvl:=tT hv;have HV:=ax hv;obtain⟨K1,hK1⟩:∃x,x=aQ K0 A:=⟨_,rfl⟩;have l1:K1<512:=by rw[hK1];exact bC Cs _
 obtain⟨K2,hK2⟩:∃x,x=aQ K1 B:=⟨_,rfl⟩;have l2:K2<512:=by rw[hK2];exact bC l1 _
 have EK:aJ (fo K0 A B=K2):=ax (by rw[hK2,hK1];rfl);rw[EK.o];replace hK1:=ax hK1;replace hK2:=ax hK2;clear hv EK;(go_enter Tryz.func76,Tryz.ntmps76);(go_upto_region 1 with fail);refine TR (w:=w) (F:=Code.wp _ _ _ _) ?_;rintro W k3 k4 HB hz;replace HB:=ax HB;refine lS (S:=(fun w'=>(∀i,w'.cell? ⟨w.heap.size,i,none⟩=#[.slice A1 a.facts.length c1,.slice A2 a.atoms.length c2][i]?)/\(∀i,w'.cell? ⟨w.heap.size+1,i,none⟩=#[.int .i64 1,.int .i64 A,.int .i64 B,.bool t.eq,.int .i64 t.a,.int .i64 t.b,.slice X1 n1 d1,.slice X2 n2 d2,.slice X3 n3 d3,.slice X4 n4 d4][i]?))) (⟨k3.drew.cell,k4.drew.cell⟩) fun aH=>?_;refine jQ 0 1 2 4 5 ?_;refine aX 3 rfl fun K hK=>?_;(try simp only[zz]);(go_simp;refine(aY K0 A _ Cs).mono ?_;rintro e w1 ⟨rfl,rfl⟩;rw[<-hK1.o]);refine hK.out _ _ (⟨k3.drew.cell,k4.drew.cell⟩) ?_;clear aH hK K;intro aH;refine aX 6 rfl fun K hK=>?_;(try simp only[zz]);(go_simp;refine(aY K1 B _ l1).mono ?_;rintro e w1 ⟨rfl,rfl⟩;rw[<-hK2.o]);refine hK.out _ _ (⟨k3.drew.cell,k4.drew.cell⟩) ?_;clear aH hK K;intro aH;refine jh 7 ?_;refine jP ?_;replace k3:=k3.drew;replace k4:=k4.drew;replace HB:=ax HB.o.drew;have hzd:W.drew.heap.size=W.heap.size:=rfl;clear aH hK1 hK2 l1;generalize W.drew=V at k3 k4 HB hzd⊢;by_cases Bo:A=B
 ·subst Bo;have E:aJ (eH a 1 A A K2=some [a]):=ax J2;(replace fq:=k3.z;replace eZ:=k4.z);(go_wp2_with fail);refine(cz _ a _ (hV.o.V.bz HB.o)).mono ?_;rintro e w1 ⟨r,rfl,oC,hB1⟩;obtain⟨F,f,G,g,rfl⟩:=oC.I.form;have OC:=ax oC;have HB1:=bF HB hB1;have hz1:=hB1.size;clear hB1 oC fq eZ k3 k4;go_wp2;go_ret2;refine⟨.slice (some ⟨w1.heap.size,0,none⟩) 1 1,[.slice F a.facts.length f,.slice G a.atoms.length g],by rw[E.o];rfl,?_,ai HB1.o _⟩;rw[E.o];refine bg.one (ae.dA rfl) ?_ (aI.bz (aI.bq OC.o (by omega)) aj);omega
 have E:=ax (FL (a:=a) (K:=K2) Bo);have hb:(A == B)=false:=beq_false_of_ne Bo;(replace fq:=k3.z;replace eZ:=k4.z);(go_wp2_with fail);refine(qP _ a A B K2 _ (hV.o.V.bz HB.o) l2 hA (by omega)).mono ?_;rintro e w1 ⟨r,rfl,oX,hB1⟩;obtain⟨⟨F,n,f,G,m,g,rfl⟩,oX⟩:=oX;have HB1:=bF HB hB1;have hz1:=hB1.size;have OX:=ax oX;clear hB1 oX fq eZ k3 k4
 cases hx:dY a A B K2 with
 | none=>
  have E2:aJ (eH a 1 A B K2=none):=ax (by rw[E.o,hx];rfl);clear hx;go_wp2;go_ret2;exact⟨_,_,by rw[E2.o];rfl,by rw[E2.o];exact bg.nil _ _,ai HB1.o _⟩
 | some y=>
  have E2:aJ (eH a 1 A B K2=some [y]):=ax (by rw[E.o,hx];rfl);have OY:=ax (OX.o y hx);clear hx OX;go_wp2;go_ret2;refine⟨.slice (some ⟨w1.heap.size+1,0,none⟩) 1 1,[.slice F n f,.slice G m g],by rw[E2.o];rfl,?_,ai (ai HB1.o _) _⟩;rw[E2.o];refine bg.one (ae.dA ?_) ?_ (aI.bz (aI.bq OY.o (by omega)) aj)
  ·simp
  ·omega
theorem P8{lo hi:Nat}(v:Value)(a:au)(A B:Int)(t:aF)(X1 X2 X3 X4:Option Addr)(n1 n2 n3 n4 d1 d2 d3 d4 K0:Nat)(w:World)(h:eB w lo hi v a)(hhi:hi<=w.heap.size)(hv:a.valid=true)(Cs:K0<512)(hA:jq A=true) :
  Calls Tryz.prog 76 #[v,.agg #[.int .i64 4,.int .i64 A,.int .i64 B,.bool t.eq,.int .i64 t.a,.int .i64 t.b,.slice X1 n1 d1,.slice X2 n2 d2,.slice X3 n3 d3,.slice X4 n4 d4],.int .u16 K0] w fun e w'=>∃r vs,e=.returned (.tuple #[r,.bool (eH a 4 A B (fo K0 A B)).isSome])/\bg w' w.heap.size r vs ((eH a 4 A B (fo K0 A B)).getD [])/\Below w.heap.size w w':=by
 have hV:=ax h;obtain⟨A1,c1,A2,c2,rfl,-⟩:=h;have hvl:=tT hv;have HV:=ax hv;obtain⟨K1,hK1⟩:∃x,x=aQ K0 A:=⟨_,rfl⟩;have l1:K1<512:=by rw[hK1];exact bC Cs _
 obtain⟨K2,hK2⟩:∃x,x=aQ K1 B:=⟨_,rfl⟩;have l2:K2<512:=by rw[hK2];exact bC l1 _
 have EK:aJ (fo K0 A B=K2):=ax (by rw[hK2,hK1];rfl);rw[EK.o];replace hK1:=ax hK1;replace hK2:=ax hK2;clear hv EK;(go_enter Tryz.func76,Tryz.ntmps76);(go_upto_region 1 with fail);refine TR (w:=w) (F:=Code.wp _ _ _ _) ?_;rintro W k3 k4 HB hz;replace HB:=ax HB;refine lS (S:=(fun w'=>(∀i,w'.cell? ⟨w.heap.size,i,none⟩=#[.slice A1 a.facts.length c1,.slice A2 a.atoms.length c2][i]?)/\(∀i,w'.cell? ⟨w.heap.size+1,i,none⟩=#[.int .i64 4,.int .i64 A,.int .i64 B,.bool t.eq,.int .i64 t.a,.int .i64 t.b,.slice X1 n1 d1,.slice X2 n2 d2,.slice X3 n3 d3,.slice X4 n4 d4][i]?))) (⟨k3.drew.cell,k4.drew.cell⟩) fun aH=>?_;refine jQ 0 1 2 4 5 ?_;refine aX 3 rfl fun K hK=>?_;(try simp only[zz]);(go_simp;refine(aY K0 A _ Cs).mono ?_;rintro e w1 ⟨rfl,rfl⟩;rw[<-hK1.o]);refine hK.out _ _ (⟨k3.drew.cell,k4.drew.cell⟩) ?_;clear aH hK K;intro aH;refine aX 6 rfl fun K hK=>?_;(try simp only[zz]);(go_simp;refine(aY K1 B _ l1).mono ?_;rintro e w1 ⟨rfl,rfl⟩;rw[<-hK2.o]);refine hK.out _ _ (⟨k3.drew.cell,k4.drew.cell⟩) ?_;clear aH hK K;intro aH;refine jh 7 ?_;refine jP ?_;replace k3:=k3.drew;replace k4:=k4.drew;replace HB:=ax HB.o.drew;have hzd:W.drew.heap.size=W.heap.size:=rfl;clear aH hK1 hK2 l1;generalize W.drew=V at k3 k4 HB hzd⊢;have E:aJ (eH a 4 A B K2=(iR a A K2).map fun x=>[x]):=ax FM;(replace fq:=k3.z;replace eZ:=k4.z);(go_wp2_with fail);refine(tL _ a A K2 _ (hV.o.V.bz HB.o) l2 hA (by omega)).mono ?_;rintro e w1 ⟨r,rfl,oX,hB1⟩;obtain⟨⟨F,n,f,G,m,g,rfl⟩,oX⟩:=oX;have HB1:=bF HB hB1;have hz1:=hB1.size;have OX:=ax oX;clear hB1 oX fq eZ k3 k4
 cases hx:iR a A K2 with
 | none=>
  have E2:aJ (eH a 4 A B K2=none):=ax (by rw[E.o,hx];rfl);clear hx;go_wp2;go_ret2;exact⟨_,_,by rw[E2.o];rfl,by rw[E2.o];exact bg.nil _ _,ai HB1.o _⟩
 | some y=>
  have E2:aJ (eH a 4 A B K2=some [y]):=ax (by rw[E.o,hx];rfl);have OY:=ax (OX.o y hx);clear hx OX;go_wp2;go_ret2;refine⟨.slice (some ⟨w1.heap.size+1,0,none⟩) 1 1,[.slice F n f,.slice G m g],by rw[E2.o];rfl,?_,ai (ai HB1.o _) _⟩;rw[E2.o];refine bg.one (ae.dA ?_) ?_ (aI.bz (aI.bq OY.o (by omega)) aj)
  ·simp
  ·omega
theorem P9{lo hi:Nat}(v:Value)(a:au)(k A B:Int)(t:aF)(X1 X2 X3 X4:Option Addr)(n1 n2 n3 n4 d1 d2 d3 d4 K0:Nat)(w:World)(h:eB w lo hi v a)(hhi:hi<=w.heap.size)(hv:a.valid=true)(Cs:K0<512)(hA:jq A=true)(hk1:¬k=1)(hk4:¬k=4) :
  Calls Tryz.prog 76 #[v,.agg #[.int .i64 k,.int .i64 A,.int .i64 B,.bool t.eq,.int .i64 t.a,.int .i64 t.b,.slice X1 n1 d1,.slice X2 n2 d2,.slice X3 n3 d3,.slice X4 n4 d4],.int .u16 K0] w fun e w'=>∃r vs,e=.returned (.tuple #[r,.bool (eH a k A B (fo K0 A B)).isSome])/\bg w' w.heap.size r vs ((eH a k A B (fo K0 A B)).getD [])/\Below w.heap.size w w':=by
 have hV:=ax h;obtain⟨A1,c1,A2,c2,rfl,-⟩:=h;have hvl:=tT hv;have HV:=ax hv;obtain⟨K1,hK1⟩:∃x,x=aQ K0 A:=⟨_,rfl⟩;have l1:K1<512:=by rw[hK1];exact bC Cs _
 obtain⟨K2,hK2⟩:∃x,x=aQ K1 B:=⟨_,rfl⟩;have l2:K2<512:=by rw[hK2];exact bC l1 _
 have EK:aJ (fo K0 A B=K2):=ax (by rw[hK2,hK1];rfl);rw[EK.o];replace hK1:=ax hK1;replace hK2:=ax hK2;clear hv EK;(go_enter Tryz.func76,Tryz.ntmps76);(go_upto_region 1 with fail);refine TR (w:=w) (F:=Code.wp _ _ _ _) ?_;rintro W k3 k4 HB hz;replace HB:=ax HB;refine lS (S:=(fun w'=>(∀i,w'.cell? ⟨w.heap.size,i,none⟩=#[.slice A1 a.facts.length c1,.slice A2 a.atoms.length c2][i]?)/\(∀i,w'.cell? ⟨w.heap.size+1,i,none⟩=#[.int .i64 k,.int .i64 A,.int .i64 B,.bool t.eq,.int .i64 t.a,.int .i64 t.b,.slice X1 n1 d1,.slice X2 n2 d2,.slice X3 n3 d3,.slice X4 n4 d4][i]?))) (⟨k3.drew.cell,k4.drew.cell⟩) fun aH=>?_;refine jQ 0 1 2 4 5 ?_;refine aX 3 rfl fun K hK=>?_;(try simp only[zz]);(go_simp;refine(aY K0 A _ Cs).mono ?_;rintro e w1 ⟨rfl,rfl⟩;rw[<-hK1.o]);refine hK.out _ _ (⟨k3.drew.cell,k4.drew.cell⟩) ?_;clear aH hK K;intro aH;refine aX 6 rfl fun K hK=>?_;(try simp only[zz]);(go_simp;refine(aY K1 B _ l1).mono ?_;rintro e w1 ⟨rfl,rfl⟩;rw[<-hK2.o]);refine hK.out _ _ (⟨k3.drew.cell,k4.drew.cell⟩) ?_;clear aH hK K;intro aH;refine jh 7 ?_;refine jP ?_;replace k3:=k3.drew;replace k4:=k4.drew;replace HB:=ax HB.o.drew;have hzd:W.drew.heap.size=W.heap.size:=rfl;clear aH hK1 hK2 l1;generalize W.drew=V at k3 k4 HB hzd⊢;have E:=ax (FN (a:=a) (A:=A) (B:=B) (K:=K2) hk1 hk4);have b1:(k == 1)=false:=beq_false_of_ne hk1;have b4:(k == 4)=false:=beq_false_of_ne hk4;obtain⟨T,hT⟩:∃x,x=Dw k A B:=⟨_,rfl⟩;rw[<-hT] at E;replace hT:=ax hT;clear hk1 hk4;(replace fq:=k3.z;replace eZ:=k4.z);(go_upto_if 71 with fail)
 go_cut [12] (fun s12 wc=>s12=.int .i64 T/\wc=V)
 case first=>
  by_cases hk2:k=2
  ·have eT:aJ (T=B):=ax (by rw[hT.o,Dw,if_pos hk2]);subst hk2;clear hT;(go_wp2_with fail);go_meet
   case rel=>exact⟨by rw[eT.o],rfl⟩
  ·have eT:aJ (T=A):=ax (by rw[hT.o,Dw,if_neg hk2]);have b2:(k == 2)=false:=beq_false_of_ne hk2;clear hT hk2;(go_wp2_with fail);go_meet
   case rel=>exact⟨by rw[eT.o],rfl⟩
 case rest=>
  obtain⟨rfl,rfl⟩:=hcut;clear hT;(go_wp2_with fail);refine(tY 7 bn a T K2 l2 (by omega) lo hi _ _ (hV.o.bz HB.o) (by omega) HV.o).mono ?_;rintro e w1 ⟨r,vs,rfl,oR,hB1⟩;have HB1:=bF HB hB1;have k41:=k4.nz hB1;have hz1:=hB1.size
  cases he:aR 7 a T K2 with
  | none=>
   rw[he] at oR;obtain⟨R,c,rfl⟩:=oR.form;have E2:aJ (eH a k A B K2=none):=ax (by rw[E.o,he];rfl);clear he oR;go_wp2;go_ret2;exact⟨_,_,by rw[E2.o];rfl,by rw[E2.o];exact bg.nil _ _,HB1.o⟩
  | some l=>
   rw[he] at oR;simp only[Option.getD_some] at oR;obtain⟨R,c,rfl⟩:=oR.form;have E2:aJ (eH a k A B K2=vC (fun x=>gy k A B x K2) l):=ax (by rw[E.o,he];rfl);have hll:l.length<=128:=(mK he).1;have HE:=ax (qy _ _ _ _ _ he);have OR:=ax oR;clear he oR E hB1 k3 k4 fq eZ HB hV HV;(go_wp2_with fail)
   go_loopw [15,85] (fun rs i wr=>∃(j:Nat) (R2:Option Addr) (r2:Nat) (ys:List au) (us:List Value),j<=l.length/\ys.length=j/\i=.int .i64 j/\rs=.slice R2 j r2/\aJ (∀(q:Nat) (h1:q<ys.length) (h2:q<l.length),gy k A B l[q] K2=some ys[q])/\aJ (bg wr w1.heap.size (.slice R2 j r2) us ys)/\aJ (Below w1.heap.size w1 wr)) (fun _ i _=>l.length - (intOf i).toNat)
   case atStart=>exact⟨0,none,0,[],[],dJ,rfl,rfl,rfl,fun q h1=>absurd h1 (by simp),bg.nil _ _,aU⟩
   case round=>
    obtain⟨j,R2,r2,ys,us,hj,hyl,rfl,rfl,HY,OY,Q9⟩:=hrel;have HL:aJ (ys.length=j):=ax hyl;clear hyl;have xx:=Q9.o.size;have k4r:=k41.nz Q9.o;by_cases hlt:j<l.length
    ·obtain⟨gb,go,P,p,Q,q,rfl,hgl,q0,q1,hC⟩:=OR.o.Xw hlt;obtain⟨x,hx⟩:∃x,x=l[j]:=⟨_,rfl⟩;rw[<-hx] at q0 q1 hC;obtain⟨hxv,-,xb,xr,hxa⟩:=HE.o x (by rw[hx];exact List.getElem_mem hlt);have hx0:0<x.atoms.length:=by rw[hxa];simp
     have hxl:=tT hxv;have HC:=ax hC;have hji:(j:Int)<(l.length:Int):=by omega
     have p0:wr.cell? ⟨gb,go+j*2,none⟩=some (.slice P x.facts.length p):=(Q9.o.cell (p:=⟨gb,go+j*2,none⟩) hgl).trans q0;have p1:wr.cell? ⟨gb,go+j*2+1,none⟩=some (.slice Q x.atoms.length q):=(Q9.o.cell (p:=⟨gb,go+j*2+1,none⟩) hgl).trans q1;have hgr:gb<wr.heap.size:=by omega
     replace hx:=ax hx;clear q0 q1 hC hxa hxv;(replace ZQ:=k4r.z);(go_wp2_with fail);refine(xX _ x k A B t X1 X2 X3 X4 n1 n2 n3 n4 d1 d2 d3 d4 K2 _ (HC.o.bz (ai Q9.o _)) hx0 (by omega) l2 (fun _=>hA)).mono ?_;rintro e w2 ⟨r,rfl,oX,hB2⟩;obtain⟨⟨F,n,f,G,m,g,rfl⟩,oX⟩:=oX;have OX:=ax oX;have hbx:Below wr.heap.size wr (wr.alloc (.cells #[.slice P x.facts.length p,.slice Q x.atoms.length q] aC)):=ai aU _;have HB2:=ax ((hbx.trans (hB2.mono hbx.size)));have hz2:=HB2.o.size;have OY2:=ax (OY.o.bz HB2.o);clear oX hB2 hbx p0 p1 ZQ
     cases hy:gy k A B x K2 with
     | none=>
      have E3:aJ (eH a k A B K2=none):=ax (by rw[E2.o];exact wP hlt (by rw[<-hx.o];exact hy));clear hy;go_wp2;go_ret2;exact⟨_,_,by rw[E3.o];rfl,by rw[E3.o];exact bg.nil _ _,ai (HB1.o.trans ((Q9.o.trans (HB2.o.mono xx)).mono (by omega))) _⟩
     | some y=>
      have VQ:=ax (OX.o y hy)
      have Ar:aJ (∀(q:Nat) (h1:q<(ys++[y]).length) (h2:q<l.length),gy k A B l[q] K2=some (ys++[y])[q]):=ax fun q h1 h2=>by
       have hl:=HL.o;by_cases e:q<ys.length
       ·rw[List.getElem_append_left e];exact HY.o q e h2
       ·have eq:q=j:=by simp at h1;omega
        subst eq;rw[List.getElem_append_right (by omega)];simp only[hl,Nat.sub_self,List.getElem_cons_zero];rw[<-hx.o];exact hy
      have hjl:aJ (ys.length+1<=1049600):=ax (by have:=HL.o;omega);have OY3:aJ (bg wr w1.heap.size (.slice R2 j r2) us ys):=OY;clear hy OX HY OY;(go_wp2_with (at_builtin;refine vK (w0:=wr) (base:=w1.heap.size) (mid:=wr.heap.size) (mX:=[y]) rfl _ _ rfl rfl OY3.o (ai (ai HB2.o _) _) xx (bg.one (g:=w2.heap.size+1) (ae.dA (by simp)) (by omega) (aI.bz (aI.bq VQ.o (by simp)) (ai (ai aU _) _))) bn rfl hjl.o ?_;intro A3 c3 w3 hO3 hg3 hB3;have O3:=ax hO3;have HB3:=ax (((Q9.o.trans (HB2.o.mono xx)).trans (Below.mono (ai (ai aU (.cells #[.slice F n f,.slice G m g] aC)) (.cells #[.slice F n f,.slice G m g] aC)) (by omega))).trans hB3);clear hO3 hg3 hB3;simp only[length_cons,length_nil,Nat.zero_add] at O3⊢;rw[HL.o] at O3⊢))
      go_round
      case rel=>exact⟨j+1,A3,c3,ys++[y],_,by omega,by simp[HL.o],by go_num,rfl,Ar.o,O3.o,HB3.o⟩
      case measure=>simp[intOf];omega
    ·obtain rfl:j=l.length:=by omega
     have E3:aJ (eH a k A B K2=some ys):=ax (by rw[E2.o];exact wQ HL.o fun q h1 h2=>HY.o q h2 h1);go_wp2;go_ret2;exact⟨_,us,by rw[E3.o];rfl,by rw[E3.o];exact OY.o.bq,HB1.o.trans (Q9.o.mono (by omega))⟩
end
end Go.Proofs.YtjbboklnegfohaaGreat
