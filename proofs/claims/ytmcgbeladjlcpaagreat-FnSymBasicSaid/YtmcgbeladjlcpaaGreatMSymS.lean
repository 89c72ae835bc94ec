/- Reading an assertion out of a list of our own; comparing lists of assertions (the law's slAssertions). -/
import Derived.Test.YtmcgbeladjlcpaaGreatSame
import Derived.Deep.DeepCutAuto
import Derived.Test.YtmcgbeladjlcpaaGreatMExpL
set_option linter.unusedSimpArgs false
set_option linter.unusedVariables false
set_option maxRecDepth 100000
set_option maxHeartbeats 25600000
namespace Go.Proofs.YtmcgbeladjlcpaaGreat
section
open Go Go.RowKit Go.Proofs
attribute [local go_sem ↓] Go.wp_at_zero Go.wp_at_succ
theorem AsnV.mono0 {w:World} {lo hi:Nat} {v:Value} {a:Asn} (h:AsnV w lo hi v a) (hh:hi≤w.heap.size):AsnV w 0 w.heap.size v a:=by
 obtain ⟨A1,c1,A2,c2,e,h1,h2⟩:=h
 exact ⟨A1,c1,A2,c2,e,h1.mono (Nat.zero_le _) hh,h2.mono (Nat.zero_le _) hh⟩
theorem A2O.atC {w:World} {base n c:Nat} {A:Option Addr} {vs:List Value} {ss:List Asn} (h:A2O w base (.slice A n c) vs ss) {k:Nat} (hk:k<ss.length):∃ b o B c D d,A=some ⟨b,o,none⟩∧b<w.heap.size∧w.cell? ⟨b,o+k*2,none⟩=some (.slice B ss[k].facts.length c)∧w.cell? ⟨b,o+k*2+1,none⟩=some (.slice D ss[k].atoms.length d)∧AsnC w base w.heap.size (.agg #[.slice B ss[k].facts.length c,.slice D ss[k].atoms.length d]) ss[k]:=by
 have h1:=h.rd
 have hl:vs.length=ss.length * 2:=h1.raw.1
 have hr:=rowsA_len ss
 obtain ⟨b,o,e,-,-,hc⟩:=h1.raw.form (by omega)
 obtain ⟨g1,g2⟩:=rowsA_get ss k hk
 have r1:=h.els.at_ (k*2) (by omega) (by omega)
 have r2:=h.els.at_ (k*2+1) (by omega) (by omega)
 have x1:(rowsA ss)[k*2]'(by omega)=.inl ss[k].facts:=by rw[List.getElem?_eq_getElem (by omega)] at g1;exact Option.some.inj g1
 have x2:(rowsA ss)[k*2+1]'(by omega)=.inr ss[k].atoms:=by rw[List.getElem?_eq_getElem (by omega)] at g2;exact Option.some.inj g2
 rw[x1] at r1
 rw[x2] at r2
 have c1:=hc (k*2) _ (List.getElem?_eq_getElem (by omega))
 have c2:=hc (k*2+1) _ (List.getElem?_eq_getElem (by omega))
 have r1:FactsO w base vs[k*2] ss[k].facts:=r1
 have r2:AtomsO w base vs[k*2+1] ss[k].atoms:=r2
 obtain ⟨B,c,e1,-⟩:=r1.reads
 obtain ⟨D,d,e2,-⟩:=r2.reads
 rw[e1] at c1 r1
 rw[e2] at c2 r2
 exact ⟨b,o,B,c,D,d,e,block_lt_of_cell c1,c1,c2,AsnO.C ⟨_,_,rfl,r1,r2⟩⟩
theorem c_impl_SameT {lo hi lo' hi':Nat} (v v':Value) (a:Asn) (w:World) (h:AsnV w lo hi v a) (h':AsnV w lo' hi' v' a):Calls Tryz.prog 73 #[v,v'] w fun e w'=>e=.returned (.bool true)∧Below w.heap.size w w':=by
 refine (c_impl_Same v v' a a w h h').mono ?_
 rintro e w' ⟨rfl,hB⟩
 exact ⟨by simp,hB⟩
theorem t_slAsns {lo hi lo' hi':Nat} (A A':Option Addr) (c c':Nat) (x:List Asn) (w:World) (h:AsnsV w lo hi A x) (h':AsnsV w lo' hi' A' x):Calls Tryz.prog 14 #[.slice A x.length c,.slice A' x.length c'] w fun e w'=>e=.returned (.bool true)∧Below w.heap.size w w':=by
 have hl:x.length≤1049600:=by obtain ⟨vs,h1,-⟩:=h;exact h1.lim
 have H:=Lib.hid h
 have H':=Lib.hid h'
 clear h h'
 go_enter Tryz.func14,Tryz.ntmps14
 go_wp2_with fail
 go_loopw [5] (fun i wr=>∃ k:Nat,k≤x.length∧i=.int .i64 k∧Hid (Below w.heap.size w wr)) (fun i _=>x.length - (intOf i).toNat)
 case atStart=>exact ⟨0,Nat.zero_le _,rfl,Lib.hid (Below.refl _ _)⟩
 case round=>
  obtain ⟨k,hk,rfl,HB⟩:=hrel
  by_cases hlt:k<x.length
  ·obtain ⟨b,o,R,d,R2,d2,rfl,lb,g0,g1,v0,v1⟩:=(H.out.below HB.out).at hlt
   obtain ⟨b',o',R',d',R2',d2',rfl,lb',g0',g1',v0',v1'⟩:=(H'.out.below HB.out).at hlt
   have hkx:(k:Int)<(x.length:Int):=by omega
   have S1:Hid (AsnV wr lo hi (.agg #[.slice R x[k].facts.length d,.slice R2 x[k].atoms.length d2]) x[k]):=Lib.hid ⟨_,_,_,_,rfl,v0,v1⟩
   have S2:Hid (AsnV wr lo' hi' (.agg #[.slice R' x[k].facts.length d',.slice R2' x[k].atoms.length d2']) x[k]):=Lib.hid ⟨_,_,_,_,rfl,v0',v1'⟩
   clear v0 v1 v0' v1'
   obtain ⟨s,hs⟩:∃ s,s=x[k]:=⟨_,rfl⟩
   rw[←hs] at g0 g1 g0' g1' S1 S2
   clear hs
   go_wp2_with fail
   refine wp_region_noPanic ?_
   refine wp_region_held_drew (S:=(fun w'=>(w'.cell? ⟨b,o+k*2,none⟩=some (.slice R s.facts.length d)∧w'.cell? ⟨b,o+k*2+1,none⟩=some (.slice R2 s.atoms.length d2))∧w'.cell? ⟨b',o'+k*2,none⟩=some (.slice R' s.facts.length d')∧w'.cell? ⟨b',o'+k*2+1,none⟩=some (.slice R2' s.atoms.length d2'))) (by kernel_rfl) (⟨⟨g0,g1⟩,g0',g1'⟩) (fun hHeld=>?_)
   refine tk2 0 rfl hHeld ?_
   try simp only[zz]
   refine tk2 1 rfl hHeld ?_
   try simp only[zz]
   refine tk2 2 rfl hHeld ?_
   try simp only[zz]
   refine tk2 3 rfl hHeld ?_
   try simp only[zz]
   refine tk2 4 rfl hHeld ?_
   try simp only[zz]
   refine tk2 5 rfl hHeld ?_
   try simp only[zz]
   refine tk2 6 rfl hHeld ?_
   try simp only[zz]
   refine tk2 7 rfl hHeld ?_
   try simp only[zz]
   refine rdc 8 rfl fun K hK=>?_
   try simp only[zz]
   (go_simp;refine (c_impl_SameT _ _ s _ (S1.out.below (Below.refl _ _).drew) (S2.out.below (Below.refl _ _).drew)).mono ?_;rintro e w1 ⟨rfl,hB1⟩;have hS:Below wr.heap.size wr w1:=(Below.refl _ _).drew.trans hB1)
   refine hK.out _ _ (⟨⟨(hS.cell (p:=⟨b,o+k*2,none⟩) lb).trans g0,(hS.cell (p:=⟨b,o+k*2+1,none⟩) lb).trans g1⟩,(hS.cell (p:=⟨b',o'+k*2,none⟩) lb').trans g0',(hS.cell (p:=⟨b',o'+k*2+1,none⟩) lb').trans g1'⟩) ?_
   clear hHeld hK K
   intro hHeld
   try simp only[zz]
   refine tk2 9 rfl hHeld ?_
   try simp only[zz]
   refine wpAnyH_done (by kernel_rfl) ?_ _
   refine NoPanic.normal ?_
   have HB2:=Lib.hid (bgo HB.out hS)
   go_wp2_with fail
   go_round
   case rel=>exact ⟨k+1,by omega,by go_num,HB2⟩
   case measure=>simp[intOf];omega
  ·obtain rfl:k=x.length:=by omega
   go_wp2_with fail
   go_ret
   exact ⟨rfl,HB.out⟩
end

/- Symbolic execution: impl.assigned, impl.allocatedFor. Printed by genSymJ.py. -/
section
open Go Go.RowKit Go.Proofs
attribute [local go_sem ↓] Go.wp_at_zero Go.wp_at_succ
theorem forget_len {a b:Asn} {x p:Int} {K:Nat} (h:forgetF a x K=some (b,p)):b.facts.length=a.facts.length:=by
 unfold forgetF at h
 split at h
 ·obtain ⟨n,-,e⟩:=Option.map_eq_some_iff.1 h
  injection e with e1 e2
  rw[←e1];simp[substA]
 ·injection h with h
  injection h with e1 e2
  rw[e1]
theorem forget_alen {a b:Asn} {x p:Int} {K:Nat} (h:forgetF a x K=some (b,p)):b.atoms.length=a.atoms.length:=by
 unfold forgetF at h
 split at h
 ·obtain ⟨n,-,e⟩:=Option.map_eq_some_iff.1 h
  injection e with e1 e2
  rw[←e1];simp[substA]
 ·injection h with h
  injection h with e1 e2
  rw[e1]
theorem AsnO.mkA {w:World} {base:Nat} {F G G':Option Addr} {f g g' n n':Nat} {b:Asn} {ys:List Atm} {m:Nat} (h:AsnO w base (.agg #[.slice F n f,.slice G n' g]) b) (h2:AtomsO w base (.slice G' m g') ys):AsnO w base (.agg #[.slice F n f,.slice G' m g']) ⟨b.facts,ys⟩:=by
 obtain ⟨fv,av,e,p1,p2⟩:=h
 injection e with e
 injection e with e
 injection e with e1 e2
 subst e1
 exact ⟨_,_,rfl,p1,h2⟩
def OptO (w:World) (base:Nat) (r:Value) (o:Option Asn):Prop:=(∃ F n f G m g,r=.agg #[.slice F n f,.slice G m g])∧∀ b,o=some b→AsnO w base r b
theorem OptO.none (w:World) (base:Nat):OptO w base (.agg #[.slice .none 0 0,.slice .none 0 0]) .none:=⟨⟨_,_,_,_,_,_,rfl⟩,fun _ h=>by cases h⟩
theorem OptO.some {w:World} {base:Nat} {r:Value} {a:Asn} (h:AsnO w base r a):OptO w base r (.some a):=by
 refine ⟨?_,fun b e=>by obtain rfl:=Option.some.inj e;exact h⟩
 obtain ⟨F,f,G,g,rfl⟩:=h.I.form
 exact ⟨_,_,_,_,_,_,rfl⟩
theorem OptO.okX {w:World} {base:Nat} {r:Value} {a:Asn} (h:AsnO w base r a):OptO w base r (okX a):=by
 refine ⟨(OptO.some h).1,fun b e=>?_⟩
 rw[(okX_ok e).2];exact h
theorem okX_some {a:Asn}:(okX a).isSome=a.valid:=by unfold okX;split<;>simp_all
theorem AsnO.setT2 {w:World} {base:Nat} {v:Value} {a:Asn} (h:AsnO w base v a) {g:Nat} {cs:Array Value} (hk:Blk w g tAs cs) (u u':Value):AsnO ((w.setCell ⟨g,0,none⟩ u).setCell ⟨g,1,none⟩ u') base v a:=by
 obtain ⟨fv,av,e,p1,p2⟩:=h
 exact ⟨fv,av,e,(p1.setT hk (by decide) _ _).setT (hk.set_ _ _) (by decide) _ _,(p2.setT hk (by decide) _ _).setT (hk.set_ _ _) (by decide) _ _⟩
theorem AsnO.atomsV {w:World} {base:Nat} {F G:Option Addr} {n m f g:Nat} {b:Asn} (h:AsnO w base (.agg #[.slice F n f,.slice G m g]) b):AtomsV w base w.heap.size G b.atoms:=by
 obtain ⟨A1,c1,A2,c2,e,h1,h2⟩:=h.reads
 injection e with e
 injection e with e
 injection e with e1 e2
 injection e2 with e2
 injection e2 with e2
 subst e2
 exact h2
theorem c_withFactX {lo hi:Nat} (v:Value) (b:Asn) (x p t:Int) (w:World) (h:AsnV w lo hi v b) (hn:b.facts.length+1≤1049600) :
  Calls Tryz.prog 211 #[v,(⟨true,x,swp x p t⟩:Fct).val] w fun e w'=>∃ F f G g,e=.returned (.agg #[.slice F (setX b x p t).facts.length f,.slice G (setX b x p t).atoms.length g])∧AsnO w' w.heap.size (.agg #[.slice F (setX b x p t).facts.length f,.slice G (setX b x p t).atoms.length g]) (setX b x p t)∧Below w.heap.size w w':=by
 refine (c_impl_withFact v b ⟨true,x,swp x p t⟩ w h hn).mono ?_
 rintro e w' ⟨r,rfl,o,hB⟩
 obtain ⟨F,f,G,g,rfl⟩:=o.I.form
 exact ⟨F,f,G,g,rfl,o,hB⟩
theorem c_fTerm (vF vA:Value) (x p t:Int) (w:World):Calls Tryz.prog 212 #[.agg #[vF,vA,.int .i64 x,.int .i64 p],.int .i64 t] w fun e w'=>e=.returned (.int .i64 (swp x p t))∧Below w.heap.size w w':=by
 go_enter Tryz.func212,Tryz.ntmps212
 go_wp2_with fail
 refine (c_replaceTerm t x p _).mono ?_
 rintro e w1 ⟨rfl,rfl⟩
 go_wp2_with fail
 go_ret
 exact ⟨rfl,bel⟩
theorem c_impl_assigned {lo hi:Nat} (v:Value) (a:Asn) (x t:Int) (K:Nat) (w:World) (h:AsnV w lo hi v a) (hK:K<512) (hx:isTermB x=true) (hl:a.facts.length≤1000) :
  Calls Tryz.prog 138 #[v,.int .i64 x,.int .i64 t,.int .u16 K] w fun e w'=>∃ r,e=.returned (.tuple #[r,.bool (assignF a x t K).isSome])∧OptO w' w.heap.size r (assignF a x t K)∧Below w.heap.size w w':=by
 have hV:=Lib.hid h
 obtain ⟨A1,c1,A2,c2,rfl,-,-⟩:=h
 go_enter Tryz.func138,Tryz.ntmps138
 have k0:Blk ((w.alloc (.cells #[.slice A1 a.facts.length c1,.slice A2 a.atoms.length c2] tAs)).alloc (.cells #[.slice none 0 0,.slice none 0 0] tAs)) w.heap.size tAs #[.slice A1 a.facts.length c1,.slice A2 a.atoms.length c2]:=blks
 have k8:Blk ((w.alloc (.cells #[.slice A1 a.facts.length c1,.slice A2 a.atoms.length c2] tAs)).alloc (.cells #[.slice none 0 0,.slice none 0 0] tAs)) (w.heap.size+1) tAs #[.slice none 0 0,.slice none 0 0]:=blks
 go_wp2_with fail
 refine (c_impl_forget _ a x K _ (hV.out.below bel) hK hx).mono ?_
 rintro e w1 ⟨hF,hB1⟩
 have hB:=bgo (w:=w) bel hB1
 replace k0:=k0.next hB1
 replace k8:=k8.next hB1
 have hz:=hB1.size
 simp only[World.size_alloc] at hz
 clear hB1
 cases hf:forgetF a x K with
 | none=>
  rw[hf] at hF
  simp only[FgR] at hF
  subst hF
  have E:Hid (assignF a x t K=none):=Lib.hid (by unfold assignF;rw[hf];rfl)
  clear hf
  (replace qk8:=k8.cell;replace rk8:=k8.frozen;replace lk8:=k8.lt)
  go_wp2_with fail
  refine bodyPost_ret (v:=.tuple #[.agg #[.slice none 0 0,.slice none 0 0],.bool false]) (by simp[results,Tryz.results138,go_sem,qk8,lk8]) rfl ⟨_,by rw[E.out];rfl,?_,bel⟩
  rw[E.out]
  exact OptO.none _ _
 | some bp=>
  obtain ⟨b,p⟩:=bp
  rw[hf] at hF
  simp only[FgR] at hF
  obtain ⟨F,f,G,g,rfl,oB⟩:=hF
  have E:Hid (assignF a x t K=okX (setX b x p t)):=Lib.hid (by unfold assignF;rw[hf];rfl)
  have HL:Hid (b.facts.length=a.facts.length):=Lib.hid (forget_len hf)
  have OB:=Lib.hid (oB.lower (base':=w.heap.size) (by (try simp)<;>omega))
  clear hf oB
  (replace qk8:=k8.cell;replace rk8:=k8.frozen;replace lk8:=k8.lt)
  go_upto_region 4 with fail
  have k10:Blk (w1.alloc (.cells #[.slice F b.facts.length f,.slice G b.atoms.length g,.int .i64 x,.int .i64 p] tFg)) w1.heap.size tFg #[.slice F b.facts.length f,.slice G b.atoms.length g,.int .i64 x,.int .i64 p]:=blks
  have hBq:Below w1.heap.size w1 (w1.alloc (.cells #[.slice F b.facts.length f,.slice G b.atoms.length g,.int .i64 x,.int .i64 p] tFg)):=bbox (Below.refl _ _) _
  replace k8:=k8.next hBq
  replace OB:=Lib.hid (OB.out.below hBq)
  have HB:=Lib.hid (bgo hB hBq)
  have hk8:=k8.lt
  have hyW:w.heap.size+2≤w1.heap.size:=by omega
  obtain ⟨y,hy⟩:∃ y,y=w1.heap.size:=⟨_,rfl⟩
  have hsW:(w1.alloc (.cells #[.slice F b.facts.length f,.slice G b.atoms.length g,.int .i64 x,.int .i64 p] tFg)).heap.size=y+1:=by simp[hy]
  rw[←hy] at k10 hyW ⊢
  clear hBq k0 hB qk8 rk8 lk8
  generalize w1.alloc (.cells #[.slice F b.facts.length f,.slice G b.atoms.length g,.int .i64 x,.int .i64 p] tFg)=W at k8 k10 OB HB hsW hk8 ⊢
  clear hy
  have hlb:b.facts.length+1≤1049600:=by rw[HL.out];omega
  go_cut [12] (fun s12 wc=>∃ (xb:Nat) (F2:Option Addr) (f2:Nat) (G2:Option Addr) (g2:Nat),s12=.pointer (some ⟨xb,0,none⟩)∧Hid (AsnO wc w.heap.size (.agg #[.slice F2 (setX b x p t).facts.length f2,.slice G2 (setX b x p t).atoms.length g2]) (setX b x p t))∧Blk wc xb tAs #[.slice F2 (setX b x p t).facts.length f2,.slice G2 (setX b x p t).atoms.length g2]∧Blk wc (w.heap.size+1) tAs #[.slice none 0 0,.slice none 0 0]∧w.heap.size+2≤xb∧Hid (Below w.heap.size w wc))
  case first=>
   have lk10:=k10.lt
   go_wp2_with fail
   refine wp_region_noPanic ?_
   refine wp_region_held_drew (S:=(fun w'=>∀ i,w'.cell? ⟨y,i,none⟩=#[.slice F b.facts.length f,.slice G b.atoms.length g,.int .i64 x,.int .i64 p][i]?)) (by kernel_rfl) (k10.drew.cell) (fun hHeld=>?_)
   clear lk10
   replace k8:=k8.drew
   replace k10:=k10.drew
   replace OB:=Lib.hid (OB.out.below (Below.refl _ _).drew)
   replace HB:=Lib.hid HB.out.drew
   have hzq:W.heap.size≤W.drew.heap.size:=Nat.le_refl _
   generalize W.drew=wq at k8 k10 OB HB hzq hHeld ⊢
   refine tk2 0 rfl hHeld ?_
   try simp only[zz]
   refine tk2 1 rfl hHeld ?_
   try simp only[zz]
   refine tk2 2 rfl hHeld ?_
   try simp only[zz]
   refine tk2 3 rfl hHeld ?_
   try simp only[zz]
   refine tk2 4 rfl hHeld ?_
   try simp only[zz]
   refine wpAnyH_ready (rs:=[5,8]) (by kernel_rfl) (by simp) ?_
   refine AllReadyH.cons rfl (fun K hK=>?_) (AllReadyH.cons rfl (fun K hK=>?_) (AllReadyH.nil))
   ·skip
    try simp only[zz]
    go_simp
    refine (c_fTerm _ _ x p t _).mono ?_
    rintro e wq ⟨rfl,hBq⟩
    replace OB:=Lib.hid (OB.out.below hBq)
    replace k8:=k8.next hBq
    replace k10:=k10.next hBq
    replace HB:=Lib.hid (bgo HB.out hBq)
    replace hzq:=Nat.le_trans hzq hBq.size
    clear hBq
    refine hK.out _ _ k10.cell (fun hHeldN=>?_)
    clear hHeld hK K
    have hHeld:=hHeldN
    clear hHeldN
    refine tk2 6 rfl hHeld ?_
    try simp only[zz]
    refine wpAnyH_ready (rs:=[7,8]) (by kernel_rfl) (by simp) ?_
    refine AllReadyH.cons rfl (fun K hK=>?_) (AllReadyH.cons rfl (fun K hK=>?_) (AllReadyH.nil))
    ·skip
     try simp only[zz]
     go_simp
     refine (c_withFactX _ b x p t _ OB.out.reads hlb).mono ?_
     rintro e wq ⟨F2,f2,G2,g2,rfl,oX,hBq⟩
     have OX:=Lib.hid (oX.lower (base':=w.heap.size) (by omega))
     clear oX
     replace k8:=k8.next hBq
     replace k10:=k10.next hBq
     replace HB:=Lib.hid (bgo HB.out hBq)
     replace hzq:=Nat.le_trans hzq hBq.size
     clear hBq
     refine hK.out _ _ k10.cell (fun hHeldN=>?_)
     clear hHeld hK K
     have hHeld:=hHeldN
     clear hHeldN
     refine rdc 8 rfl fun K hK=>?_
     try simp only[zz]
     go_simp
     refine hK.out _ _ ((rowC_ (bbox (Below.refl _ _) _) k10.lt k10.cell)) ?_
     clear hHeld hK K
     intro hHeld
     try simp only[zz]
     have hBq:Below wq.heap.size wq (wq.alloc (.cells #[.slice none 0 0,.slice none 0 0] tAs)):=bbox (Below.refl _ _) _
     have kBox:Blk (wq.alloc (.cells #[.slice none 0 0,.slice none 0 0] tAs)) wq.heap.size tAs #[.slice none 0 0,.slice none 0 0]:=Blk.new _ _ _
     obtain ⟨xb,hxb⟩:∃ x,x=wq.heap.size:=⟨_,rfl⟩
     have hxb2:W.heap.size≤xb:=by omega
     replace k8:=k8.next hBq
     replace k10:=k10.next hBq
     replace HB:=Lib.hid (bgo HB.out hBq)
     replace hzq:=Nat.le_trans hzq hBq.size
     try replace OB:=Lib.hid (OB.out.below hBq)
     try replace OX:=Lib.hid (OX.out.below hBq)
     rw[←hxb] at kBox ⊢
     clear hBq hxb
     generalize wq.alloc (.cells #[.slice none 0 0,.slice none 0 0] tAs)=wq at *
     have hlB:=kBox.lt
     have qb:=kBox.cell
     have rb:=kBox.frozen
     refine rdc 9 rfl fun K hK=>?_
     try simp only[zz]
     go_simp
     refine hK.out _ _ (((k10.far (p:=⟨xb,0,none⟩) (k10.ne_ kBox (by decide)) _).far (p:=⟨xb,1,none⟩) (k10.ne_ kBox (by decide)) _).cell) ?_
     clear hHeld hK K
     intro hHeld
     try simp only[zz]
     refine wpAnyH_done (by kernel_rfl) ?_ _
     refine NoPanic.normal ?_
     go_wp2_with fail
     go_meet
     case rel=>
      refine ⟨xb,F2,f2,G2,g2,rfl,Lib.hid (AsnO.setT2 OX.out kBox _ _),?_,(k8.far (p:=⟨xb,0,none⟩) (by simp only;omega) _).far (p:=⟨xb,1,none⟩) (by simp only;omega) _,by omega,Lib.hid ((HB.out.setCell (p:=⟨xb,0,none⟩) (by simp only;omega) _).setCell (p:=⟨xb,1,none⟩) (by simp only;omega) _)⟩
      have:=(kBox.set_ 0 (.slice F2 (setX b x p t).facts.length f2)).set_ 1 (.slice G2 (setX b x p t).atoms.length g2)
      simpa using this
    ·skip
     try simp only[zz]
     go_simp
     refine hK.out _ _ (rowC_ (bbox (Below.refl _ _) _) k10.lt k10.cell) (fun hHeldN=>?_)
     clear hHeld hK K
     have hHeld:=hHeldN
     clear hHeldN
     have hBq:Below wq.heap.size wq (wq.alloc (.cells #[.slice none 0 0,.slice none 0 0] tAs)):=bbox (Below.refl _ _) _
     have kBox:Blk (wq.alloc (.cells #[.slice none 0 0,.slice none 0 0] tAs)) wq.heap.size tAs #[.slice none 0 0,.slice none 0 0]:=Blk.new _ _ _
     obtain ⟨xb,hxb⟩:∃ x,x=wq.heap.size:=⟨_,rfl⟩
     have hxb2:W.heap.size≤xb:=by omega
     replace k8:=k8.next hBq
     replace k10:=k10.next hBq
     replace HB:=Lib.hid (bgo HB.out hBq)
     replace hzq:=Nat.le_trans hzq hBq.size
     try replace OB:=Lib.hid (OB.out.below hBq)
     try replace OX:=Lib.hid (OX.out.below hBq)
     rw[←hxb] at kBox ⊢
     clear hBq hxb
     generalize wq.alloc (.cells #[.slice none 0 0,.slice none 0 0] tAs)=wq at *
     refine rdc 7 rfl fun K hK=>?_
     try simp only[zz]
     (go_simp;refine (c_withFactX _ b x p t _ OB.out.reads hlb).mono ?_;rintro e wq ⟨F2,f2,G2,g2,rfl,oX,hBq⟩;have OX:=Lib.hid (oX.lower (base':=w.heap.size) (by omega));clear oX;replace k8:=k8.next hBq;replace k10:=k10.next hBq;replace HB:=Lib.hid (bgo HB.out hBq);replace hzq:=Nat.le_trans hzq hBq.size;have kBox:=kBox.next hBq)
     refine hK.out _ _ (k10.cell) ?_
     clear hHeld hK K
     intro hHeld
     try simp only[zz]
     clear hBq
     have hlB:=kBox.lt
     have qb:=kBox.cell
     have rb:=kBox.frozen
     refine rdc 9 rfl fun K hK=>?_
     try simp only[zz]
     go_simp
     refine hK.out _ _ (((k10.far (p:=⟨xb,0,none⟩) (k10.ne_ kBox (by decide)) _).far (p:=⟨xb,1,none⟩) (k10.ne_ kBox (by decide)) _).cell) ?_
     clear hHeld hK K
     intro hHeld
     try simp only[zz]
     refine wpAnyH_done (by kernel_rfl) ?_ _
     refine NoPanic.normal ?_
     go_wp2_with fail
     go_meet
     case rel=>
      refine ⟨xb,F2,f2,G2,g2,rfl,Lib.hid (AsnO.setT2 OX.out kBox _ _),?_,(k8.far (p:=⟨xb,0,none⟩) (by simp only;omega) _).far (p:=⟨xb,1,none⟩) (by simp only;omega) _,by omega,Lib.hid ((HB.out.setCell (p:=⟨xb,0,none⟩) (by simp only;omega) _).setCell (p:=⟨xb,1,none⟩) (by simp only;omega) _)⟩
      have:=(kBox.set_ 0 (.slice F2 (setX b x p t).facts.length f2)).set_ 1 (.slice G2 (setX b x p t).atoms.length g2)
      simpa using this
   ·skip
    try simp only[zz]
    go_simp
    refine hK.out _ _ (rowC_ (bbox (Below.refl _ _) _) k10.lt k10.cell) (fun hHeldN=>?_)
    clear hHeld hK K
    have hHeld:=hHeldN
    clear hHeldN
    have hBq:Below wq.heap.size wq (wq.alloc (.cells #[.slice none 0 0,.slice none 0 0] tAs)):=bbox (Below.refl _ _) _
    have kBox:Blk (wq.alloc (.cells #[.slice none 0 0,.slice none 0 0] tAs)) wq.heap.size tAs #[.slice none 0 0,.slice none 0 0]:=Blk.new _ _ _
    obtain ⟨xb,hxb⟩:∃ x,x=wq.heap.size:=⟨_,rfl⟩
    have hxb2:W.heap.size≤xb:=by omega
    replace k8:=k8.next hBq
    replace k10:=k10.next hBq
    replace HB:=Lib.hid (bgo HB.out hBq)
    replace hzq:=Nat.le_trans hzq hBq.size
    try replace OB:=Lib.hid (OB.out.below hBq)
    try replace OX:=Lib.hid (OX.out.below hBq)
    rw[←hxb] at kBox ⊢
    clear hBq hxb
    generalize wq.alloc (.cells #[.slice none 0 0,.slice none 0 0] tAs)=wq at *
    refine rdc 5 rfl fun K hK=>?_
    try simp only[zz]
    (go_simp;refine (c_fTerm _ _ x p t _).mono ?_;rintro e wq ⟨rfl,hBq⟩;replace OB:=Lib.hid (OB.out.below hBq);replace k8:=k8.next hBq;replace k10:=k10.next hBq;replace HB:=Lib.hid (bgo HB.out hBq);replace hzq:=Nat.le_trans hzq hBq.size;have kBox:=kBox.next hBq)
    refine hK.out _ _ (k10.cell) ?_
    clear hHeld hK K
    intro hHeld
    try simp only[zz]
    clear hBq
    refine tk2 6 rfl hHeld ?_
    try simp only[zz]
    refine rdc 7 rfl fun K hK=>?_
    try simp only[zz]
    (go_simp;refine (c_withFactX _ b x p t _ OB.out.reads hlb).mono ?_;rintro e wq ⟨F2,f2,G2,g2,rfl,oX,hBq⟩;have OX:=Lib.hid (oX.lower (base':=w.heap.size) (by omega));clear oX;replace k8:=k8.next hBq;replace k10:=k10.next hBq;replace HB:=Lib.hid (bgo HB.out hBq);replace hzq:=Nat.le_trans hzq hBq.size;have kBox:=kBox.next hBq)
    refine hK.out _ _ (k10.cell) ?_
    clear hHeld hK K
    intro hHeld
    try simp only[zz]
    clear hBq
    have hlB:=kBox.lt
    have qb:=kBox.cell
    have rb:=kBox.frozen
    refine rdc 9 rfl fun K hK=>?_
    try simp only[zz]
    go_simp
    refine hK.out _ _ (((k10.far (p:=⟨xb,0,none⟩) (k10.ne_ kBox (by decide)) _).far (p:=⟨xb,1,none⟩) (k10.ne_ kBox (by decide)) _).cell) ?_
    clear hHeld hK K
    intro hHeld
    try simp only[zz]
    refine wpAnyH_done (by kernel_rfl) ?_ _
    refine NoPanic.normal ?_
    go_wp2_with fail
    go_meet
    case rel=>
     refine ⟨xb,F2,f2,G2,g2,rfl,Lib.hid (AsnO.setT2 OX.out kBox _ _),?_,(k8.far (p:=⟨xb,0,none⟩) (by simp only;omega) _).far (p:=⟨xb,1,none⟩) (by simp only;omega) _,by omega,Lib.hid ((HB.out.setCell (p:=⟨xb,0,none⟩) (by simp only;omega) _).setCell (p:=⟨xb,1,none⟩) (by simp only;omega) _)⟩
     have:=(kBox.set_ 0 (.slice F2 (setX b x p t).facts.length f2)).set_ 1 (.slice G2 (setX b x p t).atoms.length g2)
     simpa using this
  case rest=>
   obtain ⟨xb,F2,f2,G2,g2,rfl,OX,kb,k8,hxb,HB⟩:=hcut
   have hl0:=kb.lt
   have HVX:Hid (AsnV wc 0 wc.heap.size (.agg #[.slice F2 (setX b x p t).facts.length f2,.slice G2 (setX b x p t).atoms.length g2]) (setX b x p t)):=Lib.hid (OX.out.reads.mono0 (Nat.le_refl _))
   (replace qkb:=kb.cell;replace rkb:=kb.frozen;replace lkb:=kb.lt;replace qk8:=k8.cell;replace rk8:=k8.frozen;replace lk8:=k8.lt)
   go_wp2_with fail
   clear qk8 rk8 lk8
   refine wp_region_noPanic ?_
   refine wp_region_held_drew (S:=(fun w'=>∀ i,w'.cell? ⟨xb,i,none⟩=#[.slice F2 (setX b x p t).facts.length f2,.slice G2 (setX b x p t).atoms.length g2][i]?)) (by kernel_rfl) (kb.drew.cell) (fun hHeld=>?_)
   refine tk2 0 rfl hHeld ?_
   try simp only[zz]
   refine tk2 1 rfl hHeld ?_
   try simp only[zz]
   refine rdc 2 rfl fun K hK=>?_
   try simp only[zz]
   (go_simp;refine (c_impl_AssertionValid _ (setX b x p t) _ (HVX.out.below (Below.refl _ _).drew)).mono ?_;rintro e w8 ⟨rfl,hB8⟩;replace hB8:Below wc.heap.size wc w8:=(Below.refl _ _).drew.trans hB8;have kb8:=kb.next hB8;have k88:=k8.next hB8;have OX8:=Lib.hid (OX.out.below hB8);have HB8:=Lib.hid (bgo HB.out hB8);clear hB8)
   refine hK.out _ _ (kb8.cell) ?_
   clear hHeld hK K
   intro hHeld
   try simp only[zz]
   have q88:=k88.cell
   have r88:=k88.frozen
   have l88:=k88.lt
   refine rdc 3 rfl fun K hK=>?_
   try simp only[zz]
   go_simp
   refine hK.out _ _ (((kb8.far (p:=⟨w.heap.size+1,0,none⟩) (by simp only;omega) _).far (p:=⟨w.heap.size+1,1,none⟩) (by simp only;omega) _).cell) ?_
   clear hHeld hK K
   intro hHeld
   try simp only[zz]
   refine rdc 4 rfl fun K hK=>?_
   try simp only[zz]
   go_simp
   refine hK.out _ _ (((kb8.far (p:=⟨w.heap.size+1,0,none⟩) (by simp only;omega) _).far (p:=⟨w.heap.size+1,1,none⟩) (by simp only;omega) _).cell) ?_
   clear hHeld hK K
   intro hHeld
   try simp only[zz]
   refine wpAnyH_done (by kernel_rfl) ?_ _
   refine NoPanic.normal ?_
   go_wp2_with fail
   have z6:=((k88.set_ 0 (.slice F2 (setX b x p t).facts.length f2)).set_ 1 (.slice G2 (setX b x p t).atoms.length g2)).cell
   refine bodyPost_ret (v:=.tuple #[.agg #[.slice F2 (setX b x p t).facts.length f2,.slice G2 (setX b x p t).atoms.length g2],.bool ((setX b x p t)).valid]) (by simp[results,Tryz.results138,go_sem,z6]) rfl ⟨_,by rw[E.out,okX_some],?_,?_⟩
   ·rw[E.out]
    exact OptO.okX (AsnO.setT2 OX8.out k88 _ _)
   ·exact (HB8.out.setCell (p:=⟨w.heap.size+1,0,none⟩) (by simp only;omega) _).setCell (p:=⟨w.heap.size+1,1,none⟩) (by simp only;omega) _
theorem c_impl_allocatedFor {lo hi:Nat} (v:Value) (a:Asn) (x:Int) (K:Nat) (w:World) (h:AsnV w lo hi v a) (hK:K<512) (hx:isTermB x=true) (hl:a.atoms.length≤1000) :
  Calls Tryz.prog 139 #[v,.int .i64 x,.int .u16 K] w fun e w'=>∃ r,e=.returned (.tuple #[r,.bool (cellNF a x K).isSome])∧OptO w' w.heap.size r (cellNF a x K)∧Below w.heap.size w w':=by
 have hV:=Lib.hid h
 obtain ⟨A1,c1,A2,c2,rfl,-,-⟩:=h
 go_enter Tryz.func139,Tryz.ntmps139
 have k0:Blk ((w.alloc (.cells #[.slice A1 a.facts.length c1,.slice A2 a.atoms.length c2] tAs)).alloc (.cells #[.slice none 0 0,.slice none 0 0] tAs)) w.heap.size tAs #[.slice A1 a.facts.length c1,.slice A2 a.atoms.length c2]:=blks
 have k8:Blk ((w.alloc (.cells #[.slice A1 a.facts.length c1,.slice A2 a.atoms.length c2] tAs)).alloc (.cells #[.slice none 0 0,.slice none 0 0] tAs)) (w.heap.size+1) tAs #[.slice none 0 0,.slice none 0 0]:=blks
 go_wp2_with fail
 refine (c_impl_forget _ a x K _ (hV.out.below bel) hK hx).mono ?_
 rintro e w1 ⟨hF,hB1⟩
 have hB:=bgo (w:=w) bel hB1
 replace k0:=k0.next hB1
 replace k8:=k8.next hB1
 have hz:=hB1.size
 simp only[World.size_alloc] at hz
 clear hB1
 cases hf:forgetF a x K with
 | none=>
  rw[hf] at hF
  simp only[FgR] at hF
  subst hF
  have E:Hid (cellNF a x K=none):=Lib.hid (by unfold cellNF;rw[hf];rfl)
  clear hf
  (replace qk8:=k8.cell;replace rk8:=k8.frozen;replace lk8:=k8.lt)
  go_wp2_with fail
  refine bodyPost_ret (v:=.tuple #[.agg #[.slice none 0 0,.slice none 0 0],.bool false]) (by simp[results,Tryz.results139,go_sem,qk8,lk8]) rfl ⟨_,by rw[E.out];rfl,?_,bel⟩
  rw[E.out]
  exact OptO.none _ _
 | some bp=>
  obtain ⟨b,p⟩:=bp
  rw[hf] at hF
  simp only[FgR] at hF
  obtain ⟨F,f,G,g,rfl,oB⟩:=hF
  have E:Hid (cellNF a x K=okX (newX b x)):=Lib.hid (by unfold cellNF;rw[hf];rfl)
  have HL:Hid (b.atoms.length=a.atoms.length):=Lib.hid (forget_alen hf)
  have OB:=Lib.hid (oB.lower (base':=w.heap.size) (by (try simp)<;>omega))
  clear hf oB
  (replace qk8:=k8.cell;replace rk8:=k8.frozen;replace lk8:=k8.lt)
  go_upto_region 5 with fail
  have k10:Blk ((w1.alloc (.cells #[.slice F b.facts.length f,.slice G b.atoms.length g,.int .i64 x,.int .i64 p] tFg)).alloc (.cells #[.int .i64 1,.int .i64 x,.int .i64 0] tA)) w1.heap.size tFg #[.slice F b.facts.length f,.slice G b.atoms.length g,.int .i64 x,.int .i64 p]:=blks
  have hBq:Below w1.heap.size w1 ((w1.alloc (.cells #[.slice F b.facts.length f,.slice G b.atoms.length g,.int .i64 x,.int .i64 p] tFg)).alloc (.cells #[.int .i64 1,.int .i64 x,.int .i64 0] tA)):=bbox (bbox (Below.refl _ _) _) _
  have kf:Blk ((w1.alloc (.cells #[.slice F b.facts.length f,.slice G b.atoms.length g,.int .i64 x,.int .i64 p] tFg)).alloc (.cells #[.int .i64 1,.int .i64 x,.int .i64 0] tA)) (w1.heap.size+1) tA #[.int .i64 1,.int .i64 x,.int .i64 0]:=Blk.newE (by simp)
  replace k8:=k8.next hBq
  replace OB:=Lib.hid (OB.out.below hBq)
  have HB:=Lib.hid (bgo hB hBq)
  have hk8:=k8.lt
  have hyW:w.heap.size+2≤w1.heap.size:=by omega
  obtain ⟨y,hy⟩:∃ y,y=w1.heap.size:=⟨_,rfl⟩
  have hsW:((w1.alloc (.cells #[.slice F b.facts.length f,.slice G b.atoms.length g,.int .i64 x,.int .i64 p] tFg)).alloc (.cells #[.int .i64 1,.int .i64 x,.int .i64 0] tA)).heap.size=y+2:=by simp[hy]
  rw[←hy] at k10 kf hyW ⊢
  clear hBq k0 hB qk8 rk8 lk8
  generalize (w1.alloc (.cells #[.slice F b.facts.length f,.slice G b.atoms.length g,.int .i64 x,.int .i64 p] tFg)).alloc (.cells #[.int .i64 1,.int .i64 x,.int .i64 0] tA)=W at k8 k10 kf OB HB hsW hk8 ⊢
  clear hy
  have hlb:(newX b x).atoms.length≤1049600:=by have:=HL.out;simp[newX];omega
  go_cut [11] (fun s12 wc=>∃ (xb:Nat) (F2:Option Addr) (f2:Nat) (G2:Option Addr) (g2:Nat),s12=.pointer (some ⟨xb,0,none⟩)∧Hid (AsnO wc w.heap.size (.agg #[.slice F2 (newX b x).facts.length f2,.slice G2 (newX b x).atoms.length g2]) (newX b x))∧Blk wc xb tAs #[.slice F2 (newX b x).facts.length f2,.slice G2 (newX b x).atoms.length g2]∧Blk wc (w.heap.size+1) tAs #[.slice none 0 0,.slice none 0 0]∧w.heap.size+2≤xb∧Hid (Below w.heap.size w wc))
  case first=>
   have lk10:=k10.lt
   go_wp2_with fail
   refine wp_region_noPanic ?_
   refine wp_region_held_drew (S:=(fun w'=>∀ i,w'.cell? ⟨y,i,none⟩=#[.slice F b.facts.length f,.slice G b.atoms.length g,.int .i64 x,.int .i64 p][i]?)) (by kernel_rfl) (k10.drew.cell) (fun hHeld=>?_)
   clear lk10
   replace k8:=k8.drew
   replace k10:=k10.drew
   replace kf:=kf.drew
   replace OB:=Lib.hid (OB.out.below (Below.refl _ _).drew)
   replace HB:=Lib.hid HB.out.drew
   have hzq:W.heap.size≤W.drew.heap.size:=Nat.le_refl _
   generalize W.drew=wq at k8 k10 kf OB HB hzq hHeld ⊢
   refine tk2 0 rfl hHeld ?_
   try simp only[zz]
   refine tk2 1 rfl hHeld ?_
   try simp only[zz]
   refine tk2 2 rfl hHeld ?_
   try simp only[zz]
   refine tk2 3 rfl hHeld ?_
   try simp only[zz]
   refine tk2 4 rfl hHeld ?_
   try simp only[zz]
   refine tk2 5 rfl hHeld ?_
   try simp only[zz]
   refine tk2 6 rfl hHeld ?_
   try simp only[zz]
   refine wpAnyH_ready (rs:=[7,9]) (by kernel_rfl) (by simp) ?_
   refine AllReadyH.cons rfl (fun K hK=>?_) (AllReadyH.cons rfl (fun K hK=>?_) (AllReadyH.nil))
   ·skip
    try simp only[zz]
    go_simp
    refine (c_joinAn (some ⟨y+1,0,none⟩) G 1 g (newX b x).atoms.length [⟨1,x,0⟩] b.atoms _ (AtomsV.one (f:=⟨1,x,0⟩) kf) OB.out.atomsV (by simp[newX]<;>omega) hlb).mono ?_
    rintro e wq ⟨G2,g2,rfl,oX,hBq⟩
    replace OB:=Lib.hid (OB.out.below hBq)
    have OX:Hid (AsnO wq w.heap.size (.agg #[.slice F (newX b x).facts.length f,.slice G2 (newX b x).atoms.length g2]) (newX b x)):=Lib.hid (AsnO.mkA OB.out (oX.lower (by omega)))
    clear oX
    replace k8:=k8.next hBq
    replace k10:=k10.next hBq
    replace kf:=kf.next hBq
    replace HB:=Lib.hid (bgo HB.out hBq)
    replace hzq:=Nat.le_trans hzq hBq.size
    clear hBq
    refine hK.out _ _ k10.cell (fun hHeldN=>?_)
    clear hHeld hK K
    have hHeld:=hHeldN
    clear hHeldN
    refine tk2 8 rfl hHeld ?_
    try simp only[zz]
    refine rdc 9 rfl fun K hK=>?_
    try simp only[zz]
    go_simp
    refine hK.out _ _ ((rowC_ (bbox (Below.refl _ _) _) k10.lt k10.cell)) ?_
    clear hHeld hK K
    intro hHeld
    try simp only[zz]
    have hBq:Below wq.heap.size wq (wq.alloc (.cells #[.slice none 0 0,.slice none 0 0] tAs)):=bbox (Below.refl _ _) _
    have kBox:Blk (wq.alloc (.cells #[.slice none 0 0,.slice none 0 0] tAs)) wq.heap.size tAs #[.slice none 0 0,.slice none 0 0]:=Blk.new _ _ _
    obtain ⟨xb,hxb⟩:∃ x,x=wq.heap.size:=⟨_,rfl⟩
    have hxb2:W.heap.size≤xb:=by omega
    replace k8:=k8.next hBq
    replace k10:=k10.next hBq
    replace kf:=kf.next hBq
    replace HB:=Lib.hid (bgo HB.out hBq)
    replace hzq:=Nat.le_trans hzq hBq.size
    try replace OB:=Lib.hid (OB.out.below hBq)
    try replace OX:=Lib.hid (OX.out.below hBq)
    rw[←hxb] at kBox ⊢
    clear hBq hxb
    generalize wq.alloc (.cells #[.slice none 0 0,.slice none 0 0] tAs)=wq at *
    have hlB:=kBox.lt
    have qb:=kBox.cell
    have rb:=kBox.frozen
    refine rdc 10 rfl fun K hK=>?_
    try simp only[zz]
    go_simp
    refine hK.out _ _ (((k10.far (p:=⟨xb,0,none⟩) (k10.ne_ kBox (by decide)) _).far (p:=⟨xb,1,none⟩) (k10.ne_ kBox (by decide)) _).cell) ?_
    clear hHeld hK K
    intro hHeld
    try simp only[zz]
    refine wpAnyH_done (by kernel_rfl) ?_ _
    refine NoPanic.normal ?_
    go_wp2_with fail
    go_meet
    case rel=>
     refine ⟨xb,F,f,G2,g2,rfl,Lib.hid (AsnO.setT2 OX.out kBox _ _),?_,(k8.far (p:=⟨xb,0,none⟩) (by simp only;omega) _).far (p:=⟨xb,1,none⟩) (by simp only;omega) _,by omega,Lib.hid ((HB.out.setCell (p:=⟨xb,0,none⟩) (by simp only;omega) _).setCell (p:=⟨xb,1,none⟩) (by simp only;omega) _)⟩
     have:=(kBox.set_ 0 (.slice F b.facts.length f)).set_ 1 (.slice G2 (newX b x).atoms.length g2)
     simp only[List.setIfInBounds_toArray,List.set_cons_zero,List.set_cons_succ] at this
     exact this
   ·skip
    try simp only[zz]
    go_simp
    refine hK.out _ _ (rowC_ (bbox (Below.refl _ _) _) k10.lt k10.cell) (fun hHeldN=>?_)
    clear hHeld hK K
    have hHeld:=hHeldN
    clear hHeldN
    have hBq:Below wq.heap.size wq (wq.alloc (.cells #[.slice none 0 0,.slice none 0 0] tAs)):=bbox (Below.refl _ _) _
    have kBox:Blk (wq.alloc (.cells #[.slice none 0 0,.slice none 0 0] tAs)) wq.heap.size tAs #[.slice none 0 0,.slice none 0 0]:=Blk.new _ _ _
    obtain ⟨xb,hxb⟩:∃ x,x=wq.heap.size:=⟨_,rfl⟩
    have hxb2:W.heap.size≤xb:=by omega
    replace k8:=k8.next hBq
    replace k10:=k10.next hBq
    replace kf:=kf.next hBq
    replace HB:=Lib.hid (bgo HB.out hBq)
    replace hzq:=Nat.le_trans hzq hBq.size
    try replace OB:=Lib.hid (OB.out.below hBq)
    try replace OX:=Lib.hid (OX.out.below hBq)
    rw[←hxb] at kBox ⊢
    clear hBq hxb
    generalize wq.alloc (.cells #[.slice none 0 0,.slice none 0 0] tAs)=wq at *
    refine rdc 7 rfl fun K hK=>?_
    try simp only[zz]
    (go_simp;refine (c_joinAn (some ⟨y+1,0,none⟩) G 1 g (newX b x).atoms.length [⟨1,x,0⟩] b.atoms _ (AtomsV.one (f:=⟨1,x,0⟩) kf) OB.out.atomsV (by simp[newX]<;>omega) hlb).mono ?_;rintro e wq ⟨G2,g2,rfl,oX,hBq⟩;replace OB:=Lib.hid (OB.out.below hBq);have OX:Hid (AsnO wq w.heap.size (.agg #[.slice F (newX b x).facts.length f,.slice G2 (newX b x).atoms.length g2]) (newX b x)):=Lib.hid (AsnO.mkA OB.out (oX.lower (by omega)));clear oX;replace k8:=k8.next hBq;replace k10:=k10.next hBq;replace kf:=kf.next hBq;replace HB:=Lib.hid (bgo HB.out hBq);replace hzq:=Nat.le_trans hzq hBq.size;have kBox:=kBox.next hBq)
    refine hK.out _ _ (k10.cell) ?_
    clear hHeld hK K
    intro hHeld
    try simp only[zz]
    clear hBq
    refine tk2 8 rfl hHeld ?_
    try simp only[zz]
    have hlB:=kBox.lt
    have qb:=kBox.cell
    have rb:=kBox.frozen
    refine rdc 10 rfl fun K hK=>?_
    try simp only[zz]
    go_simp
    refine hK.out _ _ (((k10.far (p:=⟨xb,0,none⟩) (k10.ne_ kBox (by decide)) _).far (p:=⟨xb,1,none⟩) (k10.ne_ kBox (by decide)) _).cell) ?_
    clear hHeld hK K
    intro hHeld
    try simp only[zz]
    refine wpAnyH_done (by kernel_rfl) ?_ _
    refine NoPanic.normal ?_
    go_wp2_with fail
    go_meet
    case rel=>
     refine ⟨xb,F,f,G2,g2,rfl,Lib.hid (AsnO.setT2 OX.out kBox _ _),?_,(k8.far (p:=⟨xb,0,none⟩) (by simp only;omega) _).far (p:=⟨xb,1,none⟩) (by simp only;omega) _,by omega,Lib.hid ((HB.out.setCell (p:=⟨xb,0,none⟩) (by simp only;omega) _).setCell (p:=⟨xb,1,none⟩) (by simp only;omega) _)⟩
     have:=(kBox.set_ 0 (.slice F b.facts.length f)).set_ 1 (.slice G2 (newX b x).atoms.length g2)
     simp only[List.setIfInBounds_toArray,List.set_cons_zero,List.set_cons_succ] at this
     exact this
  case rest=>
   obtain ⟨xb,F2,f2,G2,g2,rfl,OX,kb,k8,hxb,HB⟩:=hcut
   have hl0:=kb.lt
   have HVX:Hid (AsnV wc 0 wc.heap.size (.agg #[.slice F2 (newX b x).facts.length f2,.slice G2 (newX b x).atoms.length g2]) (newX b x)):=Lib.hid (OX.out.reads.mono0 (Nat.le_refl _))
   (replace qkb:=kb.cell;replace rkb:=kb.frozen;replace lkb:=kb.lt;replace qk8:=k8.cell;replace rk8:=k8.frozen;replace lk8:=k8.lt)
   go_wp2_with fail
   clear qk8 rk8 lk8
   refine wp_region_noPanic ?_
   refine wp_region_held_drew (S:=(fun w'=>∀ i,w'.cell? ⟨xb,i,none⟩=#[.slice F2 (newX b x).facts.length f2,.slice G2 (newX b x).atoms.length g2][i]?)) (by kernel_rfl) (kb.drew.cell) (fun hHeld=>?_)
   refine tk2 0 rfl hHeld ?_
   try simp only[zz]
   refine tk2 1 rfl hHeld ?_
   try simp only[zz]
   refine rdc 2 rfl fun K hK=>?_
   try simp only[zz]
   (go_simp;refine (c_impl_AssertionValid _ (newX b x) _ (HVX.out.below (Below.refl _ _).drew)).mono ?_;rintro e w8 ⟨rfl,hB8⟩;replace hB8:Below wc.heap.size wc w8:=(Below.refl _ _).drew.trans hB8;have kb8:=kb.next hB8;have k88:=k8.next hB8;have OX8:=Lib.hid (OX.out.below hB8);have HB8:=Lib.hid (bgo HB.out hB8);clear hB8)
   refine hK.out _ _ (kb8.cell) ?_
   clear hHeld hK K
   intro hHeld
   try simp only[zz]
   have q88:=k88.cell
   have r88:=k88.frozen
   have l88:=k88.lt
   refine rdc 3 rfl fun K hK=>?_
   try simp only[zz]
   go_simp
   refine hK.out _ _ (((kb8.far (p:=⟨w.heap.size+1,0,none⟩) (by simp only;omega) _).far (p:=⟨w.heap.size+1,1,none⟩) (by simp only;omega) _).cell) ?_
   clear hHeld hK K
   intro hHeld
   try simp only[zz]
   refine rdc 4 rfl fun K hK=>?_
   try simp only[zz]
   go_simp
   refine hK.out _ _ (((kb8.far (p:=⟨w.heap.size+1,0,none⟩) (by simp only;omega) _).far (p:=⟨w.heap.size+1,1,none⟩) (by simp only;omega) _).cell) ?_
   clear hHeld hK K
   intro hHeld
   try simp only[zz]
   refine wpAnyH_done (by kernel_rfl) ?_ _
   refine NoPanic.normal ?_
   go_wp2_with fail
   have z6:=((k88.set_ 0 (.slice F2 (newX b x).facts.length f2)).set_ 1 (.slice G2 (newX b x).atoms.length g2)).cell
   refine bodyPost_ret (v:=.tuple #[.agg #[.slice F2 (newX b x).facts.length f2,.slice G2 (newX b x).atoms.length g2],.bool ((newX b x)).valid]) (by simp[results,Tryz.results139,go_sem,z6]) rfl ⟨_,by rw[E.out,okX_some],?_,?_⟩
   ·rw[E.out]
    exact OptO.okX (AsnO.setT2 OX8.out k88 _ _)
   ·exact (HB8.out.setCell (p:=⟨w.heap.size+1,0,none⟩) (by simp only;omega) _).setCell (p:=⟨w.heap.size+1,1,none⟩) (by simp only;omega) _
end

/- Symbolic execution: spec.l10Forget. -/
section
open Go Go.RowKit Go.Proofs
attribute [local go_sem ↓] Go.wp_at_zero Go.wp_at_succ
theorem AsnV.mono1 {w:World} {lo hi:Nat} {v:Value} {a:Asn} (h:AsnV w lo hi v a) (hh:hi≤w.heap.size):AsnV w 0 w.heap.size v a:=h.mono0 hh
theorem AsnV.setT2 {w:World} {lo hi:Nat} {v:Value} {a:Asn} (h:AsnV w lo hi v a) {p:Addr} (hp:hi≤p.block) {q:Addr} (hq:hi≤q.block) (hh:hi≤w.heap.size) (u u':Value):AsnV ((w.setCell p u).setCell q u') lo hi v a:=by
 obtain ⟨A1,c1,A2,c2,e,h1,h2⟩:=h
 exact ⟨A1,c1,A2,c2,e,h1.keepB (((Below.refl hi w).setCell hp u).setCell hq u') (Nat.le_refl _),h2.keepB (((Below.refl hi w).setCell hp u).setCell hq u') (Nat.le_refl _)⟩
theorem c_l10Forget {lo hi lo' hi':Nat} (v:Value) (a:Asn) (x:Int) (Bf:Option Addr) (cf K:Nat) (w:World) (h:AsnV w lo hi v a) (hhi:hi≤w.heap.size) (h':BoolsV w lo' hi' Bf (flagsOf K)) (hv:a.valid=true) (hx:isTermB x=true) :
  Calls Tryz.prog 148 #[v,.int .i64 x,.slice Bf 9 cf] w fun e w'=>∃ F f G g b p,e=.returned (.tuple #[.agg #[.slice F b.facts.length f,.slice G b.atoms.length g],.int .i64 p,.bool (forgetF a x K).isSome])∧AsnV w' 0 w'.heap.size (.agg #[.slice F b.facts.length f,.slice G b.atoms.length g]) b∧b.facts.length=a.facts.length∧b.atoms.length=a.atoms.length∧(∀ q,forgetF a x K=some q→q=(b,p))∧Below w.heap.size w w':=by
 have hV:=Lib.hid h
 have HV:=Lib.hid hv
 have HT:=Lib.hid (termsL_ok hv)
 have HF:=Lib.hid h'
 have hx8:=isTermB_iff.1 hx
 obtain ⟨m,rfl⟩:=Int.eq_ofNat_of_zero_le hx8.1
 obtain ⟨A1,c1,A2,c2,rfl,-,-⟩:=h
 have E0:(m:Int).toNat=m:=Int.toNat_natCast m
 have HE1:Hid ((tset (termsL a)).testBit m=false→forgetF a (m:Int) K=some (a,(m:Int))):=Lib.hid fun hb=>forget_has (by rw[E0];exact hb)
 have HE2:Hid ((tset (termsL a)).testBit m=true→newT (tset (termsL a)|||K)=none→forgetF a (m:Int) K=none):=Lib.hid fun hb hn=>forget_none (by rw[E0];exact hb) hn
 have HE3:Hid ((tset (termsL a)).testBit m=true→∀ n,newT (tset (termsL a)|||K)=some n→forgetF a (m:Int) K=some (substA (m:Int) (n:Int) a,(n:Int))):=Lib.hid fun hb n hn=>forget_some (by rw[E0];exact hb) hn
 clear hv h' E0
 go_enter Tryz.func148,Tryz.ntmps148
 have k3:Blk ((w.alloc (.cells #[.slice A1 a.facts.length c1,.slice A2 a.atoms.length c2] tAs)).alloc (.cells #[.slice none 0 0,.slice none 0 0] tAs)) w.heap.size tAs #[.slice A1 a.facts.length c1,.slice A2 a.atoms.length c2]:=blks
 have k6:Blk ((w.alloc (.cells #[.slice A1 a.facts.length c1,.slice A2 a.atoms.length c2] tAs)).alloc (.cells #[.slice none 0 0,.slice none 0 0] tAs)) (w.heap.size+1) tAs #[.slice none 0 0,.slice none 0 0]:=blks
 go_wp2_with fail
 refine (c_spec_l3Terms _ a _ (hV.out.below bel) HT.out).mono ?_
 rintro e w1 ⟨r,rfl,oT,hB1⟩
 have hB:=bgo (w:=w) bel hB1
 replace k3:=k3.next hB1
 replace k6:=k6.next hB1
 have hz:=hB1.size
 simp only[World.size_alloc] at hz
 obtain ⟨Tb,ct,rfl,fT⟩:=oT.reads
 rw[flagsOf_length]
 obtain ⟨pt,ot,rfl,lpt⟩:=flags_addr fT
 have f1:=flags_at fT (m:=m) (by omega)
 have k9:(m:Int)<9:=by omega
 clear hB1 oT hx
 cases hb:(tset (termsL a)).testBit m
 ·have E:=Lib.hid (HE1.out hb)
  rw[hb] at f1
  clear hb HE1 HE2 HE3
  (replace qk3:=k3.cell;replace rk3:=k3.frozen;replace lk3:=k3.lt;replace qk6:=k6.cell;replace rk6:=k6.frozen;replace lk6:=k6.lt)
  go_wp2_with fail
  have z6:=((k6.set_ 0 (.slice A1 a.facts.length c1)).set_ 1 (.slice A2 a.atoms.length c2)).cell
  refine bodyPost_ret (v:=.tuple #[.agg #[.slice A1 a.facts.length c1,.slice A2 a.atoms.length c2],.int .i64 m,.bool true]) (by simp[results,Tryz.results148,go_sem,z6]) rfl ⟨A1,c1,A2,c2,a,m,by rw[E.out];rfl,?_,rfl,rfl,?_,?_⟩
  ·exact AsnV.mono1 (AsnV.setT2 (hV.out.below hB) (by simp only;omega) (by simp only;omega) (by omega) _ _) (by simp;omega)
  ·intro q hq;rw[E.out] at hq;exact (Option.some.inj hq).symm
  ·exact bel
 ·have HBT:=Lib.hid hb
  rw[hb] at f1
  clear hb HE1
  (replace qk3:=k3.cell;replace rk3:=k3.frozen;replace lk3:=k3.lt;replace qk6:=k6.cell;replace rk6:=k6.frozen;replace lk6:=k6.lt)
  go_wp2_with fail
  refine (c_l10New _ a Bf cf K _ (hV.out.below hB) (HF.out.below hB) HV.out).mono ?_
  rintro e w3 ⟨rfl,hB3⟩
  clear f1
  (replace hB:=bgo hB hB3;replace k3:=k3.next hB3;replace qk3:=k3.cell;replace rk3:=k3.frozen;replace lk3:=k3.lt;replace k6:=k6.next hB3;replace qk6:=k6.cell;replace rk6:=k6.frozen;replace lk6:=k6.lt)
  have hz3:=hB3.size
  clear hB3
  obtain ⟨U,hU⟩:∃ U,U=unusedI (tset (termsL a)|||K):=⟨_,rfl⟩
  rw[←hU]
  have HS:Hid ((newT (tset (termsL a)|||K)).isSome=(forgetF a (m:Int) K).isSome∧∀ q,forgetF a (m:Int) K=some q→q=(substA (m:Int) U a,U)):=Lib.hid (by
   cases hn:newT (tset (termsL a)|||K) with
   | none=>rw[HE2.out HBT.out hn];exact ⟨rfl,fun q hq=>by cases hq⟩
   | some n=>
    have e:U=(n:Int):=by rw[hU];unfold unusedI;rw[hn]
    rw[HE3.out HBT.out n hn,e]
    exact ⟨rfl,fun q hq=>(Option.some.inj hq).symm⟩)
  rw[HS.out.1]
  generalize hs:(forgetF a (m:Int) K).isSome=sm
  replace hs:=Lib.hid hs
  clear hU HE2 HE3 HBT
  go_wp2_with fail
  refine (c_spec_l3Subst _ a (m:Int) U _ (hV.out.below hB)).mono ?_
  rintro e w4 ⟨r,rfl,oC,hB4⟩
  obtain ⟨F,f,G,g,rfl⟩:=oC.I.form
  have OC:=Lib.hid oC
  (replace hB:=bgo hB hB4;replace k6:=k6.next hB4;replace qk6:=k6.cell;replace rk6:=k6.frozen;replace lk6:=k6.lt)
  have hz4:=hB4.size
  clear oC hB4 k3 qk3 rk3 lk3
  go_wp2_with fail
  have z6:=((k6.set_ 0 (.slice F (substA (m:Int) U a).facts.length f)).set_ 1 (.slice G (substA (m:Int) U a).atoms.length g)).cell
  refine bodyPost_ret (v:=.tuple #[.agg #[.slice F (substA (m:Int) U a).facts.length f,.slice G (substA (m:Int) U a).atoms.length g],.int .i64 U,.bool sm]) (by simp[results,Tryz.results148,go_sem,z6]) rfl ⟨F,f,G,g,substA (m:Int) U a,U,by rw[hs.out],?_,by simp[substA],by simp[substA],HS.out.2,?_⟩
  ·exact (AsnO.setT2 OC.out k6 _ _).reads.mono1 (Nat.le_refl _)
  ·exact bel
end

end Go.Proofs.YtmcgbeladjlcpaaGreat
