/- Copies of programs: opened at one command. -/
import Derived.Test.YtjaohekkmlkinaaGreatMDrawP
set_option linter.unusedSimpArgs false
set_option linter.unusedVariables false
set_option maxRecDepth 100000
set_option maxHeartbeats 25600000
namespace Go.Proofs.YtjaohekkmlkinaaGreat
section
open Go Go.RowKit Go.Proofs
section
variable {w w':World} {lo hi base:Nat} {v:Value} {L:Cms} {vo vo':Option Nat}
theorem CpAt.T2:∀ {L:Cms} {cs:List Value} {lo hi:Nat},CpAt w vo L cs lo hi→CmsT w (fun b=>(lo≤b∧b<hi)∧vo≠some b) L cs
 | .nil,_,_,_,h=>h.1
 | .cons k a b t i body els r,_,lo,hi,h=>by
  obtain ⟨AF,cF,AA,cA,AB,cB,AE,cE,rest,m0,m1,m2,m3,p1,⟨q0,q1,q2,q3,q4⟩,p3,p4,p5,p6,h⟩:=h;have hle:=CpAt.le h;have hx:∀ b,m0≤b→b<m3→(lo≤b∧b<hi)∧vo≠some b:=fun b h1 h2=>⟨by omega,fun e=>q4 b e ⟨h1,h2⟩⟩
  exact ⟨AF,cF,AA,cA,AB,cB,AE,cE,rest,p1,p3.mono fun b hb _=>hx b hb.1 (by omega),p4.mono fun b hb _=>hx b hb.1 (by omega),p5.part.mono fun b hb _=>hx b (by omega) (by omega),p6.mono fun b hb _=>hx b (by omega) hb.2,
   (CpAt.T2 h).mono fun b hb _=>⟨by omega,hb.2⟩⟩
theorem CpN.own_ge (h:CpN w lo hi v L):∀ g,v.ownBlock=some g→lo≤g∧g<hi:=by
 obtain ⟨cs,⟨_,h0⟩,h2,h3,h4⟩:=h;intro g hg;refine ⟨?_,h4 g hg⟩;rcases h0 with ⟨rfl,hn⟩|⟨g',cap,cur,rfl,hb,_⟩
 ·simp[Value.ownBlock] at hg
 ·simp[Value.ownBlock] at hg;omega
theorem CpAt.split:∀ {L:Cms} {cs:List Value} {lo hi k:Nat},CpAt w vo L cs lo hi→k<L.len→∃ P kd a b t i body els R AF cF AA cA AB cB AE cE pre post,L=P.app (.cons kd a b t i body els R)∧P.len=k∧
   cs=pre++(tenL kd a b t (.slice AF i.facts.length cF) (.slice AA i.atoms.length cA) (.slice AB body.len cB) (.slice AE els.len cE)++post)∧
   (∀ g,(Value.slice AB body.len cB).ownBlock=some g→lo≤g∧vo≠some g)∧
   CmsT w (fun x=>lo≤x∧vo≠some x∧(Value.slice AB body.len cB).ownBlock≠some x) P pre∧CmsT w (fun x=>lo≤x∧vo≠some x∧(Value.slice AB body.len cB).ownBlock≠some x) R post∧
   RwX w (fun x=>lo≤x∧vo≠some x∧(Value.slice AB body.len cB).ownBlock≠some x) 3 AF i.facts.length (encF i.facts)∧RwX w (fun x=>lo≤x∧vo≠some x∧(Value.slice AB body.len cB).ownBlock≠some x) 3 AA i.atoms.length (encA i.atoms)∧
   PartX w (fun x=>lo≤x∧vo≠some x∧(Value.slice AB body.len cB).ownBlock≠some x) AE els∧
   ∃ csB,w.ownsRow lo tC 10 (.slice AB body.len cB) body.len csB∧CmsT w (fun x=>lo≤x∧vo≠some x∧(Value.slice AB body.len cB).ownBlock≠some x) body csB
 | .nil,_,_,_,_,_,h=>by simp[Cms.len] at h
 | .cons kd a b t i body els r,cs,lo,hi,0,h,_=>by
  obtain ⟨AF,cF,AA,cA,AB,cB,AE,cE,rest,m0,m1,m2,m3,p1,⟨q0,q1,q2,q3,q4⟩,p3,p4,p5,p6,h⟩:=h;have hle:=CpAt.le h;have hO:=p5.own_ge;have hx:∀ x,m0≤x→x<m3→(x<m1∨m2≤x)→lo≤x∧vo≠some x∧(Value.slice AB body.len cB).ownBlock≠some x:=fun x h1 h2 h3=>⟨by omega,fun e=>q4 x e ⟨h1,h2⟩,fun e=>by have:=hO x e;omega⟩;obtain ⟨csB,o1,o2,o3,o4⟩:=p5;refine ⟨.nil,kd,a,b,t,i,body,els,r,AF,cF,AA,cA,AB,cB,AE,cE,[],rest,rfl,rfl,p1,fun g hg=>?_,rfl,?_,p3.mono fun x hx' _=>hx x hx'.1 (by omega) (by omega),p4.mono fun x hx' _=>hx x hx'.1 (by omega) (by omega),p6.mono fun x hx' _=>hx x (by omega) hx'.2 (by omega),csB,own_lower o1 (by omega),?_⟩
  ·have:=hO g hg;exact ⟨by omega,fun e=>q4 g e (by omega)⟩
  ·exact h.T2.mono fun x hx' _=>⟨by omega,hx'.2,fun e=>by have:=hO x e;omega⟩
  ·exact o2.mono fun x hx' _=>⟨by omega,fun e=>q4 x e (by omega),hx'.2⟩
 | .cons kd0 a0 b0 t0 i0 body0 els0 r0,cs,lo,hi,k+1,h,hk=>by
  obtain ⟨AF0,cF0,AA0,cA0,AB0,cB0,AE0,cE0,rest,m0,m1,m2,m3,rfl,⟨q0,q1,q2,q3,q4⟩,p3,p4,p5,p6,h⟩:=h;obtain ⟨P,kd,a,b,t,i,body,els,R,AF,cF,AA,cA,AB,cB,AE,cE,pre,post,rfl,rfl,rfl,s1,s2,s3,s4,s5,s6,csB,s7,s8⟩:=CpAt.split h (by simpa[Cms.len] using hk);have hY:∀ x,(m3≤x∧vo≠some x∧(Value.slice AB body.len cB).ownBlock≠some x)→(lo≤x∧vo≠some x∧(Value.slice AB body.len cB).ownBlock≠some x):=fun x hx=>⟨by omega,hx.2⟩;have hx:∀ x,m0≤x→x<m3→(lo≤x∧vo≠some x∧(Value.slice AB body.len cB).ownBlock≠some x):=fun x h1 h2=>⟨by omega,fun e=>q4 x e ⟨h1,h2⟩,fun e=>by have:=s1 x e;omega⟩
  exact ⟨.cons kd0 a0 b0 t0 i0 body0 els0 P,kd,a,b,t,i,body,els,R,AF,cF,AA,cA,AB,cB,AE,cE,_,post,rfl,rfl,(List.append_assoc ..).symm,fun g hg=>by have:=s1 g hg;exact ⟨by omega,this.2⟩,
   ⟨AF0,cF0,AA0,cA0,AB0,cB0,AE0,cE0,pre,rfl,p3.mono fun x hx' _=>hx x hx'.1 (by omega),p4.mono fun x hx' _=>hx x hx'.1 (by omega),p5.part.mono fun x hx' _=>hx x (by omega) (by omega),p6.mono fun x hx' _=>hx x (by omega) hx'.2,s2.mono fun x hx _=>hY x hx⟩,
   s3.mono fun x hx _=>hY x hx,s4.mono fun x hx _=>hY x hx,s5.mono fun x hx _=>hY x hx,s6.mono fun x hx _=>hY x hx,csB,own_lower s7 (by omega),s8.mono fun x hx _=>hY x hx⟩
theorem row_open {n c:Nat} {A:Option Addr} {cs:List Value} (h:w.ownsRow base tC 10 (.slice A n c) n cs) (hn:0<n):∃ g cur,A=some ⟨g,0,none⟩∧base≤g∧Blk w g tC cur∧(Value.slice A n c).ownBlock=some g∧∀ j u,cs[j]? = some u→w.cell? ⟨g,j,none⟩=some u:=by
 obtain ⟨hl,h2⟩:=h;rcases h2 with ⟨e,hn'⟩|⟨g,cap,cur,e,hb,hg,hn',hm,hs,ht⟩
 ·omega
 ·injection e with e1 e2 e3;subst e1;refine ⟨g,cur,rfl,hb,hg,by simp[Value.ownBlock],fun j u hu=>?_⟩;rw[cell_of_row w g j cur tC (0,0) hg];rw[←ht,List.getElem?_take] at hu
  split at hu
  ·simpa using hu
  ·cases hu
theorem CmsT.rd {X:Nat→Prop} {cs:List Value} {g:Nat} (hT:CmsT w X L cs) (hX:∀ b,X b→lo≤b) (hg:lo≤g) (hl:g<w.heap.size) (hc:∀ j u,cs[j]? = some u→w.cell? ⟨g,j,none⟩=some u):CmsV w lo w.heap.size (some ⟨g,0,none⟩) L:=
 fun _=>⟨g,0,rfl,hg,hl,CmsX.at_ hX (CmsT.x hT fun j u hu=>by rw[Nat.zero_add];exact hc j u hu)⟩
theorem cells_set {g p:Nat} {t:TypeId} {cur:Array Value} {cs:List Value} {u0:Value} (hk:Blk w g t cur) (hc:∀ j u,cs[j]? = some u→w.cell? ⟨g,j,none⟩=some u) (hp:cs[p]? = some u0) (x:Value) :
  ∀ j u,(cs.set p x)[j]? = some u→(w.setCell ⟨g,p,none⟩ x).cell? ⟨g,j,none⟩=some u:=by
 intro j u hu;have hz:=hk.set_ p x;rw[hz.cell];have h0:=hc p u0 hp;rw[hk.cell] at h0
 have hlt:p<cur.size:=by
  rcases Nat.lt_or_ge p cur.size with h|h
  ·exact h
  ·rw[Array.getElem?_eq_none h] at h0;cases h0
 rw[Array.getElem?_setIfInBounds];rw[List.getElem?_set] at hu
 split at hu
 ·rename_i e;subst e;rw[if_pos rfl,if_pos hlt]
  split at hu
  ·exact hu
  ·cases hu
 ·rename_i e;rw[if_neg e];have:=hc j u hu
  rwa [hk.cell] at this
theorem mid {pre post ten:List Value} {q d:Nat} {u:Value} (h:pre.length=q) (hd:ten[d]? = some u):(pre++(ten++post))[q+d]? = some u:=by
 have hlt:d<ten.length:=by
  rcases Nat.lt_or_ge d ten.length with h|h
  ·exact h
  ·rw[List.getElem?_eq_none h] at hd;cases hd
 subst h;rw[List.getElem?_append_right (by omega),Nat.add_sub_cancel_left,List.getElem?_append_left hlt,hd]
theorem mid_set {pre post ten:List Value} {q d:Nat} {x:Value} (h:pre.length=q) (hd:d<ten.length):(pre++(ten++post)).set (q+d) x=pre++(ten.set d x++post):=by
 subst h;rw[List.set_append_right _ _ (by omega),Nat.add_sub_cancel_left,List.set_append_left _ _ hd]
theorem part_of {X Y:Nat→Prop} {n c:Nat} {A:Option Addr} {cs:List Value} (h:w.ownsRow lo tC 10 (.slice A n c) L.len cs) (hT:CmsT w X L cs) (hX:∀ x,X x→Y x) (ho:∀ g,(Value.slice A n c).ownBlock=some g→Y g):PartX w Y A L:=fun hl=>by
 obtain ⟨hlen,h2⟩:=h;rcases h2 with ⟨e,hn⟩|⟨g,cap,cur,e,hb,hg,hn,hm,hs,ht⟩
 ·omega
 ·injection e with e1 e2 e3;subst e1;refine ⟨g,0,rfl,ho g (by simp[Value.ownBlock]),(CmsT.x hT fun j u hu=>?_).mono fun b hx _=>hX b hx⟩;rw[Nat.zero_add,cell_of_row w g j cur tC (0,0) hg];rw[←ht,List.getElem?_take] at hu
  split at hu
  ·simpa using hu
  ·cases hu
theorem CpO.fr {g:Nat} (h:CpO w base v L) (hf:Fr g w w') (hg:g<base):CpO w' base v L:=by
 obtain ⟨cs,h1,h2,h3⟩:=h;exact ⟨cs,own_fr h1 hf hg,(h2.keep fun b hb _ _ hl=>hf.block b hl (by omega)).hi_ hf.size,h3⟩
theorem mut_close {W:World} {gb:Nat} {P R:Cms} {pre post:List Value} {kd a b:Int} {t:Fct} {i:Asn} {body els:Cms} {AF AA AB AE:Option Addr} {cF cA cB cE:Nat}
  (hP:CmsT w (fun x=>base≤x∧x≠gb) P pre) (hR:CmsT w (fun x=>base≤x∧x≠gb) R post) (hF:RwX w (fun x=>base≤x∧x≠gb) 3 AF i.facts.length (encF i.facts)) (hA:RwX w (fun x=>base≤x∧x≠gb) 3 AA i.atoms.length (encA i.atoms))
  (hB:PartX w (fun x=>base≤x∧x≠gb) AB body) (hE:PartX w (fun x=>base≤x∧x≠gb) AE els) (hk:∀ x,base≤x→x≠gb→x<w.heap.size→W.heap[x]? = w.heap[x]?) (hgb:base≤gb) (hlt:gb<W.heap.size)
  (hc:∀ j u,(pre++(tenL kd a b t (.slice AF i.facts.length cF) (.slice AA i.atoms.length cA) (.slice AB body.len cB) (.slice AE els.len cE)++post))[j]? = some u→W.cell? ⟨gb,j,none⟩=some u) :
  CmsV W base W.heap.size (some ⟨gb,0,none⟩) (P.app (.cons kd a b t i body els R)):=by
 have kk:∀ x,(base≤x∧x≠gb)→x<w.heap.size→W.heap[x]? = w.heap[x]?:=fun x hx hl=>hk x hx.1 hx.2 hl
 have hT:CmsT W (fun x=>base≤x∧x≠gb) (P.app (.cons kd a b t i body els R)) (pre++(tenL kd a b t (.slice AF i.facts.length cF) (.slice AA i.atoms.length cA) (.slice AB body.len cB) (.slice AE els.len cE)++post)):=
  (hP.keep kk).app ⟨AF,cF,AA,cA,AB,cB,AE,cE,post,rfl,hF.keep kk,hA.keep kk,hB.keep kk,hE.keep kk,hR.keep kk⟩
 exact hT.rd (fun x hx=>hx.1) hgb hlt hc
theorem setCell_congr {w w':World} {a:Addr} {v:Value} (h:w.heap[a.block]? = w'.heap[a.block]?):(w.setCell a v).heap[a.block]? = (w'.setCell a v).heap[a.block]?:=by
 simp only[World.setCell,Array.getElem?_modify,h]
theorem cells10 {g q:Nat} {t:TypeId} {cur:Array Value} {pre post:List Value} {x0 x1 x2 x3 x4 x5 x6 x7 x8 x9 v0 v1 v2 v3 v4 v5 v6 v7 v8 v9:Value} (hk:Blk w g t cur) (hq:pre.length=q) (hc:∀ j u,(pre++([x0,x1,x2,x3,x4,x5,x6,x7,x8,x9]++post))[j]? = some u→w.cell? ⟨g,j,none⟩=some u) :
  ∀ j u,(pre++([v0,v1,v2,v3,v4,v5,v6,v7,v8,v9]++post))[j]? = some u→(((((((((((w).setCell ⟨g,q,none⟩ v0).setCell ⟨g,q+1,none⟩ v1).setCell ⟨g,q+2,none⟩ v2).setCell ⟨g,q+3,none⟩ v3).setCell ⟨g,q+4,none⟩ v4).setCell ⟨g,q+5,none⟩ v5).setCell ⟨g,q+6,none⟩ v6).setCell ⟨g,q+7,none⟩ v7).setCell ⟨g,q+8,none⟩ v8).setCell ⟨g,q+9,none⟩ v9).cell? ⟨g,j,none⟩=some u:=by
 have D0:=cells_set hk hc (mid (d:=0) hq (by rfl)) v0;rw[mid_set hq (by simp)] at D0;simp only[List.set_cons_zero,List.set_cons_succ] at D0;have D1:=cells_set (hk.set_ (q+0) v0) D0 (mid (d:=1) hq (by rfl)) v1;rw[mid_set hq (by simp)] at D1;simp only[List.set_cons_zero,List.set_cons_succ] at D1;have D2:=cells_set ((hk.set_ (q+0) v0).set_ (q+1) v1) D1 (mid (d:=2) hq (by rfl)) v2;rw[mid_set hq (by simp)] at D2;simp only[List.set_cons_zero,List.set_cons_succ] at D2;have D3:=cells_set (((hk.set_ (q+0) v0).set_ (q+1) v1).set_ (q+2) v2) D2 (mid (d:=3) hq (by rfl)) v3;rw[mid_set hq (by simp)] at D3;simp only[List.set_cons_zero,List.set_cons_succ] at D3;have D4:=cells_set ((((hk.set_ (q+0) v0).set_ (q+1) v1).set_ (q+2) v2).set_ (q+3) v3) D3 (mid (d:=4) hq (by rfl)) v4;rw[mid_set hq (by simp)] at D4;simp only[List.set_cons_zero,List.set_cons_succ] at D4;have D5:=cells_set (((((hk.set_ (q+0) v0).set_ (q+1) v1).set_ (q+2) v2).set_ (q+3) v3).set_ (q+4) v4) D4 (mid (d:=5) hq (by rfl)) v5;rw[mid_set hq (by simp)] at D5;simp only[List.set_cons_zero,List.set_cons_succ] at D5;have D6:=cells_set ((((((hk.set_ (q+0) v0).set_ (q+1) v1).set_ (q+2) v2).set_ (q+3) v3).set_ (q+4) v4).set_ (q+5) v5) D5 (mid (d:=6) hq (by rfl)) v6;rw[mid_set hq (by simp)] at D6;simp only[List.set_cons_zero,List.set_cons_succ] at D6;have D7:=cells_set (((((((hk.set_ (q+0) v0).set_ (q+1) v1).set_ (q+2) v2).set_ (q+3) v3).set_ (q+4) v4).set_ (q+5) v5).set_ (q+6) v6) D6 (mid (d:=7) hq (by rfl)) v7;rw[mid_set hq (by simp)] at D7;simp only[List.set_cons_zero,List.set_cons_succ] at D7;have D8:=cells_set ((((((((hk.set_ (q+0) v0).set_ (q+1) v1).set_ (q+2) v2).set_ (q+3) v3).set_ (q+4) v4).set_ (q+5) v5).set_ (q+6) v6).set_ (q+7) v7) D7 (mid (d:=8) hq (by rfl)) v8;rw[mid_set hq (by simp)] at D8;simp only[List.set_cons_zero,List.set_cons_succ] at D8;have D9:=cells_set (((((((((hk.set_ (q+0) v0).set_ (q+1) v1).set_ (q+2) v2).set_ (q+3) v3).set_ (q+4) v4).set_ (q+5) v5).set_ (q+6) v6).set_ (q+7) v7).set_ (q+8) v8) D8 (mid (d:=9) hq (by rfl)) v9;rw[mid_set hq (by simp)] at D9;simp only[List.set_cons_zero,List.set_cons_succ] at D9;exact D9
theorem mut4 {W:World} {gb g8 c9:Nat} {P R:Cms} {pre post csB:List Value} {kd a b:Int} {t:Fct} {i:Asn} {body els:Cms} {AF AA AB AE:Option Addr} {cF cA cB cE:Nat}
  (h2:CmsT w (fun x=>base≤x∧some gb≠some x∧(Value.slice AB body.len cB).ownBlock≠some x) P pre) (h3:CmsT w (fun x=>base≤x∧some gb≠some x∧(Value.slice AB body.len cB).ownBlock≠some x) R post) (h4:RwX w (fun x=>base≤x∧some gb≠some x∧(Value.slice AB body.len cB).ownBlock≠some x) 3 AF i.facts.length (encF i.facts)) (h5:RwX w (fun x=>base≤x∧some gb≠some x∧(Value.slice AB body.len cB).ownBlock≠some x) 3 AA i.atoms.length (encA i.atoms)) (h6:PartX w (fun x=>base≤x∧some gb≠some x∧(Value.slice AB body.len cB).ownBlock≠some x) AE els) (h8:CmsT w (fun x=>base≤x∧some gb≠some x∧(Value.slice AB body.len cB).ownBlock≠some x) body csB)
  (kW:∀ x,base≤x→x≠gb→(Value.slice AB body.len cB).ownBlock≠some x→x<w.heap.size→W.heap[x]? = w.heap[x]?) (e8:base≤g8) (hne:gb≠g8)
  (c8:∀ j u,(csB++((tenL 5 1 0 ⟨false,0,0⟩ (.slice none 0 0) (.slice none 0 0) (.slice none 0 0) (.slice none 0 0))++[]))[j]? = some u→W.cell? ⟨g8,j,none⟩=some u) (hgb:base≤gb) (hlt:gb<W.heap.size)
  (cb:∀ j u,(pre++(tenL kd a b t (.slice AF i.facts.length cF) (.slice AA i.atoms.length cA) (.slice (some ⟨g8,0,none⟩) (body.len+1) c9) (.slice AE els.len cE)++post))[j]? = some u→W.cell? ⟨gb,j,none⟩=some u) :
  CmsV W base W.heap.size (some ⟨gb,0,none⟩) (P.app (.cons kd a b t i (body.app (.cons 5 1 0 ⟨false,0,0⟩ ⟨[],[]⟩ .nil .nil .nil)) els R)):=by
 have hl:(body.app (.cons 5 1 0 ⟨false,0,0⟩ ⟨[],[]⟩ .nil .nil .nil)).len=body.len+1:=by rw[Cms.len_app];rfl
 have kk:∀ x,(base≤x∧some gb≠some x∧(Value.slice AB body.len cB).ownBlock≠some x)→x<w.heap.size→W.heap[x]? = w.heap[x]?:=fun x hx hl=>kW x hx.1 (fun e=>hx.2.1 (by rw[e])) hx.2.2 hl;have zz:∀ x,(base≤x∧some gb≠some x∧(Value.slice AB body.len cB).ownBlock≠some x)→(base≤x∧x≠gb):=fun x hx=>⟨hx.1,fun e=>hx.2.1 (by rw[e])⟩;have hT:CmsT W (fun x=>base≤x∧x≠gb) (body.app (.cons 5 1 0 ⟨false,0,0⟩ ⟨[],[]⟩ .nil .nil .nil)) (csB++((tenL 5 1 0 ⟨false,0,0⟩ (.slice none 0 0) (.slice none 0 0) (.slice none 0 0) (.slice none 0 0))++[])):=((h8.keep kk).mono fun x hx _=>zz x hx).app ⟨none,0,none,0,none,0,none,0,[],rfl,RwX.none ..,RwX.none ..,PartX.nil _,PartX.nil _,rfl⟩;refine mut_close (w:=W) (AB:=some ⟨g8,0,none⟩) (cF:=cF) (cA:=cA) (cB:=c9) (cE:=cE) ((h2.keep kk).mono fun x hx _=>zz x hx) ((h3.keep kk).mono fun x hx _=>zz x hx) ((h4.keep kk).mono fun x hx _=>zz x hx) ((h5.keep kk).mono fun x hx _=>zz x hx) (fun _=>⟨g8,0,rfl,⟨e8,fun e=>hne e.symm⟩,CmsT.x hT fun j u hu=>by rw[Nat.zero_add];exact c8 j u hu⟩) ((h6.keep kk).mono fun x hx _=>zz x hx) (fun _ _ _ _=>rfl) hgb hlt ?_;rw[hl];exact cb
end
section
variable {ops:Array Oper} {o:Oper} {a:Act} {Q:Exit→Act→World→Prop} {w:World} {base:Nat} {v:Value}
theorem stepCX {K:Act→World→Prop} {E:Prop} (hgd:o.guard=none) (s x:Operand) (ho:o.op=.call { callee:=.builtin .append,args:=#[s,x],argTypes:=#[42,42] })
  {n:Nat} {cs:List Value} (hs:a.eval s=v) (hown:w.ownsRow base tC 10 v n cs) {g0 c:Nat} {arr:Array Value} (ten:List Value) (hx:a.eval x=.slice (some ⟨g0,0,none⟩) 1 c) (hk:Blk w g0 tC arr) (hcs:arr=ten.toArray) (ht:ten.length=10) (h1:∀ u∈ten,u.oneCell'=true) (hn:n+1≤1049600) (hb:base≤w.heap.size)
  (h:∀ A' c' w',w'.ownsRow base tC 10 (.slice A' (n+1) c') (n+1) (cs++ten)→w.grownBy w' v.ownBlock→Below base w w'→((Value.slice A' (n+1) c').ownBlock=v.ownBlock∨(Value.slice A' (n+1) c').ownBlock=some w.heap.size)→K (a.put o.dst (.slice A' (n+1) c')) w'):if Region.wanted o (yielded ops a.tmps)=true then Oper.wp Tryz.prog o a w K Q else E:=by
 have hadd:∀ j,(⟨g0,0,none⟩:Addr).add j=⟨g0,j,none⟩:=fun j=>by unfold Addr.add;split<;>simp_all
 rw[if_pos (show Region.wanted o (yielded ops a.tmps)=true by simp[Region.wanted,hgd])];refine wp_appX (news:=ten) s x 42 ho Tryz.underlying42 infoC rfl (by decide) (by decide) hs hown hx (by rw[ht]) (fun j u hu=>?_) h1 hn hb ?_
 ·rw[hadd,hk.cell,hcs];simpa using hu
 ·intro v' w' q1 q2 q3 q4;obtain ⟨q1a,q1b⟩:=q1;rcases q1b with ⟨rfl,e⟩|⟨k,cap,cur,rfl,r⟩
  ·omega
  ·exact h _ _ w' ⟨q1a,Or.inr ⟨k,cap,cur,rfl,r⟩⟩ q2 q3 q4
end
set_option maxHeartbeats 1600000
theorem row_cap {w:World} {base size n c:Nat} {e:TypeId} {A:Option Addr} {cs:List Value} (h:w.ownsRow base e size (.slice A n c) n cs):n≤c:=by
 obtain ⟨_,h2⟩:=h;rcases h2 with ⟨_,rfl⟩|⟨g,cap,cur,e,hb,hg,hn,_⟩
 ·exact Nat.zero_le _
 ·injection e with e1 e2 e3;omega
theorem mut4A {w w3 w9:World} {g qr gb g8 c9 k:Nat} {cur cur8:Array Value} {P R:Cms} {pre post csB:List Value} {kd a b:Int} {t:Fct} {i:Asn} {body els:Cms} {AF AA AB AE:Option Addr} {cF cA cB cE:Nat}
  (s2:CmsT w3 (fun x=>w.heap.size≤x∧some gb≠some x∧(Value.slice AB body.len cB).ownBlock≠some x) P pre) (s3:CmsT w3 (fun x=>w.heap.size≤x∧some gb≠some x∧(Value.slice AB body.len cB).ownBlock≠some x) R post) (s4:RwX w3 (fun x=>w.heap.size≤x∧some gb≠some x∧(Value.slice AB body.len cB).ownBlock≠some x) 3 AF i.facts.length (encF i.facts)) (s5:RwX w3 (fun x=>w.heap.size≤x∧some gb≠some x∧(Value.slice AB body.len cB).ownBlock≠some x) 3 AA i.atoms.length (encA i.atoms)) (s6:PartX w3 (fun x=>w.heap.size≤x∧some gb≠some x∧(Value.slice AB body.len cB).ownBlock≠some x) AE els) (s8:CmsT w3 (fun x=>w.heap.size≤x∧some gb≠some x∧(Value.slice AB body.len cB).ownBlock≠some x) body csB)
  (hx8:∀ x,x<w3.heap.size→(Value.slice AB body.len cB).ownBlock≠some x→x≠g8) (same9:∀ x,x<w3.heap.size→(Value.slice AB body.len cB).ownBlock≠some x→w9.heap[x]? = w3.heap[x]?)
  (e8:w.heap.size≤g8) (hne8:gb≠g8) (hk8:Blk w9 g8 tC cur8) (hpl8:csB.length=body.len * 10)
  (hc8:∀ j u,(csB++([.int .i64 0,.int .i64 0,.int .i64 0,.bool false,.int .i64 0,.int .i64 0,.slice none 0 0,.slice none 0 0,.slice none 0 0,.slice none 0 0]++[]))[j]? = some u→w9.cell? ⟨g8,j,none⟩=some u)
  (hkb9:Blk w9 gb tC cur) (hgb9:w9.heap[gb]? = w3.heap[gb]?)
  (hc:∀ j u,(pre++(tenL kd a b t (.slice AF i.facts.length cF) (.slice AA i.atoms.length cA) (.slice AB body.len cB) (.slice AE els.len cE)++post))[j]? = some u→w3.cell? ⟨gb,j,none⟩=some u)
  (hpl:pre.length=k * 10) (hgb:w.heap.size≤gb) (F9:Rdf g qr w w9) :
  CmsV (((((((((((w9.setCell ⟨g8,body.len * 10,none⟩ (.int .i64 5)).setCell ⟨g8,body.len * 10+1,none⟩ (.int .i64 1)).setCell ⟨g8,body.len * 10+2,none⟩ (.int .i64 0)).setCell ⟨g8,body.len * 10+3,none⟩ (.bool false)).setCell ⟨g8,body.len * 10+4,none⟩ (.int .i64 0)).setCell ⟨g8,body.len * 10+5,none⟩ (.int .i64 0)).setCell ⟨g8,body.len * 10+6,none⟩ (.slice none 0 0)).setCell ⟨g8,body.len * 10+7,none⟩ (.slice none 0 0)).setCell ⟨g8,body.len * 10+8,none⟩ (.slice none 0 0)).setCell ⟨g8,body.len * 10+9,none⟩ (.slice none 0 0)).setCell ⟨gb,k * 10+8,none⟩ (.slice (some ⟨g8,0,none⟩) (body.len+1) c9)) w.heap.size (((((((((((w9.setCell ⟨g8,body.len * 10,none⟩ (.int .i64 5)).setCell ⟨g8,body.len * 10+1,none⟩ (.int .i64 1)).setCell ⟨g8,body.len * 10+2,none⟩ (.int .i64 0)).setCell ⟨g8,body.len * 10+3,none⟩ (.bool false)).setCell ⟨g8,body.len * 10+4,none⟩ (.int .i64 0)).setCell ⟨g8,body.len * 10+5,none⟩ (.int .i64 0)).setCell ⟨g8,body.len * 10+6,none⟩ (.slice none 0 0)).setCell ⟨g8,body.len * 10+7,none⟩ (.slice none 0 0)).setCell ⟨g8,body.len * 10+8,none⟩ (.slice none 0 0)).setCell ⟨g8,body.len * 10+9,none⟩ (.slice none 0 0)).setCell ⟨gb,k * 10+8,none⟩ (.slice (some ⟨g8,0,none⟩) (body.len+1) c9)).heap.size (some ⟨gb,0,none⟩) (P.app (.cons kd a b t i (body.app (.cons 5 1 0 ⟨false,0,0⟩ ⟨[],[]⟩ .nil .nil .nil)) els R))∧Rdf g qr w (((((((((((w9.setCell ⟨g8,body.len * 10,none⟩ (.int .i64 5)).setCell ⟨g8,body.len * 10+1,none⟩ (.int .i64 1)).setCell ⟨g8,body.len * 10+2,none⟩ (.int .i64 0)).setCell ⟨g8,body.len * 10+3,none⟩ (.bool false)).setCell ⟨g8,body.len * 10+4,none⟩ (.int .i64 0)).setCell ⟨g8,body.len * 10+5,none⟩ (.int .i64 0)).setCell ⟨g8,body.len * 10+6,none⟩ (.slice none 0 0)).setCell ⟨g8,body.len * 10+7,none⟩ (.slice none 0 0)).setCell ⟨g8,body.len * 10+8,none⟩ (.slice none 0 0)).setCell ⟨g8,body.len * 10+9,none⟩ (.slice none 0 0)).setCell ⟨gb,k * 10+8,none⟩ (.slice (some ⟨g8,0,none⟩) (body.len+1) c9)):=by
 have hlb:gb<w9.heap.size:=hkb9.lt;have D8:=cells_set hkb9 (fun j u hu=>(World.cell?_of_block (a:=⟨gb,j,none⟩) hgb9).trans (hc j u hu)) (mid (d:=8) hpl (by rfl)) (.slice (some ⟨g8,0,none⟩) (body.len+1) c9);rw[mid_set hpl (by simp[tenL])] at D8;have C8:=cells10 (v0:=.int .i64 5) (v1:=.int .i64 1) (v2:=.int .i64 0) (v3:=.bool false) (v4:=.int .i64 0) (v5:=.int .i64 0) (v6:=.slice none 0 0) (v7:=.slice none 0 0) (v8:=.slice none 0 0) (v9:=.slice none 0 0) hk8 hpl8 hc8
 have hS:∀ x,x≠g8→((((((((((w9.setCell ⟨g8,body.len * 10,none⟩ (.int .i64 5)).setCell ⟨g8,body.len * 10+1,none⟩ (.int .i64 1)).setCell ⟨g8,body.len * 10+2,none⟩ (.int .i64 0)).setCell ⟨g8,body.len * 10+3,none⟩ (.bool false)).setCell ⟨g8,body.len * 10+4,none⟩ (.int .i64 0)).setCell ⟨g8,body.len * 10+5,none⟩ (.int .i64 0)).setCell ⟨g8,body.len * 10+6,none⟩ (.slice none 0 0)).setCell ⟨g8,body.len * 10+7,none⟩ (.slice none 0 0)).setCell ⟨g8,body.len * 10+8,none⟩ (.slice none 0 0)).setCell ⟨g8,body.len * 10+9,none⟩ (.slice none 0 0)).heap[x]? = w9.heap[x]?:=fun x hx=>by
  iterate 10 (refine (Below.heap_setCell _ _ _ x hx).trans ?_)
  exact rfl
 refine ⟨mut4 (cF:=cF) (cA:=cA) (cE:=cE) (c9:=c9) s2 s3 s4 s5 s6 s8 (fun x h1 h2 h3 hl=>?_) e8 hne8 (fun j u hu=>?_) hgb ?_ (fun j u hu=>?_),?_⟩
 ·exact (Below.heap_setCell _ _ _ x h2).trans ((hS x (hx8 x hl h3)).trans (same9 x hl h3))
 ·exact (World.cell?_of_block (a:=⟨g8,j,none⟩) (Below.heap_setCell _ _ _ g8 (Ne.symm hne8))).trans (C8 j u hu)
 ·simp only[World.size_setCell];exact hlb
 ·refine (World.cell?_of_block (a:=⟨gb,j,none⟩) ?_).trans (D8 j u hu);exact setCell_congr (a:=⟨gb,k * 10+8,none⟩) (hS gb hne8)
 ·iterate 11 (refine Rdf.set_ ?_ (Or.inr (by simp only;omega)) _)
  exact F9
theorem mut4B {w w3 w9:World} {g qr gb g8 c9 k:Nat} {cur cur8:Array Value} {P R:Cms} {pre post csB:List Value} {kd a b:Int} {t:Fct} {i:Asn} {body els:Cms} {AF AA AB AE:Option Addr} {cF cA cB cE:Nat}
  (s2:CmsT w3 (fun x=>w.heap.size≤x∧some gb≠some x∧(Value.slice AB body.len cB).ownBlock≠some x) P pre) (s3:CmsT w3 (fun x=>w.heap.size≤x∧some gb≠some x∧(Value.slice AB body.len cB).ownBlock≠some x) R post) (s4:RwX w3 (fun x=>w.heap.size≤x∧some gb≠some x∧(Value.slice AB body.len cB).ownBlock≠some x) 3 AF i.facts.length (encF i.facts)) (s5:RwX w3 (fun x=>w.heap.size≤x∧some gb≠some x∧(Value.slice AB body.len cB).ownBlock≠some x) 3 AA i.atoms.length (encA i.atoms)) (s6:PartX w3 (fun x=>w.heap.size≤x∧some gb≠some x∧(Value.slice AB body.len cB).ownBlock≠some x) AE els) (s8:CmsT w3 (fun x=>w.heap.size≤x∧some gb≠some x∧(Value.slice AB body.len cB).ownBlock≠some x) body csB)
  (hx8:∀ x,x<w3.heap.size→(Value.slice AB body.len cB).ownBlock≠some x→x≠g8) (same9:∀ x,x<w3.heap.size→(Value.slice AB body.len cB).ownBlock≠some x→w9.heap[x]? = w3.heap[x]?)
  (e8:w.heap.size≤g8) (hne8:gb≠g8) (hk8:Blk w9 g8 tC cur8) (hpl8:csB.length=body.len * 10)
  (hc8:∀ j u,(csB++([.int .i64 0,.int .i64 0,.int .i64 0,.bool false,.int .i64 0,.int .i64 0,.slice none 0 0,.slice none 0 0,.slice none 0 0,.slice none 0 0]++[]))[j]? = some u→w9.cell? ⟨g8,j,none⟩=some u)
  (hkb9:Blk w9 gb tC cur) (hgb9:w9.heap[gb]? = w3.heap[gb]?)
  (hc:∀ j u,(pre++(tenL kd a b t (.slice AF i.facts.length cF) (.slice AA i.atoms.length cA) (.slice AB body.len cB) (.slice AE els.len cE)++post))[j]? = some u→w3.cell? ⟨gb,j,none⟩=some u)
  (hpl:pre.length=k * 10) (hgb:w.heap.size≤gb) (F9:Rdf g qr w w9) :
  CmsV (((((((((((w9.setCell ⟨gb,k * 10+8,none⟩ (.slice (some ⟨g8,0,none⟩) (body.len+1) c9)).setCell ⟨g8,body.len * 10,none⟩ (.int .i64 5)).setCell ⟨g8,body.len * 10+1,none⟩ (.int .i64 1)).setCell ⟨g8,body.len * 10+2,none⟩ (.int .i64 0)).setCell ⟨g8,body.len * 10+3,none⟩ (.bool false)).setCell ⟨g8,body.len * 10+4,none⟩ (.int .i64 0)).setCell ⟨g8,body.len * 10+5,none⟩ (.int .i64 0)).setCell ⟨g8,body.len * 10+6,none⟩ (.slice none 0 0)).setCell ⟨g8,body.len * 10+7,none⟩ (.slice none 0 0)).setCell ⟨g8,body.len * 10+8,none⟩ (.slice none 0 0)).setCell ⟨g8,body.len * 10+9,none⟩ (.slice none 0 0)) w.heap.size (((((((((((w9.setCell ⟨gb,k * 10+8,none⟩ (.slice (some ⟨g8,0,none⟩) (body.len+1) c9)).setCell ⟨g8,body.len * 10,none⟩ (.int .i64 5)).setCell ⟨g8,body.len * 10+1,none⟩ (.int .i64 1)).setCell ⟨g8,body.len * 10+2,none⟩ (.int .i64 0)).setCell ⟨g8,body.len * 10+3,none⟩ (.bool false)).setCell ⟨g8,body.len * 10+4,none⟩ (.int .i64 0)).setCell ⟨g8,body.len * 10+5,none⟩ (.int .i64 0)).setCell ⟨g8,body.len * 10+6,none⟩ (.slice none 0 0)).setCell ⟨g8,body.len * 10+7,none⟩ (.slice none 0 0)).setCell ⟨g8,body.len * 10+8,none⟩ (.slice none 0 0)).setCell ⟨g8,body.len * 10+9,none⟩ (.slice none 0 0)).heap.size (some ⟨gb,0,none⟩) (P.app (.cons kd a b t i (body.app (.cons 5 1 0 ⟨false,0,0⟩ ⟨[],[]⟩ .nil .nil .nil)) els R))∧Rdf g qr w (((((((((((w9.setCell ⟨gb,k * 10+8,none⟩ (.slice (some ⟨g8,0,none⟩) (body.len+1) c9)).setCell ⟨g8,body.len * 10,none⟩ (.int .i64 5)).setCell ⟨g8,body.len * 10+1,none⟩ (.int .i64 1)).setCell ⟨g8,body.len * 10+2,none⟩ (.int .i64 0)).setCell ⟨g8,body.len * 10+3,none⟩ (.bool false)).setCell ⟨g8,body.len * 10+4,none⟩ (.int .i64 0)).setCell ⟨g8,body.len * 10+5,none⟩ (.int .i64 0)).setCell ⟨g8,body.len * 10+6,none⟩ (.slice none 0 0)).setCell ⟨g8,body.len * 10+7,none⟩ (.slice none 0 0)).setCell ⟨g8,body.len * 10+8,none⟩ (.slice none 0 0)).setCell ⟨g8,body.len * 10+9,none⟩ (.slice none 0 0)):=by
 have hlb:gb<w9.heap.size:=hkb9.lt;have D8:=cells_set hkb9 (fun j u hu=>(World.cell?_of_block (a:=⟨gb,j,none⟩) hgb9).trans (hc j u hu)) (mid (d:=8) hpl (by rfl)) (.slice (some ⟨g8,0,none⟩) (body.len+1) c9);rw[mid_set hpl (by simp[tenL])] at D8;have C8:=cells10 (v0:=.int .i64 5) (v1:=.int .i64 1) (v2:=.int .i64 0) (v3:=.bool false) (v4:=.int .i64 0) (v5:=.int .i64 0) (v6:=.slice none 0 0) (v7:=.slice none 0 0) (v8:=.slice none 0 0) (v9:=.slice none 0 0) (hk8.far (p:=⟨gb,k * 10+8,none⟩) (Ne.symm hne8) (.slice (some ⟨g8,0,none⟩) (body.len+1) c9)) hpl8 (fun j u hu=>(World.cell?_of_block (a:=⟨g8,j,none⟩) (Below.heap_setCell w9 ⟨gb,k * 10+8,none⟩ (.slice (some ⟨g8,0,none⟩) (body.len+1) c9) g8 (Ne.symm hne8))).trans (hc8 j u hu))
 have hS:∀ x,x≠g8→(((((((((((w9.setCell ⟨gb,k * 10+8,none⟩ (.slice (some ⟨g8,0,none⟩) (body.len+1) c9)).setCell ⟨g8,body.len * 10,none⟩ (.int .i64 5)).setCell ⟨g8,body.len * 10+1,none⟩ (.int .i64 1)).setCell ⟨g8,body.len * 10+2,none⟩ (.int .i64 0)).setCell ⟨g8,body.len * 10+3,none⟩ (.bool false)).setCell ⟨g8,body.len * 10+4,none⟩ (.int .i64 0)).setCell ⟨g8,body.len * 10+5,none⟩ (.int .i64 0)).setCell ⟨g8,body.len * 10+6,none⟩ (.slice none 0 0)).setCell ⟨g8,body.len * 10+7,none⟩ (.slice none 0 0)).setCell ⟨g8,body.len * 10+8,none⟩ (.slice none 0 0)).setCell ⟨g8,body.len * 10+9,none⟩ (.slice none 0 0)).heap[x]? = (w9.setCell ⟨gb,k * 10+8,none⟩ (.slice (some ⟨g8,0,none⟩) (body.len+1) c9)).heap[x]?:=fun x hx=>by
  iterate 10 (refine (Below.heap_setCell _ _ _ x hx).trans ?_)
  exact rfl
 refine ⟨mut4 (cF:=cF) (cA:=cA) (cE:=cE) (c9:=c9) s2 s3 s4 s5 s6 s8 (fun x h1 h2 h3 hl=>?_) e8 hne8 (fun j u hu=>?_) hgb ?_ (fun j u hu=>?_),?_⟩
 ·exact (hS x (hx8 x hl h3)).trans ((Below.heap_setCell _ _ _ x h2).trans (same9 x hl h3))
 ·exact C8 j u hu
 ·simp only[World.size_setCell];exact hlb
 ·exact (World.cell?_of_block (a:=⟨gb,j,none⟩) (hS gb hne8)).trans (D8 j u hu)
 ·iterate 11 (refine Rdf.set_ ?_ (Or.inr (by simp only;omega)) _)
  exact F9
theorem c_l8Mutate (g p:Nat) (w:World) (L:Cms) (A:Option Addr) (c lo hi:Nat) (hR:Rdr w g p) (hp:p≤900000) (hV:CmsV w lo hi A L) (hL1:1≤L.len) (hLS:L.len+L.cost≤903) :
  Calls Tryz.prog 80 #[.pointer (some ⟨g,0,none⟩),.slice A L.len c] w fun e w'=>∃ A' c' L',e=.returned (.slice A' L'.len c')∧CmsV w' w.heap.size w'.heap.size A' L'∧L'.len+L'.cost≤1000∧(∃ q,q≤p+3∧Rdf g q w w')∧L'.len≤c'∧1≤L'.len:=by
 have hlt:=hR.lt;have hR0:=ax hR;replace hV:=ax hV;have hsm:=ax (Cms.cost_small (n:=1049600) (L:=L) (by omega));replace hLS:=ax hLS;clear hR;obtain ⟨n,hn⟩:∃ n,n=L.len:=⟨_,rfl⟩;rw[←hn] at hL1 ⊢;have hn9:n≤903:=by have:=hLS.o;omega
 replace hn:=ax hn;(go_enter Tryz.func80,Tryz.ntmps80);(go_wp2_with fail);rw[hn.o];refine (l8Copy_go (L.sz+1) L (by omega) A c _ lo hi hV.o (by have:=hLS.o;omega) hsm.o).mono ?_;rintro e w1 ⟨A1,c1,rfl,hC,hB1⟩;rw[←hn.o] at hC ⊢;replace hC:=ax hC;have z1:=hB1.size;have F1:=ax (Fr.ofBelow (g:=g) hB1);have hR1:=ax (hR0.o.bz hB1);clear hB1 hR0 hV;have hn0:((n:Int) == 0)=false:=by simp;omega
 (go_wp2_with fail);refine (c_pick g p n _ hR1.o (by omega)).mono ?_;rintro e w2 ⟨k,rfl,hk,hR2,hF2⟩;have hkn:k<n:=by omega
 have hki:(k:Int)<(n:Int):=by omega
 have hC2:=ax (hC.o.fr hF2 hlt);have F2:=ax (F1.o.trans hF2);replace hR2:=ax hR2;clear hF2 hC hR1 F1 hk;(go_wp2_with fail);refine (c_pick g (p+1) 50 _ hR2.o (by omega)).mono ?_;rintro e w3 ⟨m,rfl,-,hR3,hF3⟩;have hC3:=ax (hC2.o.fr hF3 hlt);have F3:=ax (show Rdf g (p+1+1) w w3 from ⟨hlt,F2.o.trans hF3,hR3⟩);replace hR3:=ax hR3;clear hF3 hC2 hR2 F2;obtain ⟨cs,ho,hT,-⟩:=hC3.o;obtain ⟨P,kd,a,b,t,i,body,els,R,AF,cF,AA,cA,AB,cB,AE,cE,pre,post,eL,eP,ecs,s1,s2,s3,s4,s5,s6,csB,s7,s8⟩:=hT.split (k:=k) (by rw[←hn.o];exact hkn);rw[←hn.o] at ho;have hcap:=ax (row_cap ho);obtain ⟨gb,cur,rfl,hgb,hkb,hob,hc⟩:=row_open ho (by omega);rw[ecs] at hc;have hpl:pre.length=k * 10:=by rw[s2.len,eP]
 have hlb:=hkb.lt;have frb:=hkb.frozen;have y0:w3.cell? ⟨gb,k * 10+0,none⟩=some (.int .i64 kd):=hc _ _ (mid hpl (by rfl));have y1:w3.cell? ⟨gb,k * 10+1,none⟩=some (.int .i64 a):=hc _ _ (mid hpl (by rfl));have y2:w3.cell? ⟨gb,k * 10+2,none⟩=some (.int .i64 b):=hc _ _ (mid hpl (by rfl));have y3:w3.cell? ⟨gb,k * 10+3,none⟩=some (.bool t.eq):=hc _ _ (mid hpl (by rfl));have y4:w3.cell? ⟨gb,k * 10+4,none⟩=some (.int .i64 t.a):=hc _ _ (mid hpl (by rfl));have y5:w3.cell? ⟨gb,k * 10+5,none⟩=some (.int .i64 t.b):=hc _ _ (mid hpl (by rfl));have y6:w3.cell? ⟨gb,k * 10+6,none⟩=some (.slice AF i.facts.length cF):=hc _ _ (mid hpl (by rfl));have y7:w3.cell? ⟨gb,k * 10+7,none⟩=some (.slice AA i.atoms.length cA):=hc _ _ (mid hpl (by rfl));have y8:w3.cell? ⟨gb,k * 10+8,none⟩=some (.slice AB body.len cB):=hc _ _ (mid hpl (by rfl));have y9:w3.cell? ⟨gb,k * 10+9,none⟩=some (.slice AE els.len cE):=hc _ _ (mid hpl (by rfl));rw[Nat.add_zero] at y0;rw[hob] at s1 s2 s3 s4 s5 s6 s8;have hgg:g<gb:=by omega
 have Y2:=ax (s2.mono (Y:=fun x=>w.heap.size≤x∧x≠gb) fun x hx _=>⟨hx.1,fun e=>hx.2.1 (by rw[e])⟩);have Y3:=ax (s3.mono (Y:=fun x=>w.heap.size≤x∧x≠gb) fun x hx _=>⟨hx.1,fun e=>hx.2.1 (by rw[e])⟩);have Y4:=ax (s4.mono (Y:=fun x=>w.heap.size≤x∧x≠gb) fun x hx _=>⟨hx.1,fun e=>hx.2.1 (by rw[e])⟩);have Y5:=ax (s5.mono (Y:=fun x=>w.heap.size≤x∧x≠gb) fun x hx _=>⟨hx.1,fun e=>hx.2.1 (by rw[e])⟩);have Y6:=ax (s6.mono (Y:=fun x=>w.heap.size≤x∧x≠gb) fun x hx _=>⟨hx.1,fun e=>hx.2.1 (by rw[e])⟩);have Y8:=ax (part_of (Y:=fun x=>w.heap.size≤x∧x≠gb) s7 s8 (fun x hx=>⟨hx.1,fun e=>hx.2.1 (by rw[e])⟩) (fun x hx=>by have:=s1 x hx;exact ⟨this.1,fun e=>this.2 (by rw[e])⟩))
 have hLc:L.len=P.len+R.len+1∧L.cost=P.cost+(i.facts.length+i.atoms.length+(body.len+body.cost)+(els.len+els.cost)+R.cost):=by
  rw[eL,Cms.len_app,Cms.cost_app];simp only[Cms.len,Cms.cost];exact ⟨by omega,trivial⟩
 replace hLc:=ax hLc;replace eL:=ax eL;replace hc:=ax hc;replace hkb:=ax hkb;replace s1:=ax s1;replace s2:=ax s2;replace s3:=ax s3;replace s4:=ax s4;replace s5:=ax s5;replace s6:=ax s6;replace s7:=ax s7;replace s8:=ax s8;replace hT:=ax hT;replace ho:=ax ho;replace hob:=ax hob;replace ecs:=ax ecs;replace hpl:=ax hpl;replace eP:=ax eP;by_cases hm0:(m:Int)=0
 ·have b0:((m:Int) == 0)=true:=by simpa using hm0
  clear hm0;(go_wp2_with fail);refine (c_numL g (p+1+1) [0,8,1,6,7] _ _ _ _ (hR3.o.bz bel) (by omega) (Blk.new _ _ _) (by rfl) (by omega) (by rfl) (by simp) (by simp)).mono ?_;rintro e w4 ⟨x,-,rfl,hR4,hF4⟩;have hsame:∀ x,x≠g→x<w3.heap.size→w4.heap[x]? = w3.heap[x]?:=fun x h1 h2=>(hF4.block x (by simp;omega) h1).trans ((bbox (Below.refl _ w3) _).block x h2);have z4:=hF4.size;simp only[World.size_alloc] at z4;have hcell:∀ j,w4.cell? ⟨gb,j,none⟩=w3.cell? ⟨gb,j,none⟩:=fun j=>World.cell?_of_block (a:=⟨gb,j,none⟩) (hsame gb (by omega) hlb);have kb4:=(hkb.o.alloc (.cells (encI [0,8,1,6,7]).toArray tI)).fr hF4 (by omega);have C4:∀ j u,(pre++((tenL kd a b t (.slice AF i.facts.length cF) (.slice AA i.atoms.length cA) (.slice AB body.len cB) (.slice AE els.len cE))++post))[j]? = some u→w4.cell? ⟨gb,j,none⟩=some u:=fun j u hu=>(hcell j).trans (hc.o j u hu);replace C4:=ax C4;have F4:=ax ((F3.o.alloc (.cells (encI [0,8,1,6,7]).toArray tI)).pick hF4 hR4);have frb4:=kb4.frozen;replace kb4:=ax kb4;rw[←hcell] at y0 y1 y2 y3 y4 y5 y6 y7 y8 y9;replace hsame:=ax hsame;have hlb4:gb<w4.heap.size:=by omega
  clear hF4 hcell frb;(go_wp2_with fail);have D0:=cells_set kb4.o C4.o (mid (d:=0) hpl.o (by rfl)) (.int .i64 x);rw[mid_set hpl.o (by simp[tenL])] at D0;have hl':(P.app (.cons x a b t i body els R)).len=n:=by rw[hn.o,hLc.o.1,Cms.len_app];simp only[Cms.len];omega
  refine bodyPost_ret (v:=.slice (some ⟨gb,0,none⟩) n c1) (by simp[results,Tryz.results80,go_sem]) rfl ⟨_,c1,P.app (.cons x a b t i body els R),by rw[hl'],?_,?_,?_,by rw[hl'];exact hcap.o,by rw[hl'];exact hL1⟩
  ·exact mut_close Y2.o Y3.o Y4.o Y5.o Y8.o Y6.o (fun x h1 h2 hl=>(Below.heap_setCell _ _ _ x h2).trans ((hsame.o x (by omega) hl))) hgb (by simp;omega) D0
  ·have h1:=hLc.o;have h2:=hLS.o;rw[Cms.len_app,Cms.cost_app];simp only[Cms.len,Cms.cost];omega
  ·exact ⟨_,by omega,(F4.o.set_ (Or.inr (by simp only;omega)) _)⟩
 have b0:((m:Int) == 0)=false:=by simpa using hm0
 clear hm0;by_cases hm1:(m:Int)=1
 ·have b1:((m:Int) == 1)=true:=by simpa using hm1
  clear hm1;(go_wp2_with fail);refine (c_numL g (p+1+1) [0,5,9,(-1)] _ _ _ _ (hR3.o.bz bel) (by omega) (Blk.new _ _ _) (by rfl) (by omega) (by rfl) (by simp) (by simp)).mono ?_;rintro e w4 ⟨x,-,rfl,hR4,hF4⟩;have hsame:∀ x,x≠g→x<w3.heap.size→w4.heap[x]? = w3.heap[x]?:=fun x h1 h2=>(hF4.block x (by simp;omega) h1).trans ((bbox (Below.refl _ w3) _).block x h2);have z4:=hF4.size;simp only[World.size_alloc] at z4;have hcell:∀ j,w4.cell? ⟨gb,j,none⟩=w3.cell? ⟨gb,j,none⟩:=fun j=>World.cell?_of_block (a:=⟨gb,j,none⟩) (hsame gb (by omega) hlb);have kb4:=(hkb.o.alloc (.cells (encI [0,5,9,(-1)]).toArray tI)).fr hF4 (by omega);have C4:∀ j u,(pre++((tenL kd a b t (.slice AF i.facts.length cF) (.slice AA i.atoms.length cA) (.slice AB body.len cB) (.slice AE els.len cE))++post))[j]? = some u→w4.cell? ⟨gb,j,none⟩=some u:=fun j u hu=>(hcell j).trans (hc.o j u hu);replace C4:=ax C4;have F4:=ax ((F3.o.alloc (.cells (encI [0,5,9,(-1)]).toArray tI)).pick hF4 hR4);have frb4:=kb4.frozen;replace kb4:=ax kb4;rw[←hcell] at y0 y1 y2 y3 y4 y5 y6 y7 y8 y9;replace hsame:=ax hsame;have hlb4:gb<w4.heap.size:=by omega
  clear hF4 hcell frb;(go_wp2_with fail);have D0:=cells_set kb4.o C4.o (mid (d:=1) hpl.o (by rfl)) (.int .i64 x);rw[mid_set hpl.o (by simp[tenL])] at D0;have hl':(P.app (.cons kd x b t i body els R)).len=n:=by rw[hn.o,hLc.o.1,Cms.len_app];simp only[Cms.len];omega
  refine bodyPost_ret (v:=.slice (some ⟨gb,0,none⟩) n c1) (by simp[results,Tryz.results80,go_sem]) rfl ⟨_,c1,P.app (.cons kd x b t i body els R),by rw[hl'],?_,?_,?_,by rw[hl'];exact hcap.o,by rw[hl'];exact hL1⟩
  ·exact mut_close Y2.o Y3.o Y4.o Y5.o Y8.o Y6.o (fun x h1 h2 hl=>(Below.heap_setCell _ _ _ x h2).trans ((hsame.o x (by omega) hl))) hgb (by simp;omega) D0
  ·have h1:=hLc.o;have h2:=hLS.o;rw[Cms.len_app,Cms.cost_app];simp only[Cms.len,Cms.cost];omega
  ·exact ⟨_,by omega,(F4.o.set_ (Or.inr (by simp only;omega)) _)⟩
 have b1:((m:Int) == 1)=false:=by simpa using hm1
 clear hm1;by_cases hm2:(m:Int)=2
 ·have b2:((m:Int) == 2)=true:=by simpa using hm2
  clear hm2;(go_wp2_with fail);refine (c_numL g (p+1+1) [1,9] _ _ _ _ (hR3.o.bz bel) (by omega) (Blk.new _ _ _) (by rfl) (by omega) (by rfl) (by simp) (by simp)).mono ?_;rintro e w4 ⟨x,-,rfl,hR4,hF4⟩;have hsame:∀ x,x≠g→x<w3.heap.size→w4.heap[x]? = w3.heap[x]?:=fun x h1 h2=>(hF4.block x (by simp;omega) h1).trans ((bbox (Below.refl _ w3) _).block x h2);have z4:=hF4.size;simp only[World.size_alloc] at z4;have hcell:∀ j,w4.cell? ⟨gb,j,none⟩=w3.cell? ⟨gb,j,none⟩:=fun j=>World.cell?_of_block (a:=⟨gb,j,none⟩) (hsame gb (by omega) hlb);have kb4:=(hkb.o.alloc (.cells (encI [1,9]).toArray tI)).fr hF4 (by omega);have C4:∀ j u,(pre++((tenL kd a b t (.slice AF i.facts.length cF) (.slice AA i.atoms.length cA) (.slice AB body.len cB) (.slice AE els.len cE))++post))[j]? = some u→w4.cell? ⟨gb,j,none⟩=some u:=fun j u hu=>(hcell j).trans (hc.o j u hu);replace C4:=ax C4;have F4:=ax ((F3.o.alloc (.cells (encI [1,9]).toArray tI)).pick hF4 hR4);have frb4:=kb4.frozen;replace kb4:=ax kb4;rw[←hcell] at y0 y1 y2 y3 y4 y5 y6 y7 y8 y9;replace hsame:=ax hsame;have hlb4:gb<w4.heap.size:=by omega
  clear hF4 hcell frb;(go_wp2_with fail);have D0:=cells_set kb4.o C4.o (mid (d:=3) hpl.o (by rfl)) (.bool false);rw[mid_set hpl.o (by simp[tenL])] at D0;have D1:=cells_set (kb4.o.set_ (k * 10+3) (.bool false)) D0 (mid (d:=4) hpl.o (by rfl)) (.int .i64 x);rw[mid_set hpl.o (by simp[tenL])] at D1;have D2:=cells_set ((kb4.o.set_ (k * 10+3) (.bool false)).set_ (k * 10+4) (.int .i64 x)) D1 (mid (d:=5) hpl.o (by rfl)) (.int .i64 2);rw[mid_set hpl.o (by simp[tenL])] at D2;have hl':(P.app (.cons kd a b ⟨false,x,2⟩ i body els R)).len=n:=by rw[hn.o,hLc.o.1,Cms.len_app];simp only[Cms.len];omega
  refine bodyPost_ret (v:=.slice (some ⟨gb,0,none⟩) n c1) (by simp[results,Tryz.results80,go_sem]) rfl ⟨_,c1,P.app (.cons kd a b ⟨false,x,2⟩ i body els R),by rw[hl'],?_,?_,?_,by rw[hl'];exact hcap.o,by rw[hl'];exact hL1⟩
  ·exact mut_close Y2.o Y3.o Y4.o Y5.o Y8.o Y6.o (fun x h1 h2 hl=>(Below.heap_setCell _ _ _ x h2).trans ((Below.heap_setCell _ _ _ x h2).trans ((Below.heap_setCell _ _ _ x h2).trans ((hsame.o x (by omega) hl))))) hgb (by simp;omega) D2
  ·have h1:=hLc.o;have h2:=hLS.o;rw[Cms.len_app,Cms.cost_app];simp only[Cms.len,Cms.cost];omega
  ·exact ⟨_,by omega,(((F4.o.set_ (Or.inr (by simp only;omega)) _).set_ (Or.inr (by simp only;omega)) _).set_ (Or.inr (by simp only;omega)) _)⟩
 have b2:((m:Int) == 2)=false:=by simpa using hm2
 clear hm2;by_cases hm3:(m:Int)=3
 ·have b3:((m:Int) == 3)=true:=by simpa using hm3
  clear hm3 y0 y1 y2 y3 y4 y5 y6 y7 y8 y9 frb s1 s2 s3 s4 s5 s6 s7 s8 Y2 Y3 Y4 Y5 Y6 Y8 hkb hc eL hLc ecs hpl eP hT ho hob;have hN:=ax hC3.o.n;clear hC3;(go_wp2_with fail)
  go_loopg [5] 17 (fun gh q5 wr=>∃ (A5:Option Addr) (c5:Nat) (M:Cms),q5=.slice A5 M.len c5∧17≤gh+M.len∧(M.len≤17∨M.len=n)∧aJ (M.cost=L.cost)∧aJ (CmsN wr w.heap.size (.slice A5 M.len c5) M)∧aJ (Rdf g (p+1+1) w wr))
  case atStart=>exact ⟨_,c1,L,by rw[←hn.o],by omega,Or.inr hn.o.symm,ax rfl,by rw[←hn.o];exact hN.o,F3.o⟩
  case round=>
   clear hN F3 hlb;obtain ⟨A5,c5,M,rfl,hgm,hM,hcost,hN,hF⟩:=hrel;obtain ⟨wo,rfl⟩:∃ x,x=wr:=⟨_,rfl⟩;have hsz:=hF.o.2.1.size;by_cases hle:M.len≤16
   ·have hlei:(M.len:Int)≤16:=by omega
    obtain ⟨cs,ho,hT,-⟩:=hN.o;replace hT:=ax hT;replace ho:=ax ho;(go_wp2_with (at_builtin;go_loud (refine appCX (base:=w.heap.size) (g0:=wo.heap.size) rfl _ _ rfl rfl (own_below ho.o (bbox (Below.refl _ _) _)) (tenL 4 1 0 ⟨false,0,0⟩ (.slice none 0 0) (.slice none 0 0) (.slice none 0 0) (.slice none 0 0)) rfl (Blk.new _ _ _) rfl rfl (tenOne _ _ _ _ _ _ _ _ _ _ _ _ _ _ _ _) (by omega) (by simp;omega) ?_);(intro A9 c9 w9 o9 g9 B9 v9;have o9:=ax o9;have g9:=ax g9;have v9:=ax v9;have B9:=ax B9)));have hl:(M.app (.cons 4 1 0 ⟨false,0,0⟩ ⟨[],[]⟩ .nil .nil .nil)).len=M.len+1:=by rw[Cms.len_app];rfl
    have hc:(M.app (.cons 4 1 0 ⟨false,0,0⟩ ⟨[],[]⟩ .nil .nil .nil)).cost=M.cost:=by rw[Cms.cost_app];simp[Cms.cost,Cms.len]
    have N9:CmsN w9 w.heap.size (.slice A9 (M.len+1) c9) (M.app (.cons 4 1 0 ⟨false,0,0⟩ ⟨[],[]⟩ .nil .nil .nil)):=
     CmsN.grow (w:=wo.alloc (.cells ((tenL 4 1 0 ⟨false,0,0⟩ (.slice none 0 0) (.slice none 0 0) (.slice none 0 0) (.slice none 0 0))).toArray tC)) (v:=.slice A5 M.len c5) (AF:=none) (AA:=none) (AB:=none) (AE:=none) (cF:=0) (cA:=0) (cB:=0) (cE:=0) (hT.o.keep fun x _ hx=>(bbox (Below.refl _ wo) _).block x hx) (by omega) (RwX.none ..) (RwX.none ..) (PartX.nil _) (PartX.nil _) o9.o g9.o v9.o
    have F9:Rdf g (p+1+1) w w9:=(hF.o.alloc _).goB B9.o (Nat.le_refl _)
    go_roundg (gk - 1)
    case rel=>exact ⟨A9,c9,_,by rw[hl],by rw[hl];omega,Or.inl (by rw[hl];omega),ax (hc.trans hcost.o),by rw[hl];exact N9,F9⟩
    case measure=>omega
   ·have hlei:¬(M.len:Int)≤16:=by omega
    (go_wp2_with fail);have hcM:aJ (M.len≤c5):=ax (by obtain ⟨cs,ho,-,-⟩:=hN.o;exact row_cap ho);obtain ⟨A',c',e,hV⟩:=hN.o.rj;injection e with e1 e2 e3;subst e1;refine bodyPost_ret (v:=.slice A5 M.len c5) (by simp[results,Tryz.results80,go_sem]) rfl ⟨_,c5,M,rfl,hV,?_,⟨_,by omega,hF.o⟩,hcM.o,by omega⟩;have h1:=hcost.o;have h2:=hLS.o;have h3:=hn.o;omega
 have b3:((m:Int) == 3)=false:=by simpa using hm3
 clear hm3;by_cases hm4:(m:Int)=4
 ·have b4:((m:Int) == 4)=true:=by simpa using hm4
  clear hm4;have hkd:=hkb.o.drew;have hbl:body.len≤903:=by have:=hLc.o;have:=hLS.o;omega
  have own7:(w3.drew.alloc (.cells ((tenL 0 0 0 ⟨false,0,0⟩ (.slice none 0 0) (.slice none 0 0) (.slice none 0 0) (.slice none 0 0))).toArray tC)).ownsRow w.heap.size tC 10 (.slice AB body.len cB) body.len csB:=own_keep s7.o fun x hx hl=>(bbox (Below.refl _ w3.drew) _).block x hl;have kept:∀ x,x<w3.heap.size→(w3.drew.alloc (.cells ((tenL 0 0 0 ⟨false,0,0⟩ (.slice none 0 0) (.slice none 0 0) (.slice none 0 0) (.slice none 0 0))).toArray tC)).heap[x]? = w3.heap[x]?:=fun x hl=>(bbox (Below.refl _ w3.drew) _).block x hl;replace own7:=ax own7;replace kept:=ax kept;(go_wp2_with fail);refine wp_region_noPanic ?_;refine wp_region_held_drew (S:=(fun _=>True)) (by kernel_rfl) (trivial) (fun aH=>?_);refine tk2 0 rfl aH (h:=tk2 1 rfl aH (h:=tk2 2 rfl aH (h:=?_)));(try simp only[zz]);refine tk2 3 rfl aH (h:=tk2 5 rfl aH (h:=?_));(try simp only[zz]);refine rdd 4 7 rfl rfl (fun K hK=>?_) fun K hK=>?_
  ·(try simp only[zz]);go_simp;refine hK.out _ _ trivial ?_;clear aH hK K;intro aH;(try simp only[zz]);refine rdd 6 7 rfl rfl (fun K hK=>?_) fun K hK=>?_
   ·(try simp only[zz]);go_simp;refine hK.out _ _ trivial ?_;clear aH hK K;intro aH;refine rdc 7 rfl fun K hK=>?_;(try simp only[zz]);go_simp;refine hK.out _ _ trivial ?_;clear aH hK K;intro aH;(try simp only[zz]);refine rdc 8 rfl fun K hK=>?_;skip;refine stepCX (base:=w.heap.size) (g0:=w3.heap.size) rfl _ _ rfl rfl own7.o (tenL 0 0 0 ⟨false,0,0⟩ (.slice none 0 0) (.slice none 0 0) (.slice none 0 0) (.slice none 0 0)) rfl (Blk.new w3.drew tC _) rfl rfl (tenOne _ _ _ _ _ _ _ _ _ _ _ _ _ _ _ _) (by omega) (by simp;omega) ?_;intro A9 c9 w9 o9 g9 B9 v9;obtain ⟨g8,cur8,rfl,e8,hk8,hob8,hc8⟩:=row_open o9 (by omega);have hgn:(Value.slice AB body.len cB).ownBlock≠some gb:=fun e=>(s1.o gb e).2 rfl;have same9:∀ x,x<w3.heap.size→(Value.slice AB body.len cB).ownBlock≠some x→w9.heap[x]? = w3.heap[x]?:=fun x h1 h2=>(g9.block x (by simp;omega) (fun e=>h2 e.symm)).trans (kept.o x h1);have y89:w9.cell? ⟨gb,k * 10+8,none⟩=some (.slice AB body.len cB):=(World.cell?_of_block (a:=⟨gb,k * 10+8,none⟩) (same9 gb hlb hgn)).trans y8;have hkb9:Blk w9 gb tC cur:=(same9 gb hlb hgn).trans hkb.o;have fr9:=hkb9.frozen;have fr8:=hk8.frozen;have hpl8:csB.length=body.len * 10:=s8.o.len;have hne8:gb≠g8:=fun e=>v9.elim (fun h=>hgn (Eq.trans (show (Value.slice AB body.len cB).ownBlock=(Value.slice (some ⟨g8,0,none⟩) (body.len+1) c9).ownBlock from h.symm) (hob8.trans (by rw[e])))) (fun h=>by rw[hob8] at h;injection h with h;simp at h;omega);have hc8':∀ j u,(csB++([.int .i64 0,.int .i64 0,.int .i64 0,.bool false,.int .i64 0,.int .i64 0,.slice none 0 0,.slice none 0 0,.slice none 0 0,.slice none 0 0]++[]))[j]? = some u→w9.cell? ⟨g8,j,none⟩=some u:=fun j u hu=>hc8 j u (by rw[List.append_nil] at hu;exact hu);have zz0:w9.cell? ⟨g8,body.len * 10,none⟩=some (.int .i64 0):=hc8' _ _ (mid (d:=0) hpl8 (by rfl));have zz1:w9.cell? ⟨g8,body.len * 10+1,none⟩=some (.int .i64 0):=hc8' _ _ (mid (d:=1) hpl8 (by rfl));have zz2:w9.cell? ⟨g8,body.len * 10+2,none⟩=some (.int .i64 0):=hc8' _ _ (mid (d:=2) hpl8 (by rfl));have zz3:w9.cell? ⟨g8,body.len * 10+3,none⟩=some (.bool false):=hc8' _ _ (mid (d:=3) hpl8 (by rfl));have zz4:w9.cell? ⟨g8,body.len * 10+4,none⟩=some (.int .i64 0):=hc8' _ _ (mid (d:=4) hpl8 (by rfl));have zz5:w9.cell? ⟨g8,body.len * 10+5,none⟩=some (.int .i64 0):=hc8' _ _ (mid (d:=5) hpl8 (by rfl));have zz6:w9.cell? ⟨g8,body.len * 10+6,none⟩=some (.slice none 0 0):=hc8' _ _ (mid (d:=6) hpl8 (by rfl));have zz7:w9.cell? ⟨g8,body.len * 10+7,none⟩=some (.slice none 0 0):=hc8' _ _ (mid (d:=7) hpl8 (by rfl));have zz8:w9.cell? ⟨g8,body.len * 10+8,none⟩=some (.slice none 0 0):=hc8' _ _ (mid (d:=8) hpl8 (by rfl));have zz9:w9.cell? ⟨g8,body.len * 10+9,none⟩=some (.slice none 0 0):=hc8' _ _ (mid (d:=9) hpl8 (by rfl));have hb1:(body.len:Int)<(body.len:Int)+1:=by omega
    have hx8:∀ x,x<w3.heap.size→(Value.slice AB body.len cB).ownBlock≠some x→x≠g8:=fun x h1 h2 e=>v9.elim (fun h=>h2 (Eq.trans (show (Value.slice AB body.len cB).ownBlock=(Value.slice (some ⟨g8,0,none⟩) (body.len+1) c9).ownBlock from h.symm) (hob8.trans (by rw[e])))) (fun h=>by rw[hob8] at h;injection h with h;simp at h;omega);have F9:Rdf g (p+1+1) w w9:=((F3.o.drew).alloc _).goB B9 (Nat.le_refl _);have hgb9:w9.heap[gb]? = w3.heap[gb]?:=same9 gb hlb hgn;have z9:=B9.size;simp at z9;replace hx8:=ax hx8;replace F9:=ax F9;replace hgb9:=ax hgb9;replace same9:=ax same9;replace hc8':=ax hc8';replace hk8:=ax hk8;replace hkb9:=ax hkb9;replace g9:=ax g9;replace B9:=ax B9;replace v9:=ax v9;replace o9:=ax o9;replace hpl8:=ax hpl8;replace hob8:=ax hob8;clear hc8 hgn;refine hK.out _ _ trivial ?_;clear aH hK K;intro aH;(try simp only[zz]);refine tk2 11 rfl aH (h:=tk2 12 rfl aH (h:=?_));(try simp only[zz]);refine rdd 9 13 rfl rfl (fun K hK=>?_) fun K hK=>?_
    ·(try simp only[zz]);go_simp;refine hK.out _ _ trivial ?_;clear aH hK K;intro aH;(try simp only[zz]);refine rdd 10 13 rfl rfl (fun K hK=>?_) fun K hK=>?_
     ·(try simp only[zz]);go_simp;refine hK.out _ _ trivial ?_;clear aH hK K;intro aH;refine rdc 13 rfl fun K hK=>?_;(try simp only[zz]);go_simp;refine hK.out _ _ trivial ?_;clear aH hK K;intro aH;(try simp only[zz]);refine dn1 ?_;have hl':(P.app (.cons kd a b t i (body.app (.cons 5 1 0 ⟨false,0,0⟩ ⟨[],[]⟩ .nil .nil .nil)) els R)).len=n:=by rw[hn.o,hLc.o.1,Cms.len_app];simp only[Cms.len];omega
      have hT:=mut4A (c9:=c9) (cF:=cF) (cA:=cA) (cE:=cE) s2.o s3.o s4.o s5.o s6.o s8.o hx8.o same9.o e8 hne8 hk8.o hpl8.o hc8'.o hkb9.o hgb9.o hc.o hpl.o hgb F9.o;replace hT:=ax hT;replace hl':=ax hl';(go_wp2_with fail);refine bodyPost_ret (v:=.slice (some ⟨gb,0,none⟩) n c1) (by simp[results,Tryz.results80,go_sem]) rfl ⟨_,c1,P.app (.cons kd a b t i (body.app (.cons 5 1 0 ⟨false,0,0⟩ ⟨[],[]⟩ .nil .nil .nil)) els R),by rw[hl'.o],hT.o.1,?_,⟨_,by omega,hT.o.2⟩,by rw[hl'.o];exact hcap.o,by rw[hl'.o];exact hL1⟩;have h1:=hLc.o;have h2:=hLS.o;rw[Cms.len_app,Cms.cost_app];simp only[Cms.len,Cms.cost,Cms.len_app,Cms.cost_app];simp;omega
     ·(try simp only[zz]);go_simp;refine hK.out _ _ trivial ?_;clear aH hK K;intro aH;refine rdc 10 rfl fun K hK=>?_;(try simp only[zz]);go_simp;refine hK.out _ _ trivial ?_;clear aH hK K;intro aH;(try simp only[zz]);refine dn1 ?_;have hl':(P.app (.cons kd a b t i (body.app (.cons 5 1 0 ⟨false,0,0⟩ ⟨[],[]⟩ .nil .nil .nil)) els R)).len=n:=by rw[hn.o,hLc.o.1,Cms.len_app];simp only[Cms.len];omega
      have hT:=mut4B (c9:=c9) (cF:=cF) (cA:=cA) (cE:=cE) s2.o s3.o s4.o s5.o s6.o s8.o hx8.o same9.o e8 hne8 hk8.o hpl8.o hc8'.o hkb9.o hgb9.o hc.o hpl.o hgb F9.o;replace hT:=ax hT;replace hl':=ax hl';(go_wp2_with fail);refine bodyPost_ret (v:=.slice (some ⟨gb,0,none⟩) n c1) (by simp[results,Tryz.results80,go_sem]) rfl ⟨_,c1,P.app (.cons kd a b t i (body.app (.cons 5 1 0 ⟨false,0,0⟩ ⟨[],[]⟩ .nil .nil .nil)) els R),by rw[hl'.o],hT.o.1,?_,⟨_,by omega,hT.o.2⟩,by rw[hl'.o];exact hcap.o,by rw[hl'.o];exact hL1⟩;have h1:=hLc.o;have h2:=hLS.o;rw[Cms.len_app,Cms.cost_app];simp only[Cms.len,Cms.cost,Cms.len_app,Cms.cost_app];simp;omega
    ·(try simp only[zz]);go_simp;refine hK.out _ _ trivial ?_;clear aH hK K;intro aH;refine rdc 9 rfl fun K hK=>?_;(try simp only[zz]);go_simp;refine hK.out _ _ trivial ?_;clear aH hK K;intro aH;refine rdc 10 rfl fun K hK=>?_;(try simp only[zz]);go_simp;refine hK.out _ _ trivial ?_;clear aH hK K;intro aH;(try simp only[zz]);refine dn1 ?_;have hl':(P.app (.cons kd a b t i (body.app (.cons 5 1 0 ⟨false,0,0⟩ ⟨[],[]⟩ .nil .nil .nil)) els R)).len=n:=by rw[hn.o,hLc.o.1,Cms.len_app];simp only[Cms.len];omega
     have hT:=mut4B (c9:=c9) (cF:=cF) (cA:=cA) (cE:=cE) s2.o s3.o s4.o s5.o s6.o s8.o hx8.o same9.o e8 hne8 hk8.o hpl8.o hc8'.o hkb9.o hgb9.o hc.o hpl.o hgb F9.o;replace hT:=ax hT;replace hl':=ax hl';(go_wp2_with fail);refine bodyPost_ret (v:=.slice (some ⟨gb,0,none⟩) n c1) (by simp[results,Tryz.results80,go_sem]) rfl ⟨_,c1,P.app (.cons kd a b t i (body.app (.cons 5 1 0 ⟨false,0,0⟩ ⟨[],[]⟩ .nil .nil .nil)) els R),by rw[hl'.o],hT.o.1,?_,⟨_,by omega,hT.o.2⟩,by rw[hl'.o];exact hcap.o,by rw[hl'.o];exact hL1⟩;have h1:=hLc.o;have h2:=hLS.o;rw[Cms.len_app,Cms.cost_app];simp only[Cms.len,Cms.cost,Cms.len_app,Cms.cost_app];simp;omega
   ·(try simp only[zz]);go_simp;refine hK.out _ _ trivial ?_;clear aH hK K;intro aH;refine rdc 6 rfl fun K hK=>?_;(try simp only[zz]);go_simp;refine hK.out _ _ trivial ?_;clear aH hK K;intro aH;(try simp only[zz]);refine rdc 8 rfl fun K hK=>?_;skip;refine stepCX (base:=w.heap.size) (g0:=w3.heap.size) rfl _ _ rfl rfl own7.o (tenL 0 0 0 ⟨false,0,0⟩ (.slice none 0 0) (.slice none 0 0) (.slice none 0 0) (.slice none 0 0)) rfl (Blk.new w3.drew tC _) rfl rfl (tenOne _ _ _ _ _ _ _ _ _ _ _ _ _ _ _ _) (by omega) (by simp;omega) ?_;intro A9 c9 w9 o9 g9 B9 v9;obtain ⟨g8,cur8,rfl,e8,hk8,hob8,hc8⟩:=row_open o9 (by omega);have hgn:(Value.slice AB body.len cB).ownBlock≠some gb:=fun e=>(s1.o gb e).2 rfl;have same9:∀ x,x<w3.heap.size→(Value.slice AB body.len cB).ownBlock≠some x→w9.heap[x]? = w3.heap[x]?:=fun x h1 h2=>(g9.block x (by simp;omega) (fun e=>h2 e.symm)).trans (kept.o x h1);have y89:w9.cell? ⟨gb,k * 10+8,none⟩=some (.slice AB body.len cB):=(World.cell?_of_block (a:=⟨gb,k * 10+8,none⟩) (same9 gb hlb hgn)).trans y8;have hkb9:Blk w9 gb tC cur:=(same9 gb hlb hgn).trans hkb.o;have fr9:=hkb9.frozen;have fr8:=hk8.frozen;have hpl8:csB.length=body.len * 10:=s8.o.len;have hne8:gb≠g8:=fun e=>v9.elim (fun h=>hgn (Eq.trans (show (Value.slice AB body.len cB).ownBlock=(Value.slice (some ⟨g8,0,none⟩) (body.len+1) c9).ownBlock from h.symm) (hob8.trans (by rw[e])))) (fun h=>by rw[hob8] at h;injection h with h;simp at h;omega);have hc8':∀ j u,(csB++([.int .i64 0,.int .i64 0,.int .i64 0,.bool false,.int .i64 0,.int .i64 0,.slice none 0 0,.slice none 0 0,.slice none 0 0,.slice none 0 0]++[]))[j]? = some u→w9.cell? ⟨g8,j,none⟩=some u:=fun j u hu=>hc8 j u (by rw[List.append_nil] at hu;exact hu);have zz0:w9.cell? ⟨g8,body.len * 10,none⟩=some (.int .i64 0):=hc8' _ _ (mid (d:=0) hpl8 (by rfl));have zz1:w9.cell? ⟨g8,body.len * 10+1,none⟩=some (.int .i64 0):=hc8' _ _ (mid (d:=1) hpl8 (by rfl));have zz2:w9.cell? ⟨g8,body.len * 10+2,none⟩=some (.int .i64 0):=hc8' _ _ (mid (d:=2) hpl8 (by rfl));have zz3:w9.cell? ⟨g8,body.len * 10+3,none⟩=some (.bool false):=hc8' _ _ (mid (d:=3) hpl8 (by rfl));have zz4:w9.cell? ⟨g8,body.len * 10+4,none⟩=some (.int .i64 0):=hc8' _ _ (mid (d:=4) hpl8 (by rfl));have zz5:w9.cell? ⟨g8,body.len * 10+5,none⟩=some (.int .i64 0):=hc8' _ _ (mid (d:=5) hpl8 (by rfl));have zz6:w9.cell? ⟨g8,body.len * 10+6,none⟩=some (.slice none 0 0):=hc8' _ _ (mid (d:=6) hpl8 (by rfl));have zz7:w9.cell? ⟨g8,body.len * 10+7,none⟩=some (.slice none 0 0):=hc8' _ _ (mid (d:=7) hpl8 (by rfl));have zz8:w9.cell? ⟨g8,body.len * 10+8,none⟩=some (.slice none 0 0):=hc8' _ _ (mid (d:=8) hpl8 (by rfl));have zz9:w9.cell? ⟨g8,body.len * 10+9,none⟩=some (.slice none 0 0):=hc8' _ _ (mid (d:=9) hpl8 (by rfl));have hb1:(body.len:Int)<(body.len:Int)+1:=by omega
    have hx8:∀ x,x<w3.heap.size→(Value.slice AB body.len cB).ownBlock≠some x→x≠g8:=fun x h1 h2 e=>v9.elim (fun h=>h2 (Eq.trans (show (Value.slice AB body.len cB).ownBlock=(Value.slice (some ⟨g8,0,none⟩) (body.len+1) c9).ownBlock from h.symm) (hob8.trans (by rw[e])))) (fun h=>by rw[hob8] at h;injection h with h;simp at h;omega);have F9:Rdf g (p+1+1) w w9:=((F3.o.drew).alloc _).goB B9 (Nat.le_refl _);have hgb9:w9.heap[gb]? = w3.heap[gb]?:=same9 gb hlb hgn;have z9:=B9.size;simp at z9;replace hx8:=ax hx8;replace F9:=ax F9;replace hgb9:=ax hgb9;replace same9:=ax same9;replace hc8':=ax hc8';replace hk8:=ax hk8;replace hkb9:=ax hkb9;replace g9:=ax g9;replace B9:=ax B9;replace v9:=ax v9;replace o9:=ax o9;replace hpl8:=ax hpl8;replace hob8:=ax hob8;clear hc8 hgn;refine hK.out _ _ trivial ?_;clear aH hK K;intro aH;(try simp only[zz]);refine tk2 11 rfl aH (h:=tk2 12 rfl aH (h:=?_));(try simp only[zz]);refine rdd 9 13 rfl rfl (fun K hK=>?_) fun K hK=>?_
    ·(try simp only[zz]);go_simp;refine hK.out _ _ trivial ?_;clear aH hK K;intro aH;(try simp only[zz]);refine rdd 10 13 rfl rfl (fun K hK=>?_) fun K hK=>?_
     ·(try simp only[zz]);go_simp;refine hK.out _ _ trivial ?_;clear aH hK K;intro aH;refine rdc 13 rfl fun K hK=>?_;(try simp only[zz]);go_simp;refine hK.out _ _ trivial ?_;clear aH hK K;intro aH;(try simp only[zz]);refine dn1 ?_;have hl':(P.app (.cons kd a b t i (body.app (.cons 5 1 0 ⟨false,0,0⟩ ⟨[],[]⟩ .nil .nil .nil)) els R)).len=n:=by rw[hn.o,hLc.o.1,Cms.len_app];simp only[Cms.len];omega
      have hT:=mut4A (c9:=c9) (cF:=cF) (cA:=cA) (cE:=cE) s2.o s3.o s4.o s5.o s6.o s8.o hx8.o same9.o e8 hne8 hk8.o hpl8.o hc8'.o hkb9.o hgb9.o hc.o hpl.o hgb F9.o;replace hT:=ax hT;replace hl':=ax hl';(go_wp2_with fail);refine bodyPost_ret (v:=.slice (some ⟨gb,0,none⟩) n c1) (by simp[results,Tryz.results80,go_sem]) rfl ⟨_,c1,P.app (.cons kd a b t i (body.app (.cons 5 1 0 ⟨false,0,0⟩ ⟨[],[]⟩ .nil .nil .nil)) els R),by rw[hl'.o],hT.o.1,?_,⟨_,by omega,hT.o.2⟩,by rw[hl'.o];exact hcap.o,by rw[hl'.o];exact hL1⟩;have h1:=hLc.o;have h2:=hLS.o;rw[Cms.len_app,Cms.cost_app];simp only[Cms.len,Cms.cost,Cms.len_app,Cms.cost_app];simp;omega
     ·(try simp only[zz]);go_simp;refine hK.out _ _ trivial ?_;clear aH hK K;intro aH;refine rdc 10 rfl fun K hK=>?_;(try simp only[zz]);go_simp;refine hK.out _ _ trivial ?_;clear aH hK K;intro aH;(try simp only[zz]);refine dn1 ?_;have hl':(P.app (.cons kd a b t i (body.app (.cons 5 1 0 ⟨false,0,0⟩ ⟨[],[]⟩ .nil .nil .nil)) els R)).len=n:=by rw[hn.o,hLc.o.1,Cms.len_app];simp only[Cms.len];omega
      have hT:=mut4B (c9:=c9) (cF:=cF) (cA:=cA) (cE:=cE) s2.o s3.o s4.o s5.o s6.o s8.o hx8.o same9.o e8 hne8 hk8.o hpl8.o hc8'.o hkb9.o hgb9.o hc.o hpl.o hgb F9.o;replace hT:=ax hT;replace hl':=ax hl';(go_wp2_with fail);refine bodyPost_ret (v:=.slice (some ⟨gb,0,none⟩) n c1) (by simp[results,Tryz.results80,go_sem]) rfl ⟨_,c1,P.app (.cons kd a b t i (body.app (.cons 5 1 0 ⟨false,0,0⟩ ⟨[],[]⟩ .nil .nil .nil)) els R),by rw[hl'.o],hT.o.1,?_,⟨_,by omega,hT.o.2⟩,by rw[hl'.o];exact hcap.o,by rw[hl'.o];exact hL1⟩;have h1:=hLc.o;have h2:=hLS.o;rw[Cms.len_app,Cms.cost_app];simp only[Cms.len,Cms.cost,Cms.len_app,Cms.cost_app];simp;omega
    ·(try simp only[zz]);go_simp;refine hK.out _ _ trivial ?_;clear aH hK K;intro aH;refine rdc 9 rfl fun K hK=>?_;(try simp only[zz]);go_simp;refine hK.out _ _ trivial ?_;clear aH hK K;intro aH;refine rdc 10 rfl fun K hK=>?_;(try simp only[zz]);go_simp;refine hK.out _ _ trivial ?_;clear aH hK K;intro aH;(try simp only[zz]);refine dn1 ?_;have hl':(P.app (.cons kd a b t i (body.app (.cons 5 1 0 ⟨false,0,0⟩ ⟨[],[]⟩ .nil .nil .nil)) els R)).len=n:=by rw[hn.o,hLc.o.1,Cms.len_app];simp only[Cms.len];omega
     have hT:=mut4B (c9:=c9) (cF:=cF) (cA:=cA) (cE:=cE) s2.o s3.o s4.o s5.o s6.o s8.o hx8.o same9.o e8 hne8 hk8.o hpl8.o hc8'.o hkb9.o hgb9.o hc.o hpl.o hgb F9.o;replace hT:=ax hT;replace hl':=ax hl';(go_wp2_with fail);refine bodyPost_ret (v:=.slice (some ⟨gb,0,none⟩) n c1) (by simp[results,Tryz.results80,go_sem]) rfl ⟨_,c1,P.app (.cons kd a b t i (body.app (.cons 5 1 0 ⟨false,0,0⟩ ⟨[],[]⟩ .nil .nil .nil)) els R),by rw[hl'.o],hT.o.1,?_,⟨_,by omega,hT.o.2⟩,by rw[hl'.o];exact hcap.o,by rw[hl'.o];exact hL1⟩;have h1:=hLc.o;have h2:=hLS.o;rw[Cms.len_app,Cms.cost_app];simp only[Cms.len,Cms.cost,Cms.len_app,Cms.cost_app];simp;omega
  ·(try simp only[zz]);go_simp;refine hK.out _ _ trivial ?_;clear aH hK K;intro aH;refine rdc 4 rfl fun K hK=>?_;(try simp only[zz]);go_simp;refine hK.out _ _ trivial ?_;clear aH hK K;intro aH;refine rdc 6 rfl fun K hK=>?_;(try simp only[zz]);go_simp;refine hK.out _ _ trivial ?_;clear aH hK K;intro aH;(try simp only[zz]);refine rdc 8 rfl fun K hK=>?_;skip;refine stepCX (base:=w.heap.size) (g0:=w3.heap.size) rfl _ _ rfl rfl own7.o (tenL 0 0 0 ⟨false,0,0⟩ (.slice none 0 0) (.slice none 0 0) (.slice none 0 0) (.slice none 0 0)) rfl (Blk.new w3.drew tC _) rfl rfl (tenOne _ _ _ _ _ _ _ _ _ _ _ _ _ _ _ _) (by omega) (by simp;omega) ?_;intro A9 c9 w9 o9 g9 B9 v9;obtain ⟨g8,cur8,rfl,e8,hk8,hob8,hc8⟩:=row_open o9 (by omega);have hgn:(Value.slice AB body.len cB).ownBlock≠some gb:=fun e=>(s1.o gb e).2 rfl;have same9:∀ x,x<w3.heap.size→(Value.slice AB body.len cB).ownBlock≠some x→w9.heap[x]? = w3.heap[x]?:=fun x h1 h2=>(g9.block x (by simp;omega) (fun e=>h2 e.symm)).trans (kept.o x h1);have y89:w9.cell? ⟨gb,k * 10+8,none⟩=some (.slice AB body.len cB):=(World.cell?_of_block (a:=⟨gb,k * 10+8,none⟩) (same9 gb hlb hgn)).trans y8;have hkb9:Blk w9 gb tC cur:=(same9 gb hlb hgn).trans hkb.o;have fr9:=hkb9.frozen;have fr8:=hk8.frozen;have hpl8:csB.length=body.len * 10:=s8.o.len;have hne8:gb≠g8:=fun e=>v9.elim (fun h=>hgn (Eq.trans (show (Value.slice AB body.len cB).ownBlock=(Value.slice (some ⟨g8,0,none⟩) (body.len+1) c9).ownBlock from h.symm) (hob8.trans (by rw[e])))) (fun h=>by rw[hob8] at h;injection h with h;simp at h;omega);have hc8':∀ j u,(csB++([.int .i64 0,.int .i64 0,.int .i64 0,.bool false,.int .i64 0,.int .i64 0,.slice none 0 0,.slice none 0 0,.slice none 0 0,.slice none 0 0]++[]))[j]? = some u→w9.cell? ⟨g8,j,none⟩=some u:=fun j u hu=>hc8 j u (by rw[List.append_nil] at hu;exact hu);have zz0:w9.cell? ⟨g8,body.len * 10,none⟩=some (.int .i64 0):=hc8' _ _ (mid (d:=0) hpl8 (by rfl));have zz1:w9.cell? ⟨g8,body.len * 10+1,none⟩=some (.int .i64 0):=hc8' _ _ (mid (d:=1) hpl8 (by rfl));have zz2:w9.cell? ⟨g8,body.len * 10+2,none⟩=some (.int .i64 0):=hc8' _ _ (mid (d:=2) hpl8 (by rfl));have zz3:w9.cell? ⟨g8,body.len * 10+3,none⟩=some (.bool false):=hc8' _ _ (mid (d:=3) hpl8 (by rfl));have zz4:w9.cell? ⟨g8,body.len * 10+4,none⟩=some (.int .i64 0):=hc8' _ _ (mid (d:=4) hpl8 (by rfl));have zz5:w9.cell? ⟨g8,body.len * 10+5,none⟩=some (.int .i64 0):=hc8' _ _ (mid (d:=5) hpl8 (by rfl));have zz6:w9.cell? ⟨g8,body.len * 10+6,none⟩=some (.slice none 0 0):=hc8' _ _ (mid (d:=6) hpl8 (by rfl));have zz7:w9.cell? ⟨g8,body.len * 10+7,none⟩=some (.slice none 0 0):=hc8' _ _ (mid (d:=7) hpl8 (by rfl));have zz8:w9.cell? ⟨g8,body.len * 10+8,none⟩=some (.slice none 0 0):=hc8' _ _ (mid (d:=8) hpl8 (by rfl));have zz9:w9.cell? ⟨g8,body.len * 10+9,none⟩=some (.slice none 0 0):=hc8' _ _ (mid (d:=9) hpl8 (by rfl));have hb1:(body.len:Int)<(body.len:Int)+1:=by omega
   have hx8:∀ x,x<w3.heap.size→(Value.slice AB body.len cB).ownBlock≠some x→x≠g8:=fun x h1 h2 e=>v9.elim (fun h=>h2 (Eq.trans (show (Value.slice AB body.len cB).ownBlock=(Value.slice (some ⟨g8,0,none⟩) (body.len+1) c9).ownBlock from h.symm) (hob8.trans (by rw[e])))) (fun h=>by rw[hob8] at h;injection h with h;simp at h;omega);have F9:Rdf g (p+1+1) w w9:=((F3.o.drew).alloc _).goB B9 (Nat.le_refl _);have hgb9:w9.heap[gb]? = w3.heap[gb]?:=same9 gb hlb hgn;have z9:=B9.size;simp at z9;replace hx8:=ax hx8;replace F9:=ax F9;replace hgb9:=ax hgb9;replace same9:=ax same9;replace hc8':=ax hc8';replace hk8:=ax hk8;replace hkb9:=ax hkb9;replace g9:=ax g9;replace B9:=ax B9;replace v9:=ax v9;replace o9:=ax o9;replace hpl8:=ax hpl8;replace hob8:=ax hob8;clear hc8 hgn;refine hK.out _ _ trivial ?_;clear aH hK K;intro aH;(try simp only[zz]);refine tk2 11 rfl aH (h:=tk2 12 rfl aH (h:=?_));(try simp only[zz]);refine rdd 9 13 rfl rfl (fun K hK=>?_) fun K hK=>?_
   ·(try simp only[zz]);go_simp;refine hK.out _ _ trivial ?_;clear aH hK K;intro aH;(try simp only[zz]);refine rdd 10 13 rfl rfl (fun K hK=>?_) fun K hK=>?_
    ·(try simp only[zz]);go_simp;refine hK.out _ _ trivial ?_;clear aH hK K;intro aH;refine rdc 13 rfl fun K hK=>?_;(try simp only[zz]);go_simp;refine hK.out _ _ trivial ?_;clear aH hK K;intro aH;(try simp only[zz]);refine dn1 ?_;have hl':(P.app (.cons kd a b t i (body.app (.cons 5 1 0 ⟨false,0,0⟩ ⟨[],[]⟩ .nil .nil .nil)) els R)).len=n:=by rw[hn.o,hLc.o.1,Cms.len_app];simp only[Cms.len];omega
     have hT:=mut4A (c9:=c9) (cF:=cF) (cA:=cA) (cE:=cE) s2.o s3.o s4.o s5.o s6.o s8.o hx8.o same9.o e8 hne8 hk8.o hpl8.o hc8'.o hkb9.o hgb9.o hc.o hpl.o hgb F9.o;replace hT:=ax hT;replace hl':=ax hl';(go_wp2_with fail);refine bodyPost_ret (v:=.slice (some ⟨gb,0,none⟩) n c1) (by simp[results,Tryz.results80,go_sem]) rfl ⟨_,c1,P.app (.cons kd a b t i (body.app (.cons 5 1 0 ⟨false,0,0⟩ ⟨[],[]⟩ .nil .nil .nil)) els R),by rw[hl'.o],hT.o.1,?_,⟨_,by omega,hT.o.2⟩,by rw[hl'.o];exact hcap.o,by rw[hl'.o];exact hL1⟩;have h1:=hLc.o;have h2:=hLS.o;rw[Cms.len_app,Cms.cost_app];simp only[Cms.len,Cms.cost,Cms.len_app,Cms.cost_app];simp;omega
    ·(try simp only[zz]);go_simp;refine hK.out _ _ trivial ?_;clear aH hK K;intro aH;refine rdc 10 rfl fun K hK=>?_;(try simp only[zz]);go_simp;refine hK.out _ _ trivial ?_;clear aH hK K;intro aH;(try simp only[zz]);refine dn1 ?_;have hl':(P.app (.cons kd a b t i (body.app (.cons 5 1 0 ⟨false,0,0⟩ ⟨[],[]⟩ .nil .nil .nil)) els R)).len=n:=by rw[hn.o,hLc.o.1,Cms.len_app];simp only[Cms.len];omega
     have hT:=mut4B (c9:=c9) (cF:=cF) (cA:=cA) (cE:=cE) s2.o s3.o s4.o s5.o s6.o s8.o hx8.o same9.o e8 hne8 hk8.o hpl8.o hc8'.o hkb9.o hgb9.o hc.o hpl.o hgb F9.o;replace hT:=ax hT;replace hl':=ax hl';(go_wp2_with fail);refine bodyPost_ret (v:=.slice (some ⟨gb,0,none⟩) n c1) (by simp[results,Tryz.results80,go_sem]) rfl ⟨_,c1,P.app (.cons kd a b t i (body.app (.cons 5 1 0 ⟨false,0,0⟩ ⟨[],[]⟩ .nil .nil .nil)) els R),by rw[hl'.o],hT.o.1,?_,⟨_,by omega,hT.o.2⟩,by rw[hl'.o];exact hcap.o,by rw[hl'.o];exact hL1⟩;have h1:=hLc.o;have h2:=hLS.o;rw[Cms.len_app,Cms.cost_app];simp only[Cms.len,Cms.cost,Cms.len_app,Cms.cost_app];simp;omega
   ·(try simp only[zz]);go_simp;refine hK.out _ _ trivial ?_;clear aH hK K;intro aH;refine rdc 9 rfl fun K hK=>?_;(try simp only[zz]);go_simp;refine hK.out _ _ trivial ?_;clear aH hK K;intro aH;refine rdc 10 rfl fun K hK=>?_;(try simp only[zz]);go_simp;refine hK.out _ _ trivial ?_;clear aH hK K;intro aH;(try simp only[zz]);refine dn1 ?_;have hl':(P.app (.cons kd a b t i (body.app (.cons 5 1 0 ⟨false,0,0⟩ ⟨[],[]⟩ .nil .nil .nil)) els R)).len=n:=by rw[hn.o,hLc.o.1,Cms.len_app];simp only[Cms.len];omega
    have hT:=mut4B (c9:=c9) (cF:=cF) (cA:=cA) (cE:=cE) s2.o s3.o s4.o s5.o s6.o s8.o hx8.o same9.o e8 hne8 hk8.o hpl8.o hc8'.o hkb9.o hgb9.o hc.o hpl.o hgb F9.o;replace hT:=ax hT;replace hl':=ax hl';(go_wp2_with fail);refine bodyPost_ret (v:=.slice (some ⟨gb,0,none⟩) n c1) (by simp[results,Tryz.results80,go_sem]) rfl ⟨_,c1,P.app (.cons kd a b t i (body.app (.cons 5 1 0 ⟨false,0,0⟩ ⟨[],[]⟩ .nil .nil .nil)) els R),by rw[hl'.o],hT.o.1,?_,⟨_,by omega,hT.o.2⟩,by rw[hl'.o];exact hcap.o,by rw[hl'.o];exact hL1⟩;have h1:=hLc.o;have h2:=hLS.o;rw[Cms.len_app,Cms.cost_app];simp only[Cms.len,Cms.cost,Cms.len_app,Cms.cost_app];simp;omega
 have b4:((m:Int) == 4)=false:=by simpa using hm4
 clear hm4;(go_wp2_with fail);refine bodyPost_ret (v:=.slice (some ⟨gb,0,none⟩) n c1) (by simp[results,Tryz.results80,go_sem]) rfl ⟨_,c1,L,by rw[←hn.o],?_,?_,⟨_,by omega,F3.o⟩,by rw[←hn.o];exact hcap.o,by rw[←hn.o];exact hL1⟩
 ·rw[eL.o];exact mut_close Y2.o Y3.o Y4.o Y5.o Y8.o Y6.o (fun _ _ _ _=>rfl) hgb hlb hc.o
 ·have:=hLS.o;omega
end
section
open Go Go.RowKit Go.Proofs
attribute [local go_sem ↓] Go.wp_at_zero Go.wp_at_succ
theorem AsnV.C {w:World} {lo hi:Nat} {A1 A2:Option Addr} {c1 c2:Nat} {a:Asn} (h:AsnV w lo hi (.agg #[.slice A1 a.facts.length c1,.slice A2 a.atoms.length c2]) a) (hc:a.atoms.length≤c2):AsnC w lo hi (.agg #[.slice A1 a.facts.length c1,.slice A2 a.atoms.length c2]) a:=by
 obtain ⟨B1,d1,B2,d2,e,f,x⟩:=h;simp only[Value.agg.injEq,Array.mk.injEq,List.cons.injEq,Value.slice.injEq,true_and,and_true] at e;obtain ⟨⟨rfl,rfl⟩,rfl,rfl⟩:=e;exact ⟨_,_,_,_,rfl,f,x,hc⟩
structure TriP (g:Nat) (w u:World) (lo:Nat) (r1:Value) (a:Asn) (r2:Value) (b:Asn) (A:Option Addr) (L:Cms):Prop where
 av:AsnV u lo u.heap.size r1 a
 bv:AsnV u lo u.heap.size r2 b
 cv:CmsV u lo u.heap.size A L
 fr:Fr g w u
theorem TriP.st {g:Nat} {w u:World} {lo:Nat} {r1:Value} {a:Asn} {r2:Value} {b:Asn} {A:Option Addr} {L:Cms} (h:TriP g w u lo r1 a r2 b A L) {n:Nat} (hn:w.heap.size≤n) (hl:n<lo) (x y:Value):TriP g w ((u.setCell ⟨n,0,none⟩ x).setCell ⟨n,1,none⟩ y) lo r1 a r2 b A L:=by
 have hs:((u.setCell ⟨n,0,none⟩ x).setCell ⟨n,1,none⟩ y).heap.size=u.heap.size:=by simp
 refine ⟨?_,?_,?_,(h.fr.set_ (p:=⟨n,0,none⟩) (.inr hn) x).set_ (p:=⟨n,1,none⟩) (.inr hn) y⟩
 ·rw[hs];exact (h.av.setb (p:=⟨n,0,none⟩) (.inl hl) x).setb (p:=⟨n,1,none⟩) (.inl hl) y
 ·rw[hs];exact (h.bv.setb (p:=⟨n,0,none⟩) (.inl hl) x).setb (p:=⟨n,1,none⟩) (.inl hl) y
 ·rw[hs];exact h.cv.keep fun b p _=>(Below.heap_setCell _ ⟨n,1,none⟩ y b (by simp only;omega)).trans (Below.heap_setCell _ ⟨n,0,none⟩ x b (by simp only;omega))
theorem c_DrawVerify (A:Option Addr) (n c:Nat) (w:World) (h:BytesR w A n c) :
  Calls Tryz.prog 23 #[.slice A n c] w fun e w'=>∃ r1 r2 a b A' c' L,e=.returned (.tuple #[r1,.slice A' (Cms.len L) c',r2])∧AsnC w' w.heap.size w'.heap.size r1 a∧AsnV w' w.heap.size w'.heap.size r2 b∧(a.facts.length≤40∧a.atoms.length≤40)∧(b.facts.length≤40∧b.atoms.length≤40)∧CmsV w' w.heap.size w'.heap.size A' L∧(1≤L.len∧L.len≤c')∧L.len+L.cost≤1000∧Below w.heap.size w w':=by
 have HBy:aJ (∀ W,Below w.heap.size w W→BytesR W A n c):=ax fun W hW=>by
  obtain ⟨bs,h1,h2,h3⟩:=h;exact ⟨bs,h1,(h2.bz hW).mono (Nat.le_refl _) hW.size,h3⟩
 clear h;(go_enter Tryz.func23,Tryz.ntmps23);(go_upto_region 1 with fail);refine bx2 (w:=w) (F:=Code.wp _ _ _ _) ?_;rintro W k2 k4 hB hz;have hzw:w.heap.size+2≤W.heap.size:=by omega
 clear hz;(go_wp2_with fail);refine (c_l18Open A n c _ (HBy.o W hB)).mono ?_;rintro e w1 ⟨g,rfl,hg,hR,hq⟩;have hz1:=hq.size;have lg:=hR.lt;have HF:aJ (Fr g w w1):=ax ((Fr.ofBelow hB).go hq);have HR:=ax hR;replace k2:=k2.nz hq;replace k4:=k4.nz hq;clear hR hq hB HBy;(go_wp2_with fail);refine (c_l11Triple g 0 _ HR.o (by omega)).mono ?_;rintro e w2 ⟨r1,r2,a,b,A1,c1,L,q,rfl,ha,hb,⟨ha1,ha2⟩,⟨hb1,hb2⟩,hV,hL1,hLS,hR,hq,hf⟩;have hz2:=hf.size;replace k2:=k2.fr hf (by omega);replace k4:=k4.fr hf (by omega);replace HF:=ax (HF.o.trans hf);clear HR;have HR:=ax hR;obtain ⟨F0,F1,G0,G1,e1,-,-⟩:=id ha;obtain ⟨M0,M1,N0,N1,e2,-,-⟩:=id hb;subst e1 e2;have hbx:=bbox (bbox (Below.refl _ w2) (.cells #[.slice F0 a.facts.length F1,.slice G0 a.atoms.length G1] tAs)) (.cells #[.slice M0 b.facts.length M1,.slice N0 b.atoms.length N1] tAs);obtain ⟨k6,k8⟩:=blk2 w2 tAs tAs #[.slice F0 a.facts.length F1,.slice G0 a.atoms.length G1] #[.slice M0 b.facts.length M1,.slice N0 b.atoms.length N1];have HA:=ax (ha.bz hbx);have HB:=ax (hb.bz hbx);have HV:=ax (hV.bz hbx);replace HR:=ax (HR.o.bz hbx);replace HF:=ax (HF.o.go hbx);replace k2:=k2.nz hbx;replace k4:=k4.nz hbx;have hzb:w2.heap.size+2≤((w2.alloc (.cells #[.slice F0 a.facts.length F1,.slice G0 a.atoms.length G1] tAs)).alloc (.cells #[.slice M0 b.facts.length M1,.slice N0 b.atoms.length N1] tAs)).heap.size:=by simp
 clear ha hb hV hR hf hbx;(go_upto_region 3 with fail);generalize ((w2.alloc (.cells #[.slice F0 a.facts.length F1,.slice G0 a.atoms.length G1] _)).alloc (.cells #[.slice M0 b.facts.length M1,.slice N0 b.atoms.length N1] _))=V at *;obtain ⟨y6,hyy⟩:∃ y,y=w2.heap.size:=⟨_,rfl⟩;rw[←hyy] at k6 k8 hzb hz2 HA HB HV ⊢;clear hyy;refine wp_region_noPanic ?_;refine wp_region_held_drew (S:=(fun w'=>(∀ i,w'.cell? ⟨y6,i,none⟩=#[.slice F0 a.facts.length F1,.slice G0 a.atoms.length G1][i]?)∧(∀ i,w'.cell? ⟨y6+1,i,none⟩=#[.slice M0 b.facts.length M1,.slice N0 b.atoms.length N1][i]?))) (by kernel_rfl) (⟨k6.drew.cell,k8.drew.cell⟩) (fun aH=>?_);have hdr:=(Below.refl V.heap.size V).drew;replace k2:=k2.nz hdr;replace k4:=k4.nz hdr;replace k6:=k6.nz hdr;replace k8:=k8.nz hdr;replace HA:=ax (HA.o.bz hdr);replace HB:=ax (HB.o.bz hdr);replace HV:=ax (HV.o.bz hdr);replace HR:=ax (HR.o.bz hdr);replace HF:=ax (HF.o.go hdr);have hzd:=hdr.size;clear hdr;generalize V.drew=V1 at *;refine tk2 0 rfl aH (h:=tk2 1 rfl aH (h:=tk2 3 rfl aH (h:=?_)));(try simp only[zz]);refine tk2 4 rfl aH (h:=tk2 6 rfl aH (h:=tk2 7 rfl aH (h:=?_)));refine rdc 2 rfl fun K hK=>?_;(try simp only[zz]);(go_simp;refine (c_l3Mutate g q _ a _ HR.o (by omega) HA.o (by omega) (by omega)).mono ?_;rintro e u3 ⟨r3,a3,q3,rfl,o3,hl3,hx3,hR,hq3,hf⟩;have hs3:=hf.size;have HO3:=ax o3.rj;have HC3:=ax o3.C;replace HB:=ax (HB.o.frk0 hf (by omega) (by omega));replace HV:=ax (HV.o.frk0 hf (by omega) (by omega));clear o3;replace k2:=k2.fr hf (by omega);replace k4:=k4.fr hf (by omega);replace k6:=k6.fr hf (by omega);replace k8:=k8.fr hf (by omega);replace HF:=ax (HF.o.trans hf);clear HR;have HR:=ax hR;clear hR hf);refine hK.out _ _ (⟨k6.cell,k8.cell⟩) ?_;clear aH hK K;intro aH;refine rdc 5 rfl fun K hK=>?_;(try simp only[zz]);(go_simp;refine (c_l8Mutate g q3 _ L A1 c1 _ _ HR.o (by omega) HV.o hL1 hLS).mono ?_;rintro e u5 ⟨A5,c5,L5,rfl,hV5,hLS5,⟨q5,hq5,hRd⟩,hcap,hne⟩;have hf:=hRd.2.1;have hR:=hRd.2.2;have hs5:=hf.size;have HV5:=ax hV5;replace HO3:=ax (HO3.o.frk0 hf (by omega) (Nat.le_refl _));replace HB:=ax (HB.o.frk0 hf (by omega) (by omega));clear hV5 hRd HV;replace k2:=k2.fr hf (by omega);replace k4:=k4.fr hf (by omega);replace k6:=k6.fr hf (by omega);replace k8:=k8.fr hf (by omega);replace HF:=ax (HF.o.trans hf);clear HR;have HR:=ax hR;clear hR hf);refine hK.out _ _ (⟨k6.cell,k8.cell⟩) ?_;clear aH hK K;intro aH;refine rdc 8 rfl fun K hK=>?_;(try simp only[zz]);(go_simp;refine (c_l3Mutate g q5 _ b _ HR.o (by omega) HB.o (by omega) (by omega)).mono ?_;rintro e u8 ⟨r8,b8,q8,rfl,o8,hl8,hx8,hR,hq8,hf⟩;have hs8:=hf.size;have HO8:=ax o8.rj;replace HO3:=ax (HO3.o.frk0 hf (by omega) (by omega));replace HV5:=ax (HV5.o.frk0 hf (by omega) (Nat.le_refl _));clear o8;replace k2:=k2.fr hf (by omega);replace k4:=k4.fr hf (by omega);replace k6:=k6.fr hf (by omega);replace k8:=k8.fr hf (by omega);replace HF:=ax (HF.o.trans hf);clear HR;have HR:=ax hR;clear hR hf);refine hK.out _ _ (⟨k6.cell,k8.cell⟩) ?_;clear aH hK K;intro aH;(try simp only[zz]);obtain ⟨P1,p1,P2,p2,e1,-,-,hcp3⟩:=HC3.o;obtain ⟨Q1,s1,Q2,s2,e2,-,-⟩:=id HO8.o;subst e1 e2;have HT:aJ (TriP g w u8 (w.heap.size+1+1) (.agg #[.slice P1 a3.facts.length p1,.slice P2 a3.atoms.length p2]) a3 (.agg #[.slice Q1 b8.facts.length s1,.slice Q2 b8.atoms.length s2]) b8 A5 L5):=ax ⟨HO3.o.mono (by omega) (by omega),HO8.o.mono (by omega) (Nat.le_refl _),HV5.o.mono (by omega) (by omega),HF.o⟩;clear HO3 HO8 HV5 HR HF HA HB;(replace qk2:=k2.z);refine rdc 9 rfl fun K hK=>?_;(try simp only[zz]);go_simp;refine hK.out _ _ (⟨((k6.far (p:=⟨w.heap.size,0,none⟩) (by simp only;omega) (.slice P1 a3.facts.length p1)).far (p:=⟨w.heap.size,1,none⟩) (by simp only;omega) (.slice P2 a3.atoms.length p2)).cell,((k8.far (p:=⟨w.heap.size,0,none⟩) (by simp only;omega) (.slice P1 a3.facts.length p1)).far (p:=⟨w.heap.size,1,none⟩) (by simp only;omega) (.slice P2 a3.atoms.length p2)).cell⟩) ?_;clear aH hK K;intro aH;(try simp only[zz]);have jb:=((k4.far (p:=⟨w.heap.size,0,none⟩) (by simp only;omega) (.slice P1 a3.facts.length p1)).far (p:=⟨w.heap.size,1,none⟩) (by simp only;omega) (.slice P2 a3.atoms.length p2));have ja:=((k2.set_ 0 (.slice P1 a3.facts.length p1)).set_ 1 (.slice P2 a3.atoms.length p2));have j6:=((k6.far (p:=⟨w.heap.size,0,none⟩) (by simp only;omega) (.slice P1 a3.facts.length p1)).far (p:=⟨w.heap.size,1,none⟩) (by simp only;omega) (.slice P2 a3.atoms.length p2));have j8:=((k8.far (p:=⟨w.heap.size,0,none⟩) (by simp only;omega) (.slice P1 a3.facts.length p1)).far (p:=⟨w.heap.size,1,none⟩) (by simp only;omega) (.slice P2 a3.atoms.length p2));have HT2:=ax (HT.o.st (n:=w.heap.size) (by omega) (by omega) (.slice P1 a3.facts.length p1) (.slice P2 a3.atoms.length p2));clear HT k2 k4 k6 k8 qk2;generalize ((u8.setCell ⟨w.heap.size,0,none⟩ (.slice P1 a3.facts.length p1)).setCell ⟨w.heap.size,1,none⟩ (.slice P2 a3.atoms.length p2))=V8 at *;refine tk2 10 rfl aH (h:=?_);(try simp only[zz]);have qjb:=jb.cell;have rjb:=jb.frozen;have ljb:=jb.lt;refine rdc 11 rfl fun K hK=>?_;(try simp only[zz]);go_simp;refine hK.out _ _ (⟨((j6.far (p:=⟨w.heap.size+1,0,none⟩) (by simp only;omega) (.slice Q1 b8.facts.length s1)).far (p:=⟨w.heap.size+1,1,none⟩) (by simp only;omega) (.slice Q2 b8.atoms.length s2)).cell,((j8.far (p:=⟨w.heap.size+1,0,none⟩) (by simp only;omega) (.slice Q1 b8.facts.length s1)).far (p:=⟨w.heap.size+1,1,none⟩) (by simp only;omega) (.slice Q2 b8.atoms.length s2)).cell⟩) ?_;clear aH hK K;intro aH;(try simp only[zz]);refine dn1 ?_;have za:=((ja.far (p:=⟨w.heap.size+1,0,none⟩) (by simp only;omega) (.slice Q1 b8.facts.length s1)).far (p:=⟨w.heap.size+1,1,none⟩) (by simp only;omega) (.slice Q2 b8.atoms.length s2)).cell;have zb:=((jb.set_ 0 (.slice Q1 b8.facts.length s1)).set_ 1 (.slice Q2 b8.atoms.length s2)).cell;have HT3:=HT2.o.st (n:=w.heap.size+1) (by omega) (by omega) (.slice Q1 b8.facts.length s1) (.slice Q2 b8.atoms.length s2);clear qjb rjb ljb j6 j8 aH;(go_wp2_with fail)
 refine bodyPost_ret (v:=.tuple #[.agg #[.slice P1 a3.facts.length p1,.slice P2 a3.atoms.length p2],.slice A5 (Cms.len L5) c5,.agg #[.slice Q1 b8.facts.length s1,.slice Q2 b8.atoms.length s2]]) (by simp[results,Tryz.results23,go_sem,za,zb]) rfl ?_;exact ⟨_,_,a3,b8,A5,c5,L5,rfl,(HT3.av.mono (by omega) (Nat.le_refl _)).C hcp3,HT3.bv.mono (by omega) (Nat.le_refl _),(by omega),(by omega),HT3.cv.mono (by omega) (Nat.le_refl _),⟨hne,hcap⟩,hLS5,HT3.fr.bz (by omega) (Nat.le_refl _)⟩
end
section
open Go Go.RowKit Go.Proofs
def freeK (h:List Int):Option Nat:=(List.range 8).find? fun k:Nat=>!allocB h ((k:Int)+1)
theorem freeK_none {h:List Int} (H:∀ k:Nat,k<8→allocB h ((k:Int)+1)=true):freeK h=none:=by
 unfold freeK;rw[List.find?_eq_none];intro k hk;simp[H k (by simpa using hk)]
theorem find_range {p:Nat→Bool} {n k:Nat} (hk:k<n) (hp:p k=true) (hl:∀ j,j<k→p j=false):(List.range n).find? p=some k:=by
 induction n with
 | zero=>omega
 | succ n ih=>
  rw[List.range_succ,List.find?_append];rcases Nat.lt_or_ge k n with h|h
  ·rw[ih h];rfl
  ·obtain rfl:k=n:=by omega
   have e:(List.range k).find? p=none:=by
    rw[List.find?_eq_none];intro j hj;simp[hl j (by simpa using hj)]
   rw[e];simp[hp]
theorem freeK_some {h:List Int} {k:Nat} (hk:k<8) (ha:allocB h ((k:Int)+1)=false) (H:∀ j:Nat,j<k→allocB h ((j:Int)+1)=true):freeK h=some k:=
 find_range hk (by simp[ha]) fun j hj=>by simp[H j hj]
theorem freeK_lt {h:List Int} {k:Nat} (e:freeK h=some k):k<8:=by
 have:=List.mem_of_find?_eq_some e;simpa using this
def basicF (s:Ste) (k a b:Int):Ste×Int:=
 if k=1 then (⟨s.values.set (a - 1).toNat (tval s.values b),s.heap⟩,0)
 else if k=2 then if allocB s.heap (tval s.values b) then (⟨s.values.set (a - 1).toNat (cont s.heap (tval s.values b)),s.heap⟩,0) else (s,1)
 else if k=3 then if allocB s.heap (tval s.values a) then (⟨s.values,s.heap.set (tval s.values a - 1).toNat (tval s.values b)⟩,0) else (s,1)
 else if k=4 then match freeK s.heap with
  | some n=>(⟨s.values.set (a - 1).toNat ((n:Int)+1),s.heap.set n 0⟩,0)
  | none=>(s,2)
 else if allocB s.heap (tval s.values a) then (⟨s.values,s.heap.set (tval s.values a - 1).toNat (-1)⟩,0) else (s,1)
def loopF (R:Ste→Nat→Ste×Int×Nat) (t:Fct):Nat→Ste→Nat→Ste×Int×Nat
 | 0,s,f=>(s,3,f)
 | n+1,s,f=>if t.holds s.values then
   (if (R s f).2.1≠0 then R s f else if (R s f).2.2<1 then ((R s f).1,3,(R s f).2.2) else loopF R t n (R s f).1 ((R s f).2.2 - 1))
  else (s,0,f)
def cmdR (k a b:Int) (t:Fct) (RB RE:Ste→Nat→Ste×Int×Nat) (s:Ste) (f:Nat):Ste×Int×Nat:=
 if k=6 then (if t.holds s.values then RB s f else RE s f) else if k=7 then loopF RB t (f+1) s f else ((basicF s k a b).1,(basicF s k a b).2,f)
def cmdF (k a b:Int) (t:Fct) (RB RE:Ste→Nat→Ste×Int×Nat) (s:Ste) (f:Nat):Ste×Int×Nat:=
 if f<1 then (s,3,f) else cmdR k a b t RB RE s (f - 1)
def Cms.run:Cms→Ste→Nat→Ste×Int×Nat
 | .nil,s,f=>(s,0,f)
 | .cons k a b t _ body els r,s,f=>
  if (cmdF k a b t body.run els.run s f).2.1≠0 then cmdF k a b t body.run els.run s f else r.run (cmdF k a b t body.run els.run s f).1 (cmdF k a b t body.run els.run s f).2.2
def RunOk (R:Ste→Nat→Ste×Int×Nat):Prop:=∀ s f,s.valid=true→(R s f).1.valid=true∧(R s f).2.2≤f∧0≤(R s f).2.1∧(R s f).2.1≤3
theorem Ste.valid_iff {s:Ste}:s.valid=true↔s.values.length=8∧s.heap.length=8∧(∀ v∈s.values,valB v=true)∧(∀ v∈s.heap,cellB v=true):=by
 simp only[Ste.valid,Bool.and_eq_true,decide_eq_true_eq,List.all_eq_true,and_assoc]
theorem Ste.set_values {s:Ste} (h:s.valid=true) (n:Nat) {u:Int} (hu:valB u=true):(Ste.mk (s.values.set n u) s.heap).valid=true:=by
 rw[Ste.valid_iff] at h ⊢;refine ⟨by simpa using h.1,h.2.1,fun v hv=>?_,h.2.2.2⟩;rcases List.mem_or_eq_of_mem_set hv with hv|rfl
 ·exact h.2.2.1 v hv
 ·exact hu
theorem Ste.set_heap {s:Ste} (h:s.valid=true) (n:Nat) {u:Int} (hu:cellB u=true):(Ste.mk s.values (s.heap.set n u)).valid=true:=by
 rw[Ste.valid_iff] at h ⊢;refine ⟨h.1,by simpa using h.2.1,h.2.2.1,fun v hv=>?_⟩;rcases List.mem_or_eq_of_mem_set hv with hv|rfl
 ·exact h.2.2.2 v hv
 ·exact hu
theorem Ste.all_vals {s:Ste} (h:s.valid=true):s.values.all valB=true:=by
 rw[List.all_eq_true];exact (Ste.valid_iff.1 h).2.2.1
theorem Ste.all_heap {s:Ste} (h:s.valid=true):s.heap.all cellB=true:=by
 rw[List.all_eq_true];exact (Ste.valid_iff.1 h).2.2.2
theorem tval_valB {s:Ste} (h:s.valid=true) (t:Int):valB (tval s.values t)=true:=by
 have:=tval_le (Ste.all_vals h) t;simp[valB,this]
theorem allocB_iff {h:List Int} {a:Int}:allocB h a=true↔0≤cont h a:=by simp[allocB]
theorem allocB_addr {h:List Int} {a:Int} (ha:allocB h a=true):1≤a∧a≤8:=by
 rw[allocB_iff] at ha;unfold cont at ha
 split at ha
 ·rename_i h1;simpa[addrB] using h1
 ·omega
theorem basicF_ok {s:Ste} (h:s.valid=true) (k a b:Int):(basicF s k a b).1.valid=true∧0≤(basicF s k a b).2∧(basicF s k a b).2≤3:=by
 unfold basicF
 split
 ·exact ⟨Ste.set_values h _ (tval_valB h b),by simp,by simp⟩
 split
 ·split
  ·rename_i ha;have h1:=cont_le (Ste.all_heap h) (tval s.values b);have h2:=allocB_iff.1 ha;exact ⟨Ste.set_values h _ (by simp[valB];omega),by simp,by simp⟩
  ·exact ⟨h,by simp,by simp⟩
 split
 ·split
  ·exact ⟨Ste.set_heap h _ (by simp[cellB,tval_valB h]),by simp,by simp⟩
  ·exact ⟨h,by simp,by simp⟩
 split
 ·split
  ·rename_i n e;have hn:=freeK_lt e;exact ⟨Ste.set_heap (s:=⟨_,_⟩) (Ste.set_values h _ (by simp[valB];omega)) n (by decide),by simp,by simp⟩
  ·exact ⟨h,by simp,by simp⟩
 split
 ·exact ⟨Ste.set_heap h _ (by decide),by simp,by simp⟩
 ·exact ⟨h,by simp,by simp⟩
theorem loopF_ok {R:Ste→Nat→Ste×Int×Nat} (hR:RunOk R) (t:Fct):∀ n,RunOk (loopF R t n)
 | 0=>fun s f h=>⟨h,Nat.le_refl _,by simp[loopF],by simp[loopF]⟩
 | n+1=>fun s f h=>by
  have h1:=hR s f h;simp only[loopF]
  split
  ·split
   ·exact h1
   ·split
    ·exact ⟨h1.1,h1.2.1,by simp,by simp⟩
    ·have h2:=loopF_ok hR t n (R s f).1 ((R s f).2.2 - 1) h1.1;exact ⟨h2.1,by omega,h2.2.2⟩
  ·exact ⟨h,Nat.le_refl _,by simp,by simp⟩
theorem cmdR_ok {RB RE:Ste→Nat→Ste×Int×Nat} (hB:RunOk RB) (hE:RunOk RE) (k a b:Int) (t:Fct):RunOk (cmdR k a b t RB RE):=fun s f h=>by
 unfold cmdR
 split
 ·split
  ·exact hB s f h
  ·exact hE s f h
 split
 ·exact loopF_ok hB t _ s f h
 ·have:=basicF_ok h k a b;exact ⟨this.1,Nat.le_refl _,this.2⟩
theorem cmdF_ok {RB RE:Ste→Nat→Ste×Int×Nat} (hB:RunOk RB) (hE:RunOk RE) (k a b:Int) (t:Fct):RunOk (cmdF k a b t RB RE):=fun s f h=>by
 unfold cmdF
 split
 ·exact ⟨h,Nat.le_refl _,by simp,by simp⟩
 ·have:=cmdR_ok hB hE k a b t s (f - 1) h;exact ⟨this.1,by omega,this.2.2⟩
theorem Cms.run_ok:∀ (L:Cms),RunOk L.run
 | .nil=>fun s f h=>⟨h,Nat.le_refl _,by simp[Cms.run],by simp[Cms.run]⟩
 | .cons k a b t i body els r=>fun s f h=>by
  have h1:=cmdF_ok (Cms.run_ok body) (Cms.run_ok els) k a b t s f h;simp only[Cms.run]
  split
  ·exact h1
  ·have h2:=Cms.run_ok r (cmdF k a b t body.run els.run s f).1 (cmdF k a b t body.run els.run s f).2.2 h1.1;exact ⟨h2.1,by omega,h2.2.2⟩
def runsP (s:Ste) (L:Cms) (f:Int):Bool:=s.valid&&(L.prog&&decide (0≤f∧f≤200))
def codeF (s:Ste) (L:Cms) (f:Int):Int:=if runsP s L f then (L.run s f.toNat).2.1 else 4
def afterF (s:Ste) (L:Cms) (f:Int):Ste:=if codeF s L f=0 then (L.run s f.toNat).1 else ⟨[],[]⟩
def seqK (last:Bool) (j:Nat):Nat:=if last then 7 - j else j
def roomP (h:List Int) (e:Int) (n:Nat):Bool:=!allocB h ((n:Int)+1)&&decide ((n:Int)+1≠e)
def roomJ (h:List Int) (e:Int) (last:Bool):Option Nat:=(List.range 8).find? fun j=>roomP h e (seqK last j)
def roomF (h:List Int) (e:Int) (last:Bool):Int:=match roomJ h e last with|some j=>(seqK last j:Int)+1|none=>0
def roomR (p:Nat→Bool) (last:Bool):Nat→Int
 | 0=>0
 | j+1=>if p j=true∧(roomR p last j=0∨last=true) then (j:Int)+1 else roomR p last j
theorem roomR_f (p:Nat→Bool):∀ j,roomR p false j=match (List.range j).find? p with|some k=>(k:Int)+1|none=>0
 | 0=>rfl
 | j+1=>by
  rw[List.range_succ,List.find?_append];unfold roomR;rw[roomR_f p j]
  cases hf:(List.range j).find? p with
  | some k=>
   simp only[Option.some_or];rw[if_neg (by rintro ⟨-,h|h⟩;omega;cases h)]
  | none=>
   simp only[Option.none_or,List.find?_cons,List.find?_nil];cases p j<;>simp
theorem roomR_t (p:Nat→Bool):∀ j,roomR p true j=match (List.range j).find? (fun i=>p (j - 1 - i)) with|some k=>((j - 1 - k:Nat):Int)+1|none=>0
 | 0=>rfl
 | j+1=>by
  rw[List.range_succ_eq_map,List.find?_cons,List.find?_map];unfold roomR;rw[roomR_t p j];cases hp:p j
  ·have e:((fun i=>p (j+1 - 1 - i))∘Nat.succ)=fun i=>p (j - 1 - i):=by
    funext i
    show p (j+1 - 1 - (i+1))=_
    congr 1
    omega
   rw[e];have e2:p (j+1 - 1 - 0)=false:=hp;rw[e2]
   cases (List.range j).find? (fun i=>p (j - 1 - i)) with
   | none=>simp
   | some k=>
    simp;omega
  ·have e2:p (j+1 - 1 - 0)=true:=hp;rw[e2];simp
theorem roomR_eq (h:List Int) (e:Int) (last:Bool):roomR (roomP h e) last 8=roomF h e last:=by
 unfold roomF roomJ;cases last
 ·rw[roomR_f];rfl
 ·rw[roomR_t];rfl
theorem c_spec_l6Room {lo hi:Nat} (v:Value) (s:Ste) (x:Int) (last:Bool) (w:World) (h:StateV w lo hi v s) (h8:s.heap.length=8) :
  Calls Tryz.prog 210 #[v,.int .i64 x,.bool last] w fun e w'=>e=.returned (.int .i64 (roomF s.heap x last))∧Below w.heap.size w w':=by
 have hV:=ax h;obtain ⟨A1,c1,A2,c2,rfl,h1,h2⟩:=h;have H8:=ax h8;clear h8 h1 h2;(go_enter Tryz.func210,Tryz.ntmps210);(go_wp2_with fail)
 go_loopw [7,8] (fun o i wr=>∃ (j:Nat),j≤8∧i=.int .i64 (j+1)∧o=.int .i64 (roomR (roomP s.heap x) last j)∧Blk wr w.heap.size 61 #[.slice A1 s.values.length c1,.slice A2 s.heap.length c2]∧Below w.heap.size w wr) (fun _ i _=>9 - (intOf i).toNat)
 case atStart=>exact ⟨0,by omega,rfl,rfl,blks,bel⟩
 case round=>
  obtain ⟨j,hj,rfl,rfl,hK,hB⟩:=hrel;have q:=hK.cell;have HS:aJ (roomR (roomP s.heap x) last (j+1)=if roomP s.heap x j=true∧(roomR (roomP s.heap x) last j=0∨last=true) then (j:Int)+1 else roomR (roomP s.heap x) last j):=ax rfl;by_cases hn:j<8
  ·have hji:(j:Int)+1≤8:=by omega
   generalize roomR (roomP s.heap x) last j=o at HS ⊢;cases ha:allocB s.heap ((j:Int)+1)
   ·by_cases hx:(j:Int)+1=x
    ·have hxb:((j:Int)+1 != x)=false:=by simpa using hx
     replace hx:=ax hx;(go_wp2_with fail);refine (c_spec_l2Has _ s _ _ (hV.o.bz hB) H8.o).mono ?_;rintro e w1 ⟨rfl,hB1⟩;(go_wp2_with fail)
     go_round
     case rel=>exact ⟨j+1,by omega,by go_num,by rw[HS.o,if_neg (by simp[roomP,ha,hx.o])],hK.nz hB1,bgo hB hB1⟩
     case measure=>simp[intOf];omega
    ·have hxb:((j:Int)+1 != x)=true:=by simpa using hx
     by_cases h0:o=0
     ·have h0b:(o == 0)=true:=by simpa using h0
      subst h0;(go_wp2_with fail);refine (c_spec_l2Has _ s _ _ (hV.o.bz hB) H8.o).mono ?_;rintro e w1 ⟨rfl,hB1⟩;(go_wp2_with fail)
      go_round
      case rel=>exact ⟨j+1,by omega,by go_num,by rw[HS.o,if_pos (by simp[roomP,ha,hx])],hK.nz hB1,bgo hB hB1⟩
      case measure=>simp[intOf];omega
     ·have h0b:(o == 0)=false:=by simpa using h0
      cases last
      ·(go_wp2_with fail);refine (c_spec_l2Has _ s _ _ (hV.o.bz hB) H8.o).mono ?_;rintro e w1 ⟨rfl,hB1⟩;(go_wp2_with fail)
       go_round
       case rel=>exact ⟨j+1,by omega,by go_num,by rw[HS.o,if_neg (by simp[h0])],hK.nz hB1,bgo hB hB1⟩
       case measure=>simp[intOf];omega
      ·(go_wp2_with fail);refine (c_spec_l2Has _ s _ _ (hV.o.bz hB) H8.o).mono ?_;rintro e w1 ⟨rfl,hB1⟩;(go_wp2_with fail)
       go_round
       case rel=>exact ⟨j+1,by omega,by go_num,by rw[HS.o,if_pos (by simp[roomP,ha,hx])],hK.nz hB1,bgo hB hB1⟩
       case measure=>simp[intOf];omega
   ·(go_wp2_with fail);refine (c_spec_l2Has _ s _ _ (hV.o.bz hB) H8.o).mono ?_;rintro e w1 ⟨rfl,hB1⟩;(go_wp2_with fail)
    go_round
    case rel=>exact ⟨j+1,by omega,by go_num,by rw[HS.o,if_neg (by simp[roomP,ha])],hK.nz hB1,bgo hB hB1⟩
    case measure=>simp[intOf];omega
  ·obtain rfl:j=8:=by omega
   clear HS;rw[roomR_eq];(go_wp2_with fail);go_ret;exact ⟨rfl,hB⟩
end
section
open Go
def fillM (M:Int→Int) (x:Atm):Bool:=decide (x.kind=1) || !decide (M x.a=M x.b)
structure Sat (M:Int→Int) (a:Asn):Prop where
 facts:∀ f∈a.facts,decide (M f.a=M f.b)=f.eq
 nil:∀ x∈a.atoms,fillM M x=true→M x.a≠M 0
 apart:((a.atoms.filter (fillM M)).map fun x=>M x.a).Nodup
theorem case_zero {a:Asn} {S:Nat} (hS:S.testBit 0=true) {d:List Int} (h:d∈cases a S):cl d 0=0:=by
 unfold cases at h;have hd:=(List.mem_filter.1 h).1;have:=((gen_ok S 9 zeros d (by omega) rfl hd).2.2 0 (by omega) (by omega)).1 hS;have h2:cl d ((0:Nat):Int)=cl d 0:=rfl;omega
theorem inLast_fillM {x:Atm} {c:List Int} (h:(0≤x.a∧x.a≤8)∧(0≤x.b∧x.b≤8)):inLast c 8 x=fillM (cl c) x:=by
 unfold inLast fillM Atm.fill;rw[decide_eq_true h.1.2,decide_eq_true h.2.2];rfl
theorem case_sat {a:Asn} (hv:a.valid=true) {S:Nat} (hS:S.testBit 0=true) {d:List Int} (h:d∈cases a S):Sat (cl d) a:=by
 have h0:=case_zero hS h;have hok:=Asn.valid_ok hv;unfold cases at h;have hf:=(List.mem_filter.1 h).2;have hp:=hf;rw[full_poss hok.1 hok.2] at hp;unfold poss at hp;unfold full at hf;rw[Bool.and_eq_true] at hf hp;have hA:=(possA_iff _ _ _ _).1 hp.2;refine ⟨fun f hm=>?_,fun x hm hfi=>?_,?_⟩
 ·have:=List.all_eq_true.1 hf.1 f hm;unfold Fct.fits at this;exact eq_of_beq this
 ·rw[h0];exact (hA.1 x hm (by rw[inLast_fillM (hok.2 x hm)];exact hfi)).1
 ·rw[←List.filter_congr fun x hm=>inLast_fillM (hok.2 x hm)];exact hA.2
def leastM (M:Int→Int) (S j:Nat):Nat:=((List.range (j+1)).find? fun k=>S.testBit k&&decide (M (k:Int)=M (j:Int))).getD j
def canon (M:Int→Int) (S:Nat):List Int:=(List.range 9).map fun j=>if S.testBit j then ((leastM M S j:Nat):Int) else -1
theorem least_spec {M:Int→Int} {S j:Nat} (hj:S.testBit j=true):leastM M S j≤j∧S.testBit (leastM M S j)=true∧M (leastM M S j:Nat)=M j∧∀ k,k<leastM M S j→S.testBit k=true→M (k:Nat)≠M j:=by
 unfold leastM
 cases h:(List.range (j+1)).find? fun k=>S.testBit k&&decide (M (k:Int)=M (j:Int)) with
 | none=>
  have:=List.find?_eq_none.1 h j (by simp);simp[hj] at this
 | some k=>
  obtain ⟨h1,h2,h3⟩:=List.find?_range_eq_some.1 h;simp only[Bool.and_eq_true,decide_eq_true_eq] at h1;refine ⟨by have:=List.mem_range.1 h2;simp only[Option.getD_some];omega,h1.1,h1.2,fun i hi hb e=>?_⟩;have:=h3 i hi;simp[hb,e] at this
theorem least_eq {M:Int→Int} {S i j:Nat} (hi:S.testBit i=true) (hj:S.testBit j=true):leastM M S i=leastM M S j↔M (i:Nat)=M (j:Nat):=by
 have h1:=least_spec (M:=M) hi;have h2:=least_spec (M:=M) hj;constructor
 ·intro e;rw[←h1.2.2.1,e,h2.2.2.1]
 ·intro e;rcases Nat.lt_trichotomy (leastM M S i) (leastM M S j) with h|h|h
  ·exact absurd (h1.2.2.1.trans e) (h2.2.2.2 _ h h1.2.1)
  ·exact h
  ·exact absurd (h2.2.2.1.trans e.symm) (h1.2.2.2 _ h h2.2.1)
theorem canon_length (M:Int→Int) (S:Nat):(canon M S).length=9:=by simp[canon]
theorem cl_canon {M:Int→Int} {S j:Nat} (hj:j<9):cl (canon M S) (j:Int)=if S.testBit j then ((leastM M S j:Nat):Int) else -1:=by
 unfold cl canon;rw[Int.toNat_natCast,List.getElem?_map,List.getElem?_range hj];rfl
theorem canon_gen (M:Int→Int) (S:Nat):∀ (n:Nat) (c:List Int),n≤9→c.length=9→(∀ j:Nat,j<9 - n→cl c j=cl (canon M S) j)→canon M S∈gen S n c:=by
 intro n
 induction n with
 | zero=>
  intro c _ hc h;unfold gen;rw[List.mem_singleton];apply List.ext_getElem (by rw[hc];exact canon_length M S);intro j h1 h2;have:=h j (by omega);simpa[cl,List.getElem?_eq_getElem h1,List.getElem?_eq_getElem h2] using this.symm
 | succ n ih=>
  intro c hn hc h;unfold gen;cases e:S.testBit (8 - n)
  ·simp only[Bool.false_eq_true,if_false];refine ih _ (by omega) (by simpa using hc) fun j hj=>?_;rw[cl_set hc (by omega) _ (by omega)]
   split
   ·rename_i hj';have:j=8 - n:=by omega
    subst this;rw[cl_canon (by omega),e];rfl
   ·exact h j (by omega)
  ·rw[if_pos rfl,List.mem_flatMap];have hl:=least_spec (M:=M) e;refine ⟨leastM M S (8 - n),by rw[List.mem_range];omega,?_⟩;rw[if_neg]
   ·refine ih _ (by omega) (by simpa using hc) fun j hj=>?_;rw[cl_set hc (by omega) _ (by omega)]
    split
    ·rename_i hj';have:j=8 - n:=by omega
     subst this;rw[cl_canon (by omega),e];rfl
    ·exact h j (by omega)
   ·rintro ⟨hlt,hne⟩;apply hne;rw[h _ (by omega),cl_canon (by omega),hl.2.1,if_pos rfl]
    congr 1
    exact (least_eq hl.2.1 e).2 hl.2.2.1
/-! tidying -/
theorem swp_val {M:Int→Int} {x t:Int} (h:M x=M t) (s:Int):M (swp x t s)=M s:=by
 unfold swp;split
 ·rename_i e;rw[e,h]
 ·rfl
theorem Sat.subst {M:Int→Int} {a:Asn} (h:Sat M a) {x t:Int} (e:M x=M t):Sat M (substA x t a):=by
 have hfill:∀ z:Atm,fillM M (z.sub x t)=fillM M z:=fun z=>by
  unfold fillM Atm.sub;simp only[swp_val e]
 refine ⟨fun f hf=>?_,fun y hy hfi=>?_,?_⟩
 ·obtain ⟨g,hg,rfl⟩:=List.mem_map.1 hf;simp only[Fct.sub,swp_val e];exact h.facts g hg
 ·obtain ⟨z,hz,rfl⟩:=List.mem_map.1 hy;rw[hfill] at hfi;simp only[Atm.sub,swp_val e];exact h.nil z hz hfi
 ·have h3:=h.apart;simp only[substA,List.filter_map,List.map_map];rw[List.filter_congr (q:=fillM M) fun z _=>by simp[hfill]]
  have e2:((fun y:Atm=>M y.a)∘Atm.sub x t)=fun y:Atm=>M y.a:=by
   funext z;simp only[Function.comp,Atm.sub,swp_val e]
  rw[e2];exact h3
theorem Sat.less {M:Int→Int} {a:Asn} (h:Sat M a) {fs:List Fct} {xs:List Atm} (hf:∀ f∈fs,f∈a.facts) (hx:xs.Sublist a.atoms):Sat M ⟨fs,xs⟩:=
 ⟨fun f hm=>h.facts f (hf f hm),fun x hm=>h.nil x (hx.subset hm),h.apart.sublist ((hx.filter _).map _)⟩
theorem nfold_mem (fs:List Fct):∀ (acc:List Fct) (g:Fct),g∈fs.foldl nfStep acc→g∈acc∨∃ f∈fs,g=nfF f:=by
 induction fs with
 | nil=>intro acc g h;exact Or.inl h
 | cons f fs ih=>
  intro acc g h;rw[List.foldl_cons] at h;rcases ih _ _ h with h|⟨f',hf',e⟩
  ·unfold nfStep at h
   split at h
   ·exact Or.inl h
   ·split at h
    ·exact Or.inl h
    ·rcases List.mem_append.1 h with h|h
     ·exact Or.inl h
     ·exact Or.inr ⟨f,List.mem_cons_self,List.mem_singleton.1 h⟩
  ·exact Or.inr ⟨f',List.mem_cons_of_mem _ hf',e⟩
theorem Sat.normal {M:Int→Int} {a:Asn} (h:Sat M a):Sat M (normalF a):=by
 have hs:=h.less (fs:=[]) (xs:=a.atoms.filter nfA) (fun _ hf=>by cases hf) List.filter_sublist;refine ⟨fun g hg=>?_,hs.nil,hs.apart⟩;rcases nfold_mem _ _ _ hg with h1|⟨f,hf,rfl⟩
 ·cases h1
 ·have:=h.facts f hf;unfold nfF
  split
  ·simp only[];rw[←this,decide_eq_decide];exact eq_comm
  ·exact this
end
section
open Go Go.RowKit Go.Proofs
abbrev tSt:Nat:=61
def blankS:Ste:=⟨List.replicate 8 0,List.replicate 8 (-1)⟩
theorem c_l2Blank (w:World):Calls Tryz.prog 156 #[] w fun e w'=>∃ r,e=.returned r∧StateO w' w.heap.size r blankS∧Below w.heap.size w w':=by
 (go_enter Tryz.func156,Tryz.ntmps156);have kr:Blk ((w.alloc (.cells #[.slice none 0 0,.slice none 0 0] tSt)).alloc (.cells #[.slice none 0 0,.slice none 0 0] tSt)) w.heap.size tSt #[.slice none 0 0,.slice none 0 0]:=blks;have ks:Blk ((w.alloc (.cells #[.slice none 0 0,.slice none 0 0] tSt)).alloc (.cells #[.slice none 0 0,.slice none 0 0] tSt)) (w.heap.size+1) tSt #[.slice none 0 0,.slice none 0 0]:=blks;have hB:Below w.heap.size w ((w.alloc (.cells #[.slice none 0 0,.slice none 0 0] tSt)).alloc (.cells #[.slice none 0 0,.slice none 0 0] tSt)):=bel;(go_wp2_with fail)
 go_loopw [2] (fun i wr=>∃ (k:Nat) (A:Option Addr) (c:Nat),k≤8∧i=.int .i64 k∧IntsO wr w.heap.size (.slice A k c) (List.replicate k 0)∧Blk wr w.heap.size tSt #[.slice none 0 0,.slice none 0 0]∧Blk wr (w.heap.size+1) tSt #[.slice A k c,.slice none 0 0]∧aJ (Below w.heap.size w wr)) (fun i _=>8 - (intOf i).toNat)
 case atStart=>exact ⟨0,none,0,by omega,rfl,IntsO.nil _ _,kr,ks,hB⟩
 case round=>
  clear kr ks hB;obtain ⟨k,A,c,hk,rfl,hO,kr,ks,HB⟩:=hrel;have HO:=ax hO;have hsz:=HB.o.size;have ls:=ks.lt;clear hO;(replace qkr:=kr.cell;replace rkr:=kr.frozen;replace lkr:=kr.lt;replace qks:=ks.z);by_cases hlt:k<8
  ·have hki:(k:Int)<8:=by omega
   (go_wp2_with (at_builtin;refine appIX (ys:=[0]) (base:=w.heap.size) rfl _ _ rfl rfl (HO.o.bz bel) rfl (Blk.newE rfl) (by rfl) (by simp;omega) (by simp;omega) ?_;intro A4 d4 w4 o4 hg4 hB4 hx4;rw[List.length_append,List.length_replicate,List.length_singleton] at o4 ⊢;have ks4:=Blk.zm (hg:=hg4) (ks.alloc _) (HO.o.bz (bbox (Below.refl _ _) _)).1 (by decide);have kr4:=Blk.zm (hg:=hg4) (kr.alloc _) (HO.o.bz (bbox (Below.refl _ _) _)).1 (by decide);(replace qks4:=ks4.z;replace qkr4:=kr4.cell;replace rkr4:=kr4.frozen;replace lkr4:=kr4.lt);clear hg4 hx4));have hBB:Below w.heap.size w w4:=((HB.o.alloc hsz _).trans hB4)
   go_round
   case rel=>exact ⟨k+1,A4,d4,by omega,by go_num,by rw[List.replicate_succ'];exact o4.setT ks4 (by decide) 0 _,kr4.far (by simp) _,by simpa using ks4.set_ 0 (.slice A4 (k+1) d4),hBB.setCell (p:=⟨w.heap.size+1,0,none⟩) (by simp only;omega) _⟩
   case measure=>simp[intOf];omega
  ·obtain rfl:k=8:=by omega
   go_wp2_with fail
   go_loopw [3] (fun i wx=>∃ (k:Nat) (B:Option Addr) (d:Nat),k≤8∧i=.int .i64 k∧IntsO wx w.heap.size (.slice A 8 c) (List.replicate 8 0)∧IntsO wx w.heap.size (.slice B k d) (List.replicate k (-1))∧aJ (∀ g,(Value.slice A 8 c).ownBlock=some g→(Value.slice B k d).ownBlock≠some g)∧Blk wx w.heap.size tSt #[.slice none 0 0,.slice none 0 0]∧Blk wx (w.heap.size+1) tSt #[.slice A 8 c,.slice B k d]∧aJ (Below w.heap.size w wx)) (fun i _=>8 - (intOf i).toNat)
   case atStart=>exact ⟨0,none,0,by omega,rfl,HO.o,IntsO.nil _ _,(fun g _ h=>by simp[Value.ownBlock] at h),kr,ks,HB.o⟩
   case round=>
    clear kr ks HB HO hsz ls qkr rkr lkr qks;obtain ⟨k,B,d,hk,rfl,hO,hP,HD,kr,ks,HB⟩:=hrel;have HO:=ax hO;have HP:=ax hP;have hsz:=HB.o.size;have ls:=ks.lt;clear hO hP;(replace qkr:=kr.cell;replace rkr:=kr.frozen;replace lkr:=kr.lt;replace qks:=ks.z);by_cases hlt:k<8
    ·have hki:(k:Int)<8:=by omega
     (go_wp2_with (at_builtin;refine appIX (ys:=[-1]) (base:=w.heap.size) rfl _ _ rfl rfl (HP.o.bz bel) rfl (Blk.newE rfl) (by rfl) (by simp;omega) (by simp;omega) ?_;intro A4 d4 w4 o4 hg4 hB4 hx4;have HX4:=ax hx4;clear hx4;rw[List.length_append,List.length_replicate,List.length_singleton] at o4 ⊢;have ks4:=Blk.zm (hg:=hg4) (ks.alloc _) (HP.o.bz (bbox (Below.refl _ _) _)).1 (by decide);have kr4:=Blk.zm (hg:=hg4) (kr.alloc _) (HP.o.bz (bbox (Below.refl _ _) _)).1 (by decide);have ov4:=IntsO.grown (HO.o.bz (bbox (Below.refl _ _) _)) hg4 HD.o;(replace qks4:=ks4.z;replace qkr4:=kr4.cell;replace rkr4:=kr4.frozen;replace lkr4:=kr4.lt);clear hg4));have hBB:Below w.heap.size w w4:=((HB.o.alloc hsz _).trans hB4)
     have HD4:aJ (∀ g,(Value.slice A 8 c).ownBlock=some g→(Value.slice A4 (k+1) d4).ownBlock≠some g):=fun g hg e=>by
      have hlt2:=(HO.o.1.lt g hg).2;have hx4:=HX4.o;rw[List.length_append,List.length_replicate,List.length_singleton] at hx4;rcases hx4 with h|h
      ·rw[h] at e;exact HD.o g hg e
      ·rw[h,World.size_alloc] at e;injection e with e;omega
     go_round
     case rel=>exact ⟨.int .i64 ((k:Int)+1),_,_,_,_,_,_,_,_,_,⟨k+1,A4,d4,by omega,by go_num,ov4.setT ks4 (by decide) 1 _,by rw[List.replicate_succ'];exact o4.setT ks4 (by decide) 1 _,HD4.o,kr4.far (by simp) _,by simpa using ks4.set_ 1 (.slice A4 (k+1) d4),hBB.setCell (p:=⟨w.heap.size+1,1,none⟩) (by simp only;omega) _⟩,rfl⟩
     case measure=>simp[intOf];omega
    ·obtain rfl:k=8:=by omega
     have hne:w.heap.size≠w.heap.size+1:=by omega
     (go_wp2_with fail);refine bodyPost_ret (v:=.agg #[.slice A 8 c,.slice B 8 d]) (by simp[results,Tryz.results156,go_sem,qkr]) rfl ⟨_,rfl,⟨_,_,rfl,?_,?_,HD.o⟩,?_⟩
     ·exact (HO.o.setT kr (by decide) 0 _).setT (kr.set_ 0 _) (by decide) 1 _
     ·exact (HP.o.setT kr (by decide) 0 _).setT (kr.set_ 0 _) (by decide) 1 _
     ·exact (HB.o.setCell (p:=⟨w.heap.size,0,none⟩) (Nat.le_refl _) _).setCell (p:=⟨w.heap.size,1,none⟩) (Nat.le_refl _) _
def Dj (v v':Value):Prop:=∀ g,v.ownBlock=some g→v'.ownBlock≠some g
theorem Dj.symm {v v':Value} (h:Dj v v'):Dj v' v:=fun g h1 h2=>h g h2 h1
theorem Dj.new {w:World} {b:Nat} {v:Value} {xs:List Int} (h:IntsO w b v xs) {v':Value} {x:Nat} (he:v'.ownBlock=some x) (hx:w.heap.size≤x):Dj v v':=fun g hg e=>by
 have:=(h.1.lt g hg).2;rw[he] at e;injection e with e;omega
theorem Dj.step {w:World} {b:Nat} {v u v':Value} {xs:List Int} (h:IntsO w b v xs) (hd:Dj v u) (h5:v'.ownBlock=u.ownBlock∨v'.ownBlock=some w.heap.size):Dj v v':=by
 rcases h5 with e|e
 ·intro g hg;rw[e];exact hd g hg
 ·exact Dj.new h e (Nat.le_refl _)
theorem c_l2Copy {lo hi:Nat} (v:Value) (s:Ste) (w:World) (h:StateV w lo hi v s):Calls Tryz.prog 161 #[v] w fun e w'=>∃ r,e=.returned r∧StateO w' w.heap.size r s∧Below w.heap.size w w':=by
 obtain ⟨A1,c1,A2,c2,rfl,h1,h2⟩:=h;have H1:=ax h1;have H2:=ax h2;have hl1:=h1.le;have hl2:=h2.le;clear h1 h2;(go_enter Tryz.func161,Tryz.ntmps161);have k0:Blk ((w.alloc (.cells #[.slice A1 s.values.length c1,.slice A2 s.heap.length c2] tSt)).alloc (.cells #[.slice none 0 0,.slice none 0 0] tSt)) w.heap.size tSt #[.slice A1 s.values.length c1,.slice A2 s.heap.length c2]:=blks;have kr:Blk ((w.alloc (.cells #[.slice A1 s.values.length c1,.slice A2 s.heap.length c2] tSt)).alloc (.cells #[.slice none 0 0,.slice none 0 0] tSt)) (w.heap.size+1) tSt #[.slice none 0 0,.slice none 0 0]:=blks;have hB:Below w.heap.size w ((w.alloc (.cells #[.slice A1 s.values.length c1,.slice A2 s.heap.length c2] tSt)).alloc (.cells #[.slice none 0 0,.slice none 0 0] tSt)):=bel;(go_wp2_with fail);generalize ((w.alloc (.cells #[.slice A1 s.values.length c1,.slice A2 s.heap.length c2] tSt)).alloc (.cells #[.slice none 0 0,.slice none 0 0] tSt))=W at k0 kr hB ⊢;refine wp_region_noPanic ?_;refine wp_region_held_drew (S:=(fun w'=>∀ i,w'.cell? ⟨w.heap.size,i,none⟩=#[.slice A1 s.values.length c1,.slice A2 s.heap.length c2][i]?)) (by kernel_rfl) (k0.drew.cell) (fun aH=>?_);refine tk2 1 rfl aH (h:=tk2 2 rfl aH (h:=tk2 5 rfl aH (h:=?_)));(try simp only[zz]);refine tk2 6 rfl aH (h:=?_);(try simp only[zz])
 refine wpAnyH_par [0,3,4,7] #[true,true,true,true,true,true,true,true,false,false] 4 (by kernel_rfl) aH
  (fun a0 D a w'=>aJ (Below w.heap.size w w'∧Blk w' w.heap.size tSt #[.slice A1 s.values.length c1,.slice A2 s.heap.length c2]∧Blk w' (w.heap.size+1) tSt #[.slice none 0 0,.slice none 0 0])∧
   aJ ((dn D 3=true→dn D 0=true)∧(dn D 7=true→dn D 3=true∧dn D 4=true))∧
   ∃ v3 v6 v7 v10,a=(((a0.put (some 3) v3).put (some 6) v6).put (some 7) v7).put (some 10) v10∧
    aJ (dn D 0=true→dn D 3=false→(∃ x,v3=.slice (some ⟨x,0,none⟩) 0 0)∧IntsO w' w.heap.size v3 [])∧
    aJ (dn D 3=true→(∃ A c,v6=.slice A s.values.length c)∧IntsO w' w.heap.size v6 s.values)∧
    aJ (dn D 4=true→dn D 7=false→(∃ x,v7=.slice (some ⟨x,0,none⟩) 0 0)∧IntsO w' w.heap.size v7 [])∧
    aJ (dn D 7=true→(∃ A c,v10=.slice A s.heap.length c)∧IntsO w' w.heap.size v10 s.heap)∧
    aJ (dn D 0=true→dn D 3=false→dn D 4=true→Dj v3 v7)∧aJ (dn D 3=true→dn D 4=true→dn D 7=false→Dj v6 v7)∧aJ (dn D 7=true→Dj v6 v10)) ?start ?steps ?fin
 case start=>
  refine ⟨⟨hB.drew,k0.drew,kr.drew⟩,⟨fun h=>absurd h (by decide),fun h=>absurd h (by decide)⟩,undef,undef,undef,undef,rfl,fun h=>absurd h (by decide),fun h=>absurd h (by decide),fun h=>absurd h (by decide),fun h=>absurd h (by decide),fun h=>absurd h (by decide),fun h=>absurd h (by decide),fun h=>absurd h (by decide)⟩
 case steps=>
  refine ParSteps.cons rfl (fun D a w' hu hd hI hS K' hK G hG=>?_) (ParSteps.cons rfl (fun D a w' hu hd hI hS K' hK G hG=>?_) (ParSteps.cons rfl (fun D a w' hu hd hI hS K' hK G hG=>?_) (ParSteps.cons rfl (fun D a w' hu hd hI hS K' hK G hG=>?_) ParSteps.nil)))
  ·
   obtain ⟨HW,HC,v3,v6,v7,v10,ha,h0,h3,h4,h7,d1,d2,d3⟩:=hI;rw[ha] at hG;clear ha a;have u0:=dn_un hu;have u3:dn D 3=false:=by cases e:dn D 3;rfl;have:=HC.o.1 e;rw[u0] at this;cases this
   have u7:dn D 7=false:=by cases e:dn D 7;rfl;have:=(HC.o.2 e).1;rw[u3] at this;cases this
   have HU:=ax (And.intro u3 u7);clear u0 u3 u7;refine hG ?_;clear hG hd;(try simp only[zz]);go_simp;have hB2:Below w.heap.size w (w'.alloc (.cells #[] tI)):=HW.o.1.alloc HW.o.1.size _;have hBw:Below w'.heap.size w' (w'.alloc (.cells #[] tI)):=bbox (Below.refl _ _) _;refine hK.out _ _ (HW.o.2.1.alloc _).cell ⟨⟨hB2,HW.o.2.1.alloc _,HW.o.2.2.alloc _⟩,⟨fun h=>?_,fun h=>?_⟩,.slice (some ⟨w'.heap.size,0,none⟩) 0 0,v6,v7,v10,rfl,?_,?_,?_,?_,?_,?_,?_⟩
   ·exact dn_self hu
   ·rw[dn_ne (by decide)] at h;rw[HU.o.2] at h;cases h
   ·exact fun _ _=>⟨⟨_,rfl⟩,(IntsO.empty w' rfl).bq HW.o.1.size⟩
   ·intro h;rw[dn_ne (by decide)] at h;rw[HU.o.1] at h;cases h
   ·intro h h';rw[dn_ne (by decide)] at h h';exact ⟨(h4.o h h').1,(h4.o h h').2.bz hBw⟩
   ·intro h;rw[dn_ne (by decide)] at h;rw[HU.o.2] at h;cases h
   ·intro _ _ h;rw[dn_ne (by decide)] at h;exact (Dj.new (h4.o h HU.o.2).2 rfl (Nat.le_refl _)).symm
   ·intro h;rw[dn_ne (by decide)] at h;rw[HU.o.1] at h;cases h
   ·intro h;rw[dn_ne (by decide)] at h;rw[HU.o.2] at h;cases h
  ·
   obtain ⟨HW,HC,v3,v6,v7,v10,ha,h0,h3,h4,h7,d1,d2,d3⟩:=hI;rw[ha] at hG;clear ha a;have u3:=dn_un hu;have u7:dn D 7=false:=by cases e:dn D 7;rfl;have:=(HC.o.2 e).1;rw[u3] at this;cases this
   have t0:dn D 0=true:=hd ⟨0,.data⟩ (by simp) (by decide);obtain ⟨⟨x,rfl⟩,o⟩:=h0.o t0 u3;have HO:=ax o;have HU:=ax (And.intro u3 (And.intro u7 t0));clear u3 u7 t0 o h0 hd;refine hG ?_;clear hG;(try simp only[zz]);rw[if_pos (by simp[Region.wanted])];refine wp_appIY (base:=w.heap.size) (xs:=[]) (ys:=s.values) _ _ rfl rfl HO.o rfl (H1.o.bz HW.o.1) (by simp;omega) HW.o.1.size ?_;intro A' c' w2 o2 hg2 hB2 h5;simp only[List.nil_append] at o2 h5 ⊢;refine hK.out _ _ (Blk.zm (hg:=hg2) HW.o.2.1 HO.o.1 (by decide)).cell ⟨⟨HW.o.1.trans hB2,Blk.zm (hg:=hg2) HW.o.2.1 HO.o.1 (by decide),Blk.zm (hg:=hg2) HW.o.2.2 HO.o.1 (by decide)⟩,⟨fun h=>?_,fun h=>?_⟩,.slice (some ⟨x,0,none⟩) 0 0,.slice A' s.values.length c',v7,v10,rfl,?_,?_,?_,?_,?_,?_,?_⟩
   ·rw[dn_ne (by decide)];exact HU.o.2.2
   ·rw[dn_ne (by decide)] at h;rw[HU.o.2.1] at h;cases h
   ·intro _ h;rw[dn_self hu] at h;cases h
   ·exact fun _=>⟨⟨A',c',rfl⟩,o2⟩
   ·intro h h';rw[dn_ne (by decide)] at h h';exact ⟨(h4.o h h').1,IntsO.grown (h4.o h h').2 hg2 (d1.o HU.o.2.2 HU.o.1 h).symm⟩
   ·intro h;rw[dn_ne (by decide)] at h;rw[HU.o.2.1] at h;cases h
   ·intro _ h;rw[dn_self hu] at h;cases h
   ·intro _ h h';rw[dn_ne (by decide)] at h h';exact (Dj.step (h4.o h h').2 (d1.o HU.o.2.2 HU.o.1 h).symm h5).symm
   ·intro h;rw[dn_ne (by decide)] at h;rw[HU.o.2.1] at h;cases h
  ·
   obtain ⟨HW,HC,v3,v6,v7,v10,ha,h0,h3,h4,h7,d1,d2,d3⟩:=hI;rw[ha] at hG;clear ha a;have u4:=dn_un hu;have u7:dn D 7=false:=by cases e:dn D 7;rfl;have:=(HC.o.2 e).2;rw[u4] at this;cases this
   have HU:=ax u7;clear u4 u7;refine hG ?_;clear hG hd;(try simp only[zz]);go_simp;have hB2:Below w.heap.size w (w'.alloc (.cells #[] tI)):=HW.o.1.alloc HW.o.1.size _;have hBw:Below w'.heap.size w' (w'.alloc (.cells #[] tI)):=bbox (Below.refl _ _) _;refine hK.out _ _ (HW.o.2.1.alloc _).cell ⟨⟨hB2,HW.o.2.1.alloc _,HW.o.2.2.alloc _⟩,⟨fun h=>?_,fun h=>?_⟩,v3,v6,.slice (some ⟨w'.heap.size,0,none⟩) 0 0,v10,rfl,?_,?_,?_,?_,?_,?_,?_⟩
   ·rw[dn_ne (by decide)] at h ⊢;exact HC.o.1 h
   ·rw[dn_ne (by decide)] at h;rw[HU.o] at h;cases h
   ·intro h h';rw[dn_ne (by decide)] at h h';exact ⟨(h0.o h h').1,(h0.o h h').2.bz hBw⟩
   ·intro h;rw[dn_ne (by decide)] at h;exact ⟨(h3.o h).1,(h3.o h).2.bz hBw⟩
   ·exact fun _ _=>⟨⟨_,rfl⟩,(IntsO.empty w' rfl).bq HW.o.1.size⟩
   ·intro h;rw[dn_ne (by decide)] at h;rw[HU.o] at h;cases h
   ·intro h h' _;rw[dn_ne (by decide)] at h h';exact Dj.new (h0.o h h').2 rfl (Nat.le_refl _)
   ·intro h _ _;rw[dn_ne (by decide)] at h;exact Dj.new (h3.o h).2 rfl (Nat.le_refl _)
   ·intro h;rw[dn_ne (by decide)] at h;rw[HU.o] at h;cases h
  ·
   obtain ⟨HW,HC,v3,v6,v7,v10,ha,h0,h3,h4,h7,d1,d2,d3⟩:=hI;rw[ha] at hG;clear ha a;have u7:=dn_un hu;have t3:dn D 3=true:=hd ⟨3,.chain⟩ (by simp) (by decide);have t4:dn D 4=true:=hd ⟨4,.data⟩ (by simp) (by decide);obtain ⟨⟨x,rfl⟩,o⟩:=h4.o t4 u7;have HO:=ax o;have HU:=ax (And.intro u7 (And.intro t3 t4));clear u7 t3 t4 o h4 hd;refine hG ?_;clear hG;(try simp only[zz]);rw[if_pos (by simp[Region.wanted])];refine wp_appIY (base:=w.heap.size) (xs:=[]) (ys:=s.heap) _ _ rfl rfl HO.o rfl (H2.o.bz HW.o.1) (by simp;omega) HW.o.1.size ?_;intro A' c' w2 o2 hg2 hB2 h5;simp only[List.nil_append] at o2 h5 ⊢;have hD:=d2.o HU.o.2.1 HU.o.2.2 HU.o.1;have hO3:=h3.o HU.o.2.1;refine hK.out _ _ (Blk.zm (hg:=hg2) HW.o.2.1 HO.o.1 (by decide)).cell ⟨⟨HW.o.1.trans hB2,Blk.zm (hg:=hg2) HW.o.2.1 HO.o.1 (by decide),Blk.zm (hg:=hg2) HW.o.2.2 HO.o.1 (by decide)⟩,⟨fun h=>?_,fun h=>?_⟩,v3,v6,.slice (some ⟨x,0,none⟩) 0 0,.slice A' s.heap.length c',rfl,?_,?_,?_,?_,?_,?_,?_⟩
   ·rw[dn_ne (by decide)] at h ⊢;exact HC.o.1 h
   ·rw[dn_ne (by decide),dn_ne (by decide)];exact HU.o.2
   ·intro _ h;rw[dn_ne (by decide)] at h;rw[HU.o.2.1] at h;cases h
   ·exact fun _=>⟨hO3.1,IntsO.grown hO3.2 hg2 hD⟩
   ·intro _ h;rw[dn_self hu] at h;cases h
   ·exact fun _=>⟨⟨A',c',rfl⟩,o2⟩
   ·intro _ h;rw[dn_ne (by decide)] at h;rw[HU.o.2.1] at h;cases h
   ·intro _ _ h;rw[dn_self hu] at h;cases h
   ·exact fun _=>Dj.step hO3.2 hD h5
 case fin=>
  rintro a w4 aH ⟨HW,-,v3,v6,v7,v10,rfl,-,h3,-,h7,-,-,d3⟩;obtain ⟨⟨A,c,rfl⟩,o3⟩:=h3.o (by decide);obtain ⟨⟨B,d,rfl⟩,o7⟩:=h7.o (by decide);have hD:=ax (d3.o (by decide));have HO3:=ax o3;have HO7:=ax o7;have hBf:=HW.o.1;have k4:=HW.o.2.1;have kr4:=HW.o.2.2;clear h3 h7 d3 o3 o7 k0 kr hB;(try simp only[zz]);(replace qk4:=k4.z;replace qkr4:=kr4.cell;replace rkr4:=kr4.frozen;replace lkr4:=kr4.lt);refine tk2 8 rfl aH (h:=?_);refine rdc 9 rfl fun K hK=>?_;(try simp only[zz]);go_simp;refine hK.out _ _ (Blk.cell blks) ?_;clear aH hK K;intro aH;(try simp only[zz]);refine dn1 ?_;(go_wp2_with fail);refine bodyPost_ret (v:=.agg #[.slice A s.values.length c,.slice B s.heap.length d]) (by simp[results,Tryz.results161,go_sem,qkr4]) rfl ⟨_,rfl,⟨_,_,rfl,?_,?_,hD.o⟩,?_⟩
  ·exact (HO3.o.setT kr4 (by decide) 0 _).setT (kr4.set_ 0 _) (by decide) 1 _
  ·exact (HO7.o.setT kr4 (by decide) 0 _).setT (kr4.set_ 0 _) (by decide) 1 _
  ·exact (hBf.setCell (p:=⟨w.heap.size+1,0,none⟩) (by simp only;omega) _).setCell (p:=⟨w.heap.size+1,1,none⟩) (by simp only;omega) _
theorem IntsO.cell_ {w:World} {base:Nat} {A:Option Addr} {n c k:Nat} {fs:List Int} (h:IntsO w base (.slice A n c) fs) (hk:k<fs.length):∃ g cur,n=fs.length∧A=some ⟨g,0,none⟩∧base≤g∧Blk w g tI cur∧cur[k]? = some (.int .i64 fs[k])∧
  (∀ v:Int,IntsO (w.setCell ⟨g,k,none⟩ (.int .i64 v)) base (.slice A n c) (fs.set k v)):=by
 obtain ⟨⟨hl,h2⟩,hL⟩:=h;rcases h2 with ⟨e,hn⟩|⟨g,cap,cur,e,hb,hh,hn,hm,hs,ht⟩
 ·omega
 ·injection e with e1 e2 e3;subst e1 e2 e3;have hK:Blk w g tI cur:=hh
  have hP:Pre cur (encI fs) (fs.length * 1):=by
   intro j hj;rw[←ht,List.getElem?_take,if_pos hj];simp
  refine ⟨g,cur,rfl,rfl,hb,hK,(hP _ (by omega)).trans (by simp[List.getElem?_eq_getElem hk]),?_⟩;intro v;refine ⟨?_,by rw[List.length_set];exact hL⟩;rw[show encI (fs.set k v)=(encI fs).set k (.int .i64 v) from by simp[encI,List.map_set],List.length_set];exact own_of_blk (hK.set_ k (.int .i64 v)) hb (by rw[List.length_set,hl]) (hP.setL k (.int .i64 v) (by rw[hs];exact Nat.mul_le_mul hn (Nat.le_refl _)) (by rw[hl];exact Nat.le_refl _)) hn hm (by simpa using hs)
theorem IntsO.set_ne {w:World} {b:Nat} {v:Value} {xs:List Int} (h:IntsO w b v xs) {q:Addr} (hq:v.ownBlock≠some q.block) (u:Value):IntsO (w.setCell q u) b v xs:=by
 obtain ⟨⟨h1,h2⟩,h3⟩:=h;refine ⟨⟨h1,?_⟩,h3⟩;rcases h2 with h2|⟨k,cap,cur,hv,hk,hh,r⟩
 ·exact Or.inl h2
 ·exact Or.inr ⟨k,cap,cur,hv,hk,(Below.heap_setCell w q u k (fun e=>hq (by rw[hv,←e];rfl))).trans hh,r⟩
theorem c_impl_copyState {lo hi:Nat} (v:Value) (s:Ste) (w:World) (h:StateV w lo hi v s):Calls Tryz.prog 165 #[v] w fun e w'=>∃ r,e=.returned r∧StateO w' w.heap.size r s∧Below w.heap.size w w':=by
 obtain ⟨A1,c1,A2,c2,rfl,h1,h2⟩:=h;have H1:=ax h1;have H2:=ax h2;clear h1 h2;(go_enter Tryz.func165,Tryz.ntmps165);have k0:Blk ((w.alloc (.cells #[.slice A1 s.values.length c1,.slice A2 s.heap.length c2] tSt)).alloc (.cells #[.slice none 0 0,.slice none 0 0] tSt)) w.heap.size tSt #[.slice A1 s.values.length c1,.slice A2 s.heap.length c2]:=blks;have kr:Blk ((w.alloc (.cells #[.slice A1 s.values.length c1,.slice A2 s.heap.length c2] tSt)).alloc (.cells #[.slice none 0 0,.slice none 0 0] tSt)) (w.heap.size+1) tSt #[.slice none 0 0,.slice none 0 0]:=blks;(go_wp2_with fail);refine wp_region_noPanic ?_;refine wp_region_held_drew (S:=(fun w'=>∀ i,w'.cell? ⟨w.heap.size,i,none⟩=#[.slice A1 s.values.length c1,.slice A2 s.heap.length c2][i]?)) (by kernel_rfl) (Blk.cell blks) (fun aH=>?_);refine tk2 0 rfl aH (h:=tk2 1 rfl aH (h:=tk2 3 rfl aH (h:=?_)));(try simp only[zz]);refine tk2 4 rfl aH (h:=?_);refine rdc 2 rfl fun K hK=>?_;(try simp only[zz]);(go_simp;refine (c_impl_copyInts A1 c1 s.values _ (H1.o.bz bel)).mono ?_;rintro e w1 ⟨r1,rfl,o1,hB1⟩;have hB:=bgo (w:=w) bel hB1;replace k0:=Blk.nz (g:=w.heap.size) blks hB1;replace kr:=Blk.nz (g:=w.heap.size+1) blks hB1);refine hK.out _ _ (k0.cell) ?_;clear aH hK K;intro aH;refine rdc 5 rfl fun K hK=>?_;(try simp only[zz]);(go_simp;refine (c_impl_copyInts A2 c2 s.heap _ (H2.o.bz hB)).mono ?_;rintro e w2 ⟨r2,rfl,o2,hB2⟩;have hBB:=bgo hB hB2;have hz1:=hB.size;replace k0:=k0.nz hB2;replace kr:=kr.nz hB2);refine hK.out _ _ (k0.cell) ?_;clear aH hK K;intro aH;(try simp only[zz])
 have HD:=ax (show ∀ g,r1.ownBlock=some g→r2.ownBlock≠some g from fun g hg e=>by
  have:=(o1.1.lt g hg).2;have:=(o2.1.lt g e).1
  omega)
 have HO1:=ax ((o1.bz hB2).bq (base':=w.heap.size) (by (try simp)<;>omega));have HO2:=ax (o2.bq (base':=w.heap.size) hz1);obtain ⟨F,e1,rfl,-⟩:=o1.rj;obtain ⟨G,e2,rfl,-⟩:=o2.rj;clear o1 o2 hB1 hB2;(replace qkr:=kr.cell;replace rkr:=kr.frozen;replace lkr:=kr.lt);refine tk2 6 rfl aH (h:=?_);refine rdc 7 rfl fun K hK=>?_;(try simp only[zz]);go_simp;refine hK.out _ _ (Blk.cell blks) ?_;clear aH hK K;intro aH;(try simp only[zz]);refine dn1 ?_;(go_wp2_with fail);refine bodyPost_ret (v:=.agg #[.slice F s.values.length e1,.slice G s.heap.length e2]) (by simp[results,Tryz.results165,go_sem,qkr]) rfl ⟨_,rfl,⟨_,_,rfl,?_,?_,HD.o⟩,bel⟩
 ·exact (HO1.o.setT kr (by decide) 0 _).setT (kr.set_ 0 _) (by decide) 1 _
 ·exact (HO2.o.setT kr (by decide) 0 _).setT (kr.set_ 0 _) (by decide) 1 _
def holdsF (s:Ste) (a:Asn):Bool:=(partOf s a).isSome&&(((bitsOf ((partOf s a).getD []):Nat):Int) == (bitsOf (usedL s.heap 8):Nat))
theorem partOf_len {s:Ste} {a:Asn} (h:(partOf s a).isSome=true):s.heap.length=8:=by
 unfold partOf at h
 split at h
 ·rename_i hv;simp only[Bool.and_eq_true] at hv;exact (Ste.valid_len hv.1.1).2
 ·cases h
theorem c_impl_Holds {lo hi lo' hi':Nat} (v v':Value) (s:Ste) (a:Asn) (w:World) (h:StateV w lo hi v s) (h':AsnV w lo' hi' v' a) :
  Calls Tryz.prog 32 #[v,v'] w fun e w'=>e=.returned (.bool (holdsF s a))∧Below w.heap.size w w':=by
 have hV:=ax h;have hV':=ax h';obtain ⟨A1,c1,A2,c2,rfl,-,-⟩:=h;obtain ⟨A3,c3,A4,c4,rfl,-,-⟩:=h';have HE:aJ (holdsF s a=((partOf s a).isSome&&(((bitsOf ((partOf s a).getD []):Nat):Int) == (bitsOf (usedL s.heap 8):Nat)))):=rfl;(go_enter Tryz.func32,Tryz.ntmps32);have k0:Blk ((w.alloc (.cells #[.slice A1 s.values.length c1,.slice A2 s.heap.length c2] tSt)).alloc (.cells #[.slice A3 a.facts.length c3,.slice A4 a.atoms.length c4] 37)) w.heap.size tSt #[.slice A1 s.values.length c1,.slice A2 s.heap.length c2]:=blks;(go_wp2_with fail);refine (c_impl_partOf _ _ s a _ (hV.o.bz bel) (hV'.o.bz bel)).mono ?_;rintro e w1 ⟨rfl,hB1⟩;have hB:=bgo (w:=w) bel hB1;replace k0:=k0.nz hB1;(replace qk0:=k0.z);clear hB1;cases hp:(partOf s a).isSome
 ·have E:aJ (holdsF s a=false):=by show _=_;rw[HE.o,hp];rfl
  clear hp;(go_wp2_with fail);go_ret;exact ⟨zjD E.o.symm,hB⟩
 ·have h8:=ax (partOf_len hp);have E:aJ (holdsF s a=(((bitsOf ((partOf s a).getD []):Nat):Int) == (bitsOf (usedL s.heap 8):Nat))):=by show _=_;rw[HE.o,hp];rfl
  clear hp HE;(go_wp2_with fail);refine (c_impl_usedIn _ s _ (hV.o.bz hB) h8.o).mono ?_;rintro e w2 ⟨rfl,hB2⟩;(go_wp2_with fail);go_ret;exact ⟨zjD E.o.symm,bgo hB hB2⟩
theorem usedL_step (h:List Int) (k:Nat):usedL h (k+1)=usedL h k++if allocB h ((k+1:Nat):Int) then [((k+1:Nat):Int)] else []:=by
 unfold usedL;rw[List.range'_1_concat,List.filter_append,List.map_append,Nat.add_comm 1 k]
 congr 1
 rw[List.filter_cons,List.filter_nil];cases allocB h ((k+1:Nat):Int)<;>rfl
theorem usedL_le (h:List Int) (k:Nat):(usedL h k).length≤k:=by
 unfold usedL;rw[List.length_map];exact Nat.le_trans (List.length_filter_le _ _) (by simp)
end
section
open Go Go.RowKit
theorem addAll_spec:∀ (cs seen out:List Int),addAll seen cs=some out→seen.Nodup→out.Nodup:=by
 intro cs
 induction cs with
 | nil=>intro seen out h hn;simp only[addAll,Option.some.injEq] at h;rw[←h];exact hn
 | cons c cs ih=>
  intro seen out h hn;simp only[addAll] at h
  split at h
  ·cases h
  ·rename_i hc;refine ih _ _ h ?_;rw[List.nodup_append];exact ⟨hn,by simp,fun x hx y hy e=>by rw[List.mem_singleton] at hy;exact hc (by rw[←hy,←e];exact hx)⟩
theorem addAll_some:∀ (cs seen:List Int),(seen++cs).Nodup→addAll seen cs=some (seen++cs):=by
 intro cs
 induction cs with
 | nil=>intro seen _;simp[addAll]
 | cons c cs ih=>
  intro seen h;simp only[addAll];rw[if_neg]
  ·rw[ih _ (by simpa using h)];simp
  ·intro hc;rw[List.nodup_append] at h;exact h.2.2 c hc c List.mem_cons_self rfl
theorem partAtoms_spec {s:Ste} (hs:s.valid=true):∀ (xs:List Atm) (seen out:List Int),partAtoms s seen xs=some out→seen.Nodup→out.Nodup∧∃ new,out=seen++new∧∀ c∈new,addrB c=true∧allocB s.heap c=true:=by
 intro xs
 induction xs with
 | nil=>intro seen out h hn;simp only[partAtoms,Option.some.injEq] at h;subst h;exact ⟨hn,[],by simp,by simp⟩
 | cons x xs ih=>
  intro seen out h hn;simp only[partAtoms,Option.bind_eq_some_iff] at h;obtain ⟨cs,h1,seen',h2,h3⟩:=h;have hn':=addAll_spec _ _ _ h2 hn;obtain ⟨g1,new,g2,g3⟩:=ih _ _ h3 hn';have e:=addAll_mem _ _ _ h2;refine ⟨g1,cs++new,by rw[g2,e,List.append_assoc],fun c hc=>?_⟩;rcases List.mem_append.1 hc with h|h
  ·exact (atomCells_addr hs h1).2 c h
  ·exact g3 c h
/-! states -/
theorem partOf_some {s:Ste} {a:Asn} {out:List Int}:partOf s a=some out↔s.valid=true∧a.valid=true∧factsHold a.facts s.values=true∧partAtoms s [] a.atoms=some out:=by
 unfold partOf
 split
 ·rename_i h;simp only[Bool.and_eq_true] at h;exact ⟨fun e=>⟨h.1.1,h.1.2,h.2,e⟩,fun e=>e.2.2.2⟩
 ·rename_i h;constructor
  ·intro e;cases e
  ·rintro ⟨h1,h2,h3,-⟩;exact absurd (by rw[h1,h2,h3];rfl) h
theorem partOf_spec {s:Ste} {a:Asn} {out:List Int} (h:partOf s a=some out):out.Nodup∧∀ c∈out,addrB c=true∧allocB s.heap c=true:=by
 obtain ⟨h1,-,-,h4⟩:=partOf_some.1 h;obtain ⟨g1,new,g2,g3⟩:=partAtoms_spec h1 _ _ _ h4 List.nodup_nil;rw[List.nil_append] at g2;subst g2;exact ⟨g1,g3⟩
theorem holds_iff {s:Ste} {a:Asn}:holdsF s a=true↔∃ out,partOf s a=some out∧∀ c,allocB s.heap c=true→c∈out:=by
 unfold holdsF
 cases h:partOf s a with
 | none=>simp
 | some out=>
  have hsp:=partOf_spec h;have h1:∀ x∈out,0≤x:=fun x hx=>by have:=(hsp.2 x hx).1;simp[addrB] at this;omega
  have h2:∀ x∈usedL s.heap 8,0≤x:=fun x hx=>by have:=(usedL_mem _ _ _).1 hx;omega
  simp only[Option.isSome_some,Option.getD_some,Bool.true_and,beq_iff_eq,Int.natCast_inj,Option.some.injEq,exists_eq_left'];rw[bitsOf_eq h1 h2];constructor
  ·intro h3 c hc;have:=(cont_alloc hc).1;simp[addrB] at this;exact (h3 c).2 ((usedL_mem _ _ _).2 ⟨by omega,by omega,hc⟩)
  ·intro h3 x;rw[usedL_mem];constructor
   ·intro hx;have:=hsp.2 x hx;have h4:=this.1;simp[addrB] at h4;exact ⟨by omega,by omega,this.2⟩
   ·intro hx;exact h3 x hx.2.2
theorem cellsL_mem {S:Nat} {x:Int}:x∈cellsL S 8↔1≤x∧x≤8∧S.testBit x.toNat=true:=by
 unfold cellsL;simp only[List.mem_map,List.mem_filter,List.mem_range'_1];constructor
 ·rintro ⟨n,⟨h1,h2⟩,rfl⟩;exact ⟨by omega,by omega,h2⟩
 ·rintro ⟨h1,h2,h3⟩;obtain ⟨n,rfl⟩:=Int.eq_ofNat_of_zero_le (show 0≤x by omega);exact ⟨n,⟨by omega,h3⟩,rfl⟩
theorem cells_mem {out:List Int} (h:∀ c∈out,addrB c=true) {x:Int}:x∈cellsL (bitsOf out) 8↔x∈out:=by
 have h1:∀ c∈out,1≤c∧c≤8:=fun c hc=>by have:=h c hc;simpa[addrB] using this
 rw[cellsL_mem,testBit_bitsOf fun c hc=>by have:=h1 c hc;omega];constructor
 ·rintro ⟨g1,g2,g3⟩;rw[decide_eq_true_eq,Int.toNat_of_nonneg (by omega)] at g3;exact g3
 ·intro hx;have:=h1 x hx;exact ⟨this.1,this.2,by rw[decide_eq_true_eq,Int.toNat_of_nonneg (by omega)];exact hx⟩
theorem cellsL_nodup (S:Nat):(cellsL S 8).Nodup:=by
 unfold cellsL;unfold List.Nodup;rw[List.pairwise_map];refine List.Pairwise.imp (R:=fun a b=>a<b) (fun h e=>by omega) ?_;exact (List.pairwise_lt_range' (s:=1) (n:=8)).filter _
/-! the laws -/
theorem nodup_le:∀ {l m:List Int},l.Nodup→(∀ x∈l,x∈m)→l.length≤m.length:=by
 intro l
 induction l with
 | nil=>intro m _ _;simp
 | cons x l ih=>
  intro m hn h;rw[List.nodup_cons] at hn;have hx:=h x List.mem_cons_self;have:=ih (m:=m.erase x) hn.2 fun y hy=>(List.mem_erase_of_ne (fun (e:y=x)=>hn.1 (by rw[←e];exact hy))).2 (h y (List.mem_cons_of_mem _ hy));rw[List.length_erase_of_mem hx] at this;have:=List.length_pos_of_mem hx;rw[List.length_cons];omega
theorem nodup_all:∀ {l m:List Int},l.Nodup→(∀ x∈l,x∈m)→m.length≤l.length→∀ y∈m,y∈l:=by
 intro l
 induction l with
 | nil=>intro m _ _ h y hy;have:=List.length_pos_of_mem hy;simp at h;rw[h] at this;simp at this
 | cons x l ih=>
  intro m hn h hl y hy;rw[List.nodup_cons] at hn;have hx:=h x List.mem_cons_self;by_cases e:y=x
  ·rw[e];exact List.mem_cons_self
  ·refine List.mem_cons_of_mem _ (ih (m:=m.erase x) hn.2 (fun z hz=>(List.mem_erase_of_ne (fun (e:z=x)=>hn.1 (by rw[←e];exact hz))).2 (h z (List.mem_cons_of_mem _ hz))) ?_ y ((List.mem_erase_of_ne e).2 hy));rw[List.length_erase_of_mem hx];rw[List.length_cons] at hl;omega
theorem holds_len {s:Ste} {a:Asn} {out:List Int} (h:partOf s a=some out):holdsF s a=decide ((cellsL (bitsOf out) 8).length=(usedL s.heap 8).length):=by
 have hsp:=partOf_spec h;have hm:=fun x=>cells_mem (fun c hc=>(hsp.2 c hc).1) (x:=x)
 have hu:(usedL s.heap 8).Nodup:=by
  unfold usedL;unfold List.Nodup;rw[List.pairwise_map];refine List.Pairwise.imp (R:=fun a b=>a<b) (fun h e=>by omega) ?_;exact (List.pairwise_lt_range' (s:=1) (n:=8)).filter _
 have hsub:∀ x∈cellsL (bitsOf out) 8,x∈usedL s.heap 8:=fun x hx=>by
  have hx':=(hm x).1 hx;have h4:=(hsp.2 x hx').1;simp only[addrB,decide_eq_true_eq] at h4;exact (usedL_mem _ _ _).2 ⟨by omega,by omega,(hsp.2 x hx').2⟩
 rw[Bool.eq_iff_iff,decide_eq_true_eq,holds_iff];constructor
 ·rintro ⟨out',g1,g2⟩;rw[h] at g1;obtain rfl:=Option.some.inj g1;have hsub2:∀ x∈usedL s.heap 8,x∈cellsL (bitsOf out) 8:=fun x hx=>(hm x).2 (g2 x ((usedL_mem _ _ _).1 hx).2.2);exact Nat.le_antisymm (nodup_le (cellsL_nodup _) hsub) (nodup_le hu hsub2)
 ·intro e;refine ⟨out,h,fun c hc=>?_⟩;have h4:=(cont_alloc hc).1;simp only[addrB,decide_eq_true_eq] at h4;exact (hm c).1 (nodup_all (cellsL_nodup _) hsub (by omega) c ((usedL_mem _ _ _).2 ⟨by omega,by omega,hc⟩))
theorem Asn.valid_facts {a:Asn} (h:a.valid=true):factsValid a.facts=true:=by
 simp only[Asn.valid,Bool.and_eq_true] at h;exact h.1
def caseAt (M:Int→Int) (S j:Nat):Int:=if S.testBit j then ((leastM M S j:Nat):Int) else -1
theorem canon_ext {M:Int→Int} {S:Nat} {d:List Int} (hd:d.length=9) (h:∀ j:Nat,j<9→cl d j=caseAt M S j):d=canon M S:=by
 apply List.ext_getElem (by rw[hd,canon_length]);intro j h1 h2;have e:=h j (by omega);rw[show caseAt M S j=cl (canon M S) j from (cl_canon (by omega)).symm] at e;simpa[cl,List.getElem?_eq_getElem h1,List.getElem?_eq_getElem h2] using e
theorem least_is {M:Int→Int} {S k t:Nat} (hk:S.testBit k=true) (ht:S.testBit t=true) (hm:M (k:Int)=M (t:Int)) (hn:∀ j,j<k→S.testBit j=true→M (j:Int)≠M (t:Int)):leastM M S t=k:=by
 have h:=least_spec (M:=M) ht;rcases Nat.lt_trichotomy (leastM M S t) k with h1|h1|h1
 ·exact absurd h.2.2.1 (hn _ h1 h.2.1)
 ·exact h1
 ·exact absurd hm (h.2.2.2 _ h1 hk)
theorem gen_idem (S:Nat):∀ (n:Nat) (c d:List Int),n≤9→c.length=9→d∈gen S n c→∀ j:Nat,9 - n≤j→j<9→S.testBit j=true→cl d (cl d j)=cl d j:=by
 intro n
 induction n with
 | zero=>intro c d _ _ _ j h1 h2;omega
 | succ n ih=>
  intro c d hn hc hd j h1 h2 hj;unfold gen at hd;cases e:S.testBit (8 - n)
  ·rw[e] at hd;simp only[Bool.false_eq_true,if_false] at hd;by_cases ej:j=8 - n
   ·subst ej;rw[e] at hj;cases hj
   ·exact ih _ _ (by omega) (by simpa using hc) hd j (by omega) h2 hj
  ·rw[e,if_pos rfl,List.mem_flatMap] at hd;obtain ⟨k,hk,hd⟩:=hd;rw[List.mem_range] at hk
   split at hd
   ·cases hd
   ·rename_i hne;by_cases ej:j=8 - n
    ·have hA:=(gen_ok S n _ _ (by omega) (by simpa using hc) hd).2.1;have e1:cl d (j:Int)=k:=by rw[hA j (by omega) (by omega),cl_set hc (by omega) _ (by omega),if_pos (by omega)]
     rw[e1,hA k (by omega) (by omega),cl_set hc (by omega) _ (by omega)]
     split
     ·rfl
     ·rename_i hkn;by_cases h3:cl c k=k
      ·exact h3
      ·exact absurd ⟨by omega,h3⟩ hne
    ·exact ih _ _ (by omega) (by simpa using hc) hd j (by omega) h2 hj
theorem least_self {S:Nat} {cs:List Int} (hL:∀ j:Nat,j<9→(S.testBit j=true→(0≤cl cs j∧cl cs j≤j)∧cl cs (cl cs j)=cl cs j)∧(S.testBit j=false→cl cs j = -1)) {j:Nat} (hj:j<9) (hb:S.testBit j=true):((leastM (cl cs) S j:Nat):Int)=cl cs j:=by
 have h:=(hL j hj).1 hb;obtain ⟨k,hk⟩:=Int.eq_ofNat_of_zero_le h.1.1;have hkj:k≤j:=by omega
 have hkb:S.testBit k=true:=by
  cases e:S.testBit k
  ·have h2:=(hL k (by omega)).2 e;have h3:=h.2;rw[hk,h2] at h3;omega
  ·rfl
 rw[least_is (k:=k) hkb hb (by rw[←hk];exact h.2) (fun i hi hib=>by
  have h2:=((hL i (by omega)).1 hib).1.2
  omega),hk]
theorem case_iff {a:Asn} {S:Nat} {cs:List Int}:cs∈cases a S↔cs.length=9∧(∀ j:Nat,j<9→(S.testBit j=true→(0≤cl cs j∧cl cs j≤j)∧cl cs (cl cs j)=cl cs j)∧(S.testBit j=false→cl cs j = -1))∧full a cs=true:=by
 constructor
 ·intro h;have hgen:cs∈gen S 9 zeros:=(List.mem_filter.1 h).1;have hg:=gen_ok _ 9 zeros cs (by omega) rfl hgen;refine ⟨hg.1,fun j hj=>⟨fun hb=>⟨(hg.2.2 j (by omega) hj).1 hb,gen_idem _ 9 zeros cs (by omega) rfl hgen j (by omega) hj hb⟩,fun hb=>(hg.2.2 j (by omega) hj).2 hb⟩,(List.mem_filter.1 h).2⟩
 ·rintro ⟨h1,h2,h3⟩;refine List.mem_filter.2 ⟨?_,h3⟩
  have e:cs=canon (cl cs) S:=canon_ext h1 fun j hj=>by
   unfold caseAt;cases hb:S.testBit j
   ·exact (h2 j hj).2 hb
   ·rw[if_pos rfl,least_self h2 hj hb]
  have:=canon_gen (cl cs) S 9 zeros (by omega) rfl (fun j hj=>absurd hj (by omega))
  rwa [←e] at this
theorem cont_set8 {h : List Int} (hl : h.length = 8) {m n : Int} (hm : addrB m = true) (hn : addrB n = true) (v : Int) : cont (h.set (m - 1).toNat v) n = if n = m then v else cont h n := by
  unfold cont;rw [if_pos hn, if_pos hn];simp only [addrB, decide_eq_true_eq] at hm hn;by_cases e : n = m
  · subst e
    rw [if_pos rfl, List.getElem?_set_self (by omega)]; rfl
  · rw [if_neg e, List.getElem?_set_ne (by omega)]
def heapS (vs : List Int) (h : List Int) (xs : List Atm) : List Int := xs.foldl (fun h x => h.set (tval vs x.a - 1).toNat (tval vs x.b)) h
def blank8 : List Int := List.replicate 8 (-1)
theorem heapS_spec {vs : List Int} : ∀ (xs : List Atm) (h : List Int), h.length = 8 → (xs.map fun x => tval vs x.a).Nodup → (∀ x ∈ xs, addrB (tval vs x.a) = true) →
    (heapS vs h xs).length = 8 ∧ (∀ x ∈ xs, cont (heapS vs h xs) (tval vs x.a) = tval vs x.b) ∧ (∀ n, addrB n = true → (∀ x ∈ xs, tval vs x.a ≠ n) → cont (heapS vs h xs) n = cont h n) := by
  intro xs
  induction xs with
  | nil => intro h hl _ _; exact ⟨hl, fun x hx => (by cases hx), fun _ _ _ => rfl⟩
  | cons x xs ih =>
    intro h hl hn ha;rw [List.map_cons, List.nodup_cons] at hn;have hax := ha x List.mem_cons_self;obtain ⟨g1, g2, g3⟩ := ih (h.set (tval vs x.a - 1).toNat (tval vs x.b)) (by simpa using hl) hn.2 fun y hy => ha y (List.mem_cons_of_mem _ hy);refine ⟨g1, fun y hy => ?_, fun n hn2 hne => ?_⟩
    · rcases List.mem_cons.1 hy with rfl | hy
      · show cont (heapS vs (h.set _ _) xs) _ = _
        rw [g3 _ hax fun z hz e => hn.1 (List.mem_map.2 ⟨z, hz, e⟩), cont_set8 hl hax hax, if_pos rfl]
      · exact g2 y hy
    · show cont (heapS vs (h.set _ _) xs) _ = _
      rw [g3 n hn2 fun z hz => hne z (List.mem_cons_of_mem _ hz), cont_set8 hl hax hn2, if_neg (fun e => hne x List.mem_cons_self e.symm)]
theorem heapS_cells {vs : List Int} (hv : vs.all valB = true) : ∀ (xs : List Atm) (h : List Int), h.all cellB = true → (heapS vs h xs).all cellB = true := by
  intro xs
  induction xs with
  | nil => intro h hh; exact hh
  | cons x xs ih =>
    intro h hh;refine ih _ (List.all_eq_true.2 fun y hy => ?_);rcases List.mem_or_eq_of_mem_set hy with hy | rfl
    · exact List.all_eq_true.1 hh y hy
    · have := tval_le hv x.b
      simp [cellB, valB]; omega
theorem cont_blank {n : Int} : cont blank8 n = -1 := by
  unfold cont
  split
  · rename_i h
    simp only [addrB, decide_eq_true_eq] at h;unfold blank8;rw [List.getElem?_replicate, if_pos (by omega)]; rfl
  · rfl
theorem one_cell {vs : List Int} (hl : vs.length = 8) (hv : vs.all valB = true) {a : Asn} (ha : a.valid = true) (hs : Sat (tval vs) a) :
    holdsF ⟨vs, heapS vs blank8 (a.atoms.filter (fillM (tval vs)))⟩ a = true := by
  have hk : ∀ x ∈ a.atoms, x.kind = 1 ∨ x.kind = 2 := fun x hx => by
    have hv := ha;simp only [Asn.valid, Bool.and_eq_true] at hv;have := List.all_eq_true.1 hv.2.2 x hx;simp [Atm.valid] at this;exact this.1.1
  have hadd : ∀ x ∈ a.atoms.filter (fillM (tval vs)), addrB (tval vs x.a) = true := fun x hx => by
    rw [List.mem_filter] at hx;have h1 := hs.nil x hx.1 hx.2;have h2 := tval_le hv x.a;have e0 : tval vs 0 = 0 := rfl;rw [e0] at h1;simp only [addrB, decide_eq_true_eq];omega
  obtain ⟨g1, g2, g3⟩ := heapS_spec _ blank8 rfl hs.apart hadd;generalize hh : heapS vs blank8 (a.atoms.filter (fillM (tval vs))) = h at g1 g2 g3;have hcell : h.all cellB = true := by rw [← hh]; exact heapS_cells hv _ _ (by decide)
  have hstep : ∀ x ∈ a.atoms, atomCells ⟨vs, h⟩ x = some (if fillM (tval vs) x then [tval vs x.a] else []) := fun x hx => by
    cases hf : fillM (tval vs) x
    · rw [if_neg (by decide)]
      unfold fillM at hf;rw [Bool.or_eq_false_iff] at hf
      have h1 : x.kind = 2 := by rcases hk x hx with h | h; · rw [decide_eq_true h] at hf; cases hf.1
                                 · exact h
      have h2 : tval vs x.a = tval vs x.b := by simpa using hf.2
      unfold atomCells;rw [if_pos h1];show walkF h 8 (tval vs x.a) (tval vs x.b) = some [];rw [h2, walkF_here]
    · rw [if_pos rfl]
      have hm := List.mem_filter.2 ⟨hx, hf⟩;have hc := g2 x hm;unfold atomCells
      split
      · rename_i h1
        show walkF h 8 (tval vs x.a) (tval vs x.b) = _
        have hne : tval vs x.a ≠ tval vs x.b := fun e => by
          unfold fillM at hf;rw [decide_eq_false (by omega : ¬ x.kind = 1), decide_eq_true e] at hf;cases hf
        rw [walkF_on h 7 hne (by unfold allocB; rw [hc]; exact decide_eq_true (tval_le hv x.b).1), hc, walkF_here]; rfl
      · first | exact if_pos hc | rfl
  have hpart : ∀ (xs : List Atm) (seen : List Int), (∀ x ∈ xs, x ∈ a.atoms) → (seen ++ (xs.filter (fillM (tval vs))).map fun x => tval vs x.a).Nodup → partAtoms ⟨vs, h⟩ seen xs = some (seen ++ (xs.filter (fillM (tval vs))).map fun x => tval vs x.a) := by
    intro xs
    induction xs with
    | nil => intro seen _ _; simp [partAtoms]
    | cons x xs ih =>
      intro seen hm hn;unfold partAtoms;rw [hstep x (hm x List.mem_cons_self)];cases hf : fillM (tval vs) x
      · rw [List.filter_cons_of_neg (by simp [hf])] at hn ⊢
        simp only [Bool.false_eq_true, if_false, Option.bind_some, addAll];exact ih seen (fun y hy => hm y (List.mem_cons_of_mem _ hy)) hn
      · rw [List.filter_cons_of_pos hf, List.map_cons] at hn ⊢
        have e : seen ++ tval vs x.a :: ((xs.filter (fillM (tval vs))).map fun x => tval vs x.a) = (seen ++ [tval vs x.a]) ++ ((xs.filter (fillM (tval vs))).map fun x => tval vs x.a) := by simp
        rw [e] at hn ⊢;simp only [if_true, Option.bind_some];rw [addAll_some _ _ (List.nodup_append.1 hn).1, Option.bind_some];exact ih _ (fun y hy => hm y (List.mem_cons_of_mem _ hy)) hn
  have hpo : partOf ⟨vs, h⟩ a = some ((a.atoms.filter (fillM (tval vs))).map fun x => tval vs x.a) := by
    rw [partOf_some];refine ⟨?_, ha, ?_, ?_⟩
    · simp only [Ste.valid, Bool.and_eq_true, decide_eq_true_eq]
      exact ⟨⟨hl, g1⟩, hv, hcell⟩
    · simp only [factsHold, Bool.and_eq_true, decide_eq_true_eq]
      refine ⟨⟨Asn.valid_facts ha, hl⟩, List.all_eq_true.2 fun f hf => ?_⟩;unfold Fct.holds;rw [hs.facts f hf];cases f.eq <;> rfl
    · have := hpart a.atoms [] (fun _ h => h) (by simpa using hs.apart)
      simpa using this
  rw [holds_iff];refine ⟨_, hpo, fun n hn => ?_⟩;have hca := cont_alloc hn;rw [List.mem_map];refine Classical.byContradiction fun hno => ?_;have := g3 n hca.1 fun x hx e => hno ⟨x, hx, e⟩;rw [cont_blank] at this;have h2 : 0 ≤ cont h n := hca.2;omega

theorem Sat.same {M N : Int → Int} {a : Asn} (h : Sat N a) (he : ∀ s t, (s = 0 ∨ s ∈ mz a) → (t = 0 ∨ t ∈ mz a) → (M s = M t ↔ N s = N t)) : Sat M a := by
  have hX : ∀ x ∈ a.atoms, x.a ∈ mz a ∧ x.b ∈ mz a := fun x hx => by
    simp only [mz, List.mem_append, List.mem_flatMap];exact ⟨Or.inr ⟨x, hx, by simp [atomT]⟩, Or.inr ⟨x, hx, by simp [atomT]⟩⟩
  have hF : ∀ x ∈ a.facts, x.a ∈ mz a ∧ x.b ∈ mz a := fun x hx => by
    simp only [mz, List.mem_append, List.mem_flatMap];exact ⟨Or.inl ⟨x, hx, by simp [factT]⟩, Or.inl ⟨x, hx, by simp [factT]⟩⟩
  have hfill : ∀ x ∈ a.atoms, fillM M x = fillM N x := fun x hx => by
    unfold fillM
    congr 2
    rw [decide_eq_decide];exact he _ _ (Or.inr (hX x hx).1) (Or.inr (hX x hx).2)
  refine ⟨fun f hf => ?_, fun x hx hf e => ?_, ?_⟩
  · rw [← h.facts f hf, decide_eq_decide]
    exact he _ _ (Or.inr (hF f hf).1) (Or.inr (hF f hf).2)
  · rw [hfill x hx] at hf
    exact h.nil x hx hf ((he _ _ (Or.inr (hX x hx).1) (Or.inl rfl)).1 e)
  · rw [List.filter_congr hfill]
    have h1 := h.apart;unfold List.Nodup at h1 ⊢;rw [List.pairwise_map] at h1 ⊢;exact h1.imp_of_mem fun {x y} hx hy hne e => hne ((he _ _ (Or.inr (hX x (List.mem_filter.1 hx).1).1) (Or.inr (hX y (List.mem_filter.1 hy).1).1)).1 e)

theorem nodupN_le : ∀ {l m : List Nat}, l.Nodup → (∀ x ∈ l, x ∈ m) → l.length ≤ m.length := by
  intro l
  induction l with
  | nil => intro m _ _; simp
  | cons a l ih =>
    intro m hn hs;rw [List.nodup_cons] at hn;have hm := hs a List.mem_cons_self;have := ih (m := m.erase a) hn.2 fun x hx => (List.mem_erase_of_ne (by rintro rfl; exact hn.1 hx)).2 (hs x (List.mem_cons_of_mem _ hx));rw [List.length_erase_of_mem hm] at this;have hp := List.length_pos_of_mem hm;rw [List.length_cons]; omega
def rk (c : List Int) (k : Int) : Nat := ((List.range' 1 8).filter fun j : Nat => decide ((j : Int) ≤ k) && decide (cl c (j : Int) = j)).length
def mval (c : List Int) (t : Int) : Int := if 0 < cl c t then (rk c (cl c t) : Int) else 0
def modV (c : List Int) : List Int := (List.range' 1 8).map fun t : Nat => mval c (t : Int)
theorem rk_le (c : List Int) (k : Int) : rk c k ≤ 8 := by
  unfold rk;exact Nat.le_trans (List.length_filter_le _ _) (by simp)
theorem mval_le (c : List Int) (t : Int) : 0 ≤ mval c t ∧ mval c t ≤ 8 := by
  unfold mval;have := rk_le c (cl c t)
  split <;> omega
theorem rk_pos {c : List Int} {k : Int} (h1 : 1 ≤ k) (h8 : k ≤ 8) (hk : cl c k = k) : 1 ≤ rk c k := by
  obtain ⟨n, rfl⟩ := Int.eq_ofNat_of_zero_le (by omega : 0 ≤ k);unfold rk;refine List.length_pos_of_mem (a := n) (List.mem_filter.2 ⟨List.mem_range'_1.2 (by omega), ?_⟩);simp [hk]
theorem rk_lt {c : List Int} {k k' : Int} (h1 : 0 ≤ k) (hlt : k < k') (h8 : k' ≤ 8) (hk : cl c k' = k') : rk c k < rk c k' := by
  obtain ⟨n, rfl⟩ := Int.eq_ofNat_of_zero_le h1;obtain ⟨m, rfl⟩ := Int.eq_ofNat_of_zero_le (by omega : 0 ≤ k');unfold rk;have hnd : (List.range' 1 8).Nodup := List.nodup_range'
  have hsub : ∀ j ∈ m :: (List.range' 1 8).filter (fun j : Nat => decide ((j : Int) ≤ n) && decide (cl c (j : Int) = j)), j ∈ (List.range' 1 8).filter (fun j : Nat => decide ((j : Int) ≤ m) && decide (cl c (j : Int) = j)) := fun j hj => by
    rcases List.mem_cons.1 hj with rfl | hj
    · exact List.mem_filter.2 ⟨List.mem_range'_1.2 (by omega), by simp [hk]⟩
    · rw [List.mem_filter] at hj ⊢
      refine ⟨hj.1, ?_⟩;simp only [Bool.and_eq_true, decide_eq_true_eq] at hj ⊢;exact ⟨by omega, hj.2.2⟩
  have hnd2 : (m :: (List.range' 1 8).filter (fun j : Nat => decide ((j : Int) ≤ n) && decide (cl c (j : Int) = j))).Nodup := by
    rw [List.nodup_cons];refine ⟨fun hm => ?_, hnd.filter _⟩;rw [List.mem_filter] at hm;simp only [Bool.and_eq_true, decide_eq_true_eq] at hm;omega
  have := nodupN_le hnd2 hsub;simpa [Nat.lt_iff_add_one_le] using this
theorem tval_mod {c : List Int} (h0 : cl c 0 = 0) {t : Int} (ht : 0 ≤ t) (h8 : t ≤ 8) : tval (modV c) t = mval c t := by
  unfold tval
  split
  · rename_i e; subst e; unfold mval; rw [h0]; rfl
  · rename_i e
    obtain ⟨n, rfl⟩ := Int.eq_ofNat_of_zero_le ht;unfold modV;rw [List.getElem?_map, List.getElem?_range' (by omega)];simp only [Option.map_some, Option.getD_some]
    congr 1
    omega
theorem modV_ok (c : List Int) : (modV c).length = 8 ∧ (modV c).all valB = true := by
  refine ⟨by simp [modV], List.all_eq_true.2 fun x hx => ?_⟩;obtain ⟨t, -, rfl⟩ := List.mem_map.1 hx;have := mval_le c t;simp [valB]; omega
def Cls (S : Nat) (c : List Int) : Prop := ∀ j : Nat, j < 9 → (S.testBit j = true → (0 ≤ cl c j ∧ cl c j ≤ j) ∧ cl c (cl c j) = cl c j) ∧ (S.testBit j = false → cl c j = -1)
theorem Cls.zero {S : Nat} {c : List Int} (h : Cls S c) (h0 : S.testBit 0 = true) : cl c 0 = 0 := by
  have h1 := ((h 0 (by omega)).1 h0).1;have e : ((0 : Nat) : Int) = 0 := rfl;rw [e] at h1;omega
theorem mval_eq {S : Nat} {c : List Int} (h : Cls S c) {i j : Nat} (hi : i < 9) (hj : j < 9) (bi : S.testBit i = true) (bj : S.testBit j = true) : mval c i = mval c j ↔ cl c i = cl c j := by
  have h1 := (h i hi).1 bi;have h2 := (h j hj).1 bj;constructor
  · intro e
    unfold mval at e;by_cases p1 : 0 < cl c i
    · have q1 := rk_pos (c := c) (by omega) (by omega) h1.2
      rw [if_pos p1] at e;by_cases p2 : 0 < cl c j
      · rw [if_pos p2] at e
        rcases Int.lt_trichotomy (cl c i) (cl c j) with h | h | h
        · have := rk_lt (c := c) h1.1.1 h (by omega) h2.2; omega
        · exact h
        · have := rk_lt (c := c) h2.1.1 h (by omega) h1.2; omega
      · rw [if_neg p2] at e; omega
    · rw [if_neg p1] at e
      by_cases p2 : 0 < cl c j
      · have q2 := rk_pos (c := c) (by omega) (by omega) h2.2
        rw [if_pos p2] at e; omega
      · omega
  · intro e; unfold mval; rw [e]
def modS (a : Asn) (c : List Int) : Ste := ⟨modV c, heapS (modV c) blank8 (filledL a.atoms c)⟩
theorem heapS_map (vs : List Int) (f : Atm → Atm) : ∀ (xs : List Atm) (h : List Int), (∀ x ∈ xs, tval vs (f x).a = tval vs x.a ∧ tval vs (f x).b = tval vs x.b) → heapS vs h (xs.map f) = heapS vs h xs := by
  intro xs
  induction xs with
  | nil => intro h _; rfl
  | cons x xs ih =>
    intro h hx;have h1 := hx x List.mem_cons_self;show heapS vs (h.set (tval vs (f x).a - 1).toNat (tval vs (f x).b)) (xs.map f) = heapS vs (h.set (tval vs x.a - 1).toNat (tval vs x.b)) xs;rw [h1.1, h1.2];exact ih _ fun y hy => hx y (List.mem_cons_of_mem _ hy)
theorem model_law {a : Asn} (hv : a.valid = true) {S : Nat} (h0 : S.testBit 0 = true) (hS : ∀ t ∈ mz a, S.testBit t.toNat = true) {c : List Int} (hc : c ∈ cases a S) : Sat (tval (modV c)) a ∧ holdsF (modS a c) a = true ∧ canon (tval (modV c)) S = c := by
  obtain ⟨h9, hC, -⟩ := case_iff.1 hc;have hC : Cls S c := hC;have hz := hC.zero h0;have hok := termsL_ok hv
  have hval : ∀ t : Int, (t = 0 ∨ t ∈ mz a) → ∃ j : Nat, j < 9 ∧ S.testBit j = true ∧ t = j := fun t ht => by
    rcases ht with rfl | ht
    · exact ⟨0, by omega, h0, rfl⟩
    · have h1 := zjA.1 (hok t ht)
      exact ⟨t.toNat, by omega, hS t ht, (Int.toNat_of_nonneg h1.1).symm⟩
  have hM : ∀ i j : Nat, i < 9 → j < 9 → S.testBit i = true → S.testBit j = true → (tval (modV c) i = tval (modV c) j ↔ cl c i = cl c j) := fun i j hi hj bi bj => by
    rw [tval_mod hz (by omega) (by omega), tval_mod hz (by omega) (by omega)];exact mval_eq hC hi hj bi bj
  have hsat : Sat (tval (modV c)) a := (case_sat hv h0 hc).same fun s t hs ht => by
    obtain ⟨i, hi, bi, rfl⟩ := hval s hs;obtain ⟨j, hj, bj, rfl⟩ := hval t ht;exact hM i j hi hj bi bj
  have hcls : ∀ t ∈ mz a, tval (modV c) (cl c t) = tval (modV c) t := fun t ht => by
    obtain ⟨j, hj, bj, rfl⟩ := hval t (Or.inr ht);have h1 := (hC j hj).1 bj;rw [tval_mod hz (by omega) (by omega), tval_mod hz (by omega) (by omega)];unfold mval;rw [h1.2]
  refine ⟨hsat, ?_, ?_⟩
  · have e : heapS (modV c) blank8 (filledL a.atoms c) = heapS (modV c) blank8 (a.atoms.filter (fillM (tval (modV c)))) := by
      unfold filledL
      have hfill : ∀ x ∈ a.atoms, Atm.fill c x = fillM (tval (modV c)) x := fun x hx => by
        have hX : x.a ∈ mz a ∧ x.b ∈ mz a := by
          simp only [mz, List.mem_append, List.mem_flatMap];exact ⟨Or.inr ⟨x, hx, by simp [atomT]⟩, Or.inr ⟨x, hx, by simp [atomT]⟩⟩
        obtain ⟨i, hi, bi, ei⟩ := hval _ (Or.inr hX.1);obtain ⟨j, hj, bj, ej⟩ := hval _ (Or.inr hX.2);unfold Atm.fill fillM
        congr 2
        rw [decide_eq_decide, ei, ej];exact (hM i j hi hj bi bj).symm
      rw [List.filter_congr hfill];refine heapS_map _ _ _ _ fun x hx => ?_;have hx := (List.mem_filter.1 hx).1
      have hX : x.a ∈ mz a ∧ x.b ∈ mz a := by
        simp only [mz, List.mem_append, List.mem_flatMap];exact ⟨Or.inr ⟨x, hx, by simp [atomT]⟩, Or.inr ⟨x, hx, by simp [atomT]⟩⟩
      exact ⟨hcls _ hX.1, hcls _ hX.2⟩
    unfold modS;rw [e];exact one_cell (modV_ok c).1 (modV_ok c).2 hv hsat
  · refine (canon_ext h9 fun j hj => ?_).symm
    unfold caseAt;cases hb : S.testBit j
    · exact (hC j hj).2 hb
    · rw [if_pos rfl]
      have h1 := (hC j hj).1 hb;obtain ⟨k, hk⟩ := Int.eq_ofNat_of_zero_le h1.1.1
      have hkb : S.testBit k = true := by
        cases e : S.testBit k
        · have h2 := (hC k (by omega)).2 e
          have h3 := h1.2;rw [hk, h2] at h3;omega
        · rfl
      rw [least_is (k := k) hkb hb ((hM k j (by omega) hj hkb hb).2 (by rw [← hk]; exact h1.2)) (fun i hi hib e => by
        have h2 := ((hC i (by omega)).1 hib).1.2;have h3 := (hM i j (by omega) hj hib hb).1 e
        omega), hk]
end
section
open Go Go.RowKit Go.Proofs
def growS (vs h:List Int) (last:Bool) (x:Atm):Option (List Int):=
 if roomF h (tval vs x.b) last=0 then none
 else some ((h.set (roomF h (tval vs x.b) last - 1).toNat (tval vs x.b)).set (tval vs x.a - 1).toNat (roomF h (tval vs x.b) last))
def growF (vs:List Int) (mask:Nat) (last:Bool):List Atm→Nat→List Int→Option (List Int)
 | [],_,h=>some h
 | x :: xs,n,h=>
  if x.kind≠2 then growF vs mask last xs n h
  else if mask.testBit n=false then growF vs mask last xs (n+1) h
  else match growS vs h last x with
   | none=>none
   | some h'=>growF vs mask last xs (n+1) h'
theorem roomF_free {h:List Int} {e:Int} {last:Bool} (h0:roomF h e last≠0):addrB (roomF h e last)=true∧allocB h (roomF h e last)=false∧roomF h e last≠e:=by
 unfold roomF at h0 ⊢
 cases hj:roomJ h e last with
 | none=>rw[hj] at h0;exact absurd rfl h0
 | some j=>
  simp only;have h1:=List.find?_some hj;have h2:=List.mem_of_find?_eq_some hj;simp only[List.mem_range] at h2;simp only[roomP,Bool.and_eq_true,Bool.not_eq_true',decide_eq_true_eq] at h1;refine ⟨?_,h1.1,h1.2⟩;have:seqK last j<8:=by unfold seqK;split<;>omega
  simp only[addrB,decide_eq_true_eq];omega
theorem growS_comm {vs h:List Int} {last:Bool} {x:Atm} (ha:allocB h (tval vs x.a)=true) (h0:roomF h (tval vs x.b) last≠0) :
  growS vs h last x=some ((h.set (tval vs x.a - 1).toNat (roomF h (tval vs x.b) last)).set (roomF h (tval vs x.b) last - 1).toNat (tval vs x.b)):=by
 unfold growS;rw[if_neg h0];obtain ⟨h1,h2,-⟩:=roomF_free h0;obtain ⟨h3,-⟩:=cont_alloc ha;simp only[addrB,decide_eq_true_eq] at h1 h3;have hne:tval vs x.a≠roomF h (tval vs x.b) last:=fun e=>by rw[e,h2] at ha;cases ha
 rw[List.set_comm];omega
end
section
open Go Go.RowKit
def modT (c:List Int) (t:Nat):List Int:=(List.range' 1 8).map fun j:Nat=>if j<t then mval c (j:Int) else 0
theorem modT_len (c:List Int) (t:Nat):(modT c t).length=8:=by simp[modT]
theorem modT_start (c:List Int):modT c 1=List.replicate 8 0:=by
 unfold modT;rw[List.map_congr_left (g:=fun _=>0) (fun j hj=>by rw[List.mem_range'_1] at hj;rw[if_neg (by omega)])];rfl
theorem modT_end (c:List Int):modT c 9=modV c:=by
 unfold modT modV;exact List.map_congr_left fun j hj=>by rw[List.mem_range'_1] at hj;rw[if_pos (by omega)]
theorem modT_get (c:List Int) {t k:Nat} (hk:k<8):(modT c t)[k]? = some (if k+1<t then mval c ((k+1:Nat):Int) else 0):=by
 unfold modT;rw[List.getElem?_map,List.getElem?_range' (by omega)];simp only[Option.map_some,Nat.one_mul];rw[Nat.add_comm 1 k]
theorem modT_cl (c:List Int) {t k:Nat} (hk:k<8):cl (modT c t) k=if k+1<t then mval c ((k+1:Nat):Int) else 0:=by
 unfold cl;rw[Int.toNat_natCast,modT_get c hk];rfl
theorem modT_set (c:List Int) {t:Nat} (h1:1≤t) (h8:t≤8):(modT c t).set (t - 1) (mval c (t:Int))=modT c (t+1):=by
 apply List.ext_getElem?;intro j;by_cases hj:j<8
 ·rw[modT_get c hj];by_cases e:j=t - 1
  ·subst e;rw[List.getElem?_set_self (by rw[modT_len];omega),if_pos (by omega),show t - 1+1=t from by omega]
  ·rw[List.getElem?_set_ne (by omega),modT_get c hj];by_cases h:j+1<t
   ·rw[if_pos h,if_pos (by omega)]
   ·rw[if_neg h,if_neg (by omega)]
 ·rw[List.getElem?_eq_none (by rw[List.length_set,modT_len];omega),List.getElem?_eq_none (by rw[modT_len];omega)]
theorem modT_keep (c:List Int) {t:Nat} (h1:1≤t) (h8:t≤8) (hz:mval c (t:Int)=0):modT c (t+1)=modT c t:=by
 apply List.ext_getElem?;intro j;by_cases hj:j<8
 ·rw[modT_get c hj,modT_get c hj];by_cases e:j+1=t
  ·rw[if_pos (by omega),if_neg (by omega),e,hz]
  ·by_cases h:j+1<t
   ·rw[if_pos h,if_pos (by omega)]
   ·rw[if_neg h,if_neg (by omega)]
 ·rw[List.getElem?_eq_none (by rw[modT_len];omega),List.getElem?_eq_none (by rw[modT_len];omega)]
theorem rk_zero (c:List Int):rk c 0=0:=by
 unfold rk;rw[List.length_eq_zero_iff,List.filter_eq_nil_iff];intro j hj;rw[List.mem_range'_1] at hj;rw[decide_eq_false (by omega:¬(j:Int)≤0),Bool.false_and];decide
theorem rk_step (c:List Int) {t:Nat} (h1:1≤t) (h8:t≤8):rk c (t:Int)=rk c ((t:Int) - 1)+(if cl c (t:Int)=t then 1 else 0):=by
 unfold rk;rw[←List.countP_eq_length_filter,←List.countP_eq_length_filter]
 have e:(List.range' 1 8)=List.range' 1 (t - 1)++t :: List.range' (t+1) (8 - t):=by
  have h2:List.range' 1 8=List.range' 1 (t - 1)++List.range' t (8 - t+1):=by
   have:=List.range'_append_1 (s:=1) (m:=t - 1) (n:=8 - t+1);rw[show 1+(t - 1)=t from by omega,show t - 1+(8 - t+1)=8 from by omega] at this;exact this.symm
  rw[h2,List.range'_succ]
 rw[e,List.countP_append,List.countP_append,List.countP_cons,List.countP_cons];have f1:∀ (p q:Nat→Bool),(∀ j∈List.range' 1 (t - 1),p j=q j)→(List.range' 1 (t - 1)).countP p=(List.range' 1 (t - 1)).countP q:=fun p q h=>List.countP_congr fun j hj=>by rw[h j hj]
 have f2:∀ (p:Nat→Bool),(∀ j∈List.range' (t+1) (8 - t),p j=false)→(List.range' (t+1) (8 - t)).countP p=0:=fun p h=>List.countP_eq_zero.2 fun j hj=>by rw[h j hj];decide
 rw[f1 (fun j:Nat=>decide ((j:Int)≤(t:Int))&&decide (cl c (j:Int)=j)) (fun j:Nat=>decide ((j:Int)≤(t:Int) - 1)&&decide (cl c (j:Int)=j)) (fun j hj=>by
  rw[List.mem_range'_1] at hj
  rw[decide_eq_true (by omega:(j:Int)≤(t:Int)),decide_eq_true (by omega:(j:Int)≤(t:Int) - 1)])]
 rw[f2 _ (fun j hj=>by rw[List.mem_range'_1] at hj;rw[decide_eq_false (by omega:¬(j:Int)≤(t:Int))];rfl)];rw[f2 _ (fun j hj=>by rw[List.mem_range'_1] at hj;rw[decide_eq_false (by omega:¬(j:Int)≤(t:Int) - 1)];rfl)];rw[decide_eq_true (by omega:(t:Int)≤(t:Int)),decide_eq_false (by omega:¬(t:Int)≤(t:Int) - 1)];by_cases h:cl c (t:Int)=t
 ·rw[decide_eq_true h,if_pos h];simp
 ·rw[decide_eq_false h,if_neg h];simp
theorem mval_root {c:List Int} {t:Nat} (h1:1≤t) (h8:t≤8) (h:cl c (t:Int)=t):mval c (t:Int)=(rk c ((t:Int) - 1)+1:Nat)∧rk c (t:Int)=rk c ((t:Int) - 1)+1:=by
 have e:=rk_step c h1 h8;rw[if_pos h] at e;unfold mval;rw[h,if_pos (by omega),e];exact ⟨rfl,rfl⟩
theorem rk_same {c:List Int} {t:Nat} (h1:1≤t) (h8:t≤8) (h:cl c (t:Int)≠t):rk c (t:Int)=rk c ((t:Int) - 1):=by
 rw[rk_step c h1 h8,if_neg h];rfl
theorem mval_old {c:List Int} {t r:Nat} (hr:cl c (t:Int)=r) (hi:cl c (r:Int)=r):mval c (r:Int)=mval c (t:Int):=by
 unfold mval;rw[hr,hi]
theorem mval_none {c:List Int} {t:Nat} (h:cl c (t:Int)≤0):mval c (t:Int)=0:=by unfold mval;rw[if_neg (by omega)]
structure Csd (c:List Int):Prop where
 len:c.length=9
 zero:cl c 0=0
 le:∀ j:Nat,j<9→-1≤cl c j∧cl c j≤j
 idem:∀ j:Nat,j<9→0≤cl c j→cl c (cl c j)=cl c j
theorem csd_of {a:Asn} {S:Nat} (h0:S.testBit 0=true) {c:List Int} (hc:c∈cases a S):Csd c:=by
 obtain ⟨h9,hC,-⟩:=case_iff.1 hc;have hz:=(show Cls S c from hC).zero h0;refine ⟨h9,hz,fun j hj=>?_,fun j hj h=>?_⟩
 ·cases hb:S.testBit j
  ·have:=(hC j hj).2 hb;omega
  ·have:=((hC j hj).1 hb).1;omega
 ·cases hb:S.testBit j
  ·have:=(hC j hj).2 hb;omega
  ·exact ((hC j hj).1 hb).2
theorem filled_ok {a:Asn} (hv:a.valid=true) {S:Nat} (h0:S.testBit 0=true) (hS:∀ t∈mz a,S.testBit t.toNat=true) {c:List Int} (hc:c∈cases a S) :
  ∀ x∈filledL a.atoms c,(0≤x.a∧x.a≤8)∧(0≤x.b∧x.b≤8)∧(1≤tval (modV c) x.a∧tval (modV c) x.a≤8)∧0≤tval (modV c) x.b∧tval (modV c) x.b≤8:=by
 intro x hx;obtain ⟨h9,hC,hfull⟩:=case_iff.1 hc;have hC:Cls S c:=hC;have hz:=hC.zero h0;have hM:=model_law hv h0 hS hc;unfold filledL at hx;obtain ⟨y,hy,rfl⟩:=List.mem_map.1 hx;rw[List.mem_filter] at hy
 have hX:y.a∈mz a∧y.b∈mz a:=by
  simp only[mz,List.mem_append,List.mem_flatMap];exact ⟨Or.inr ⟨y,hy.1,by simp[atomT]⟩,Or.inr ⟨y,hy.1,by simp[atomT]⟩⟩
 have hcl:∀ t∈mz a,(0≤cl c t∧cl c t≤8)∧cl c (cl c t)=cl c t:=fun t ht=>by
  have h1:=zjA.1 (termsL_ok hv t ht);have h2:=(hC t.toNat (by omega)).1 (hS t ht);rw[Int.toNat_of_nonneg h1.1] at h2;exact ⟨by omega,h2.2⟩
 have ha:=hcl _ hX.1;have hb:=hcl _ hX.2;have hva:=tval_le (modV_ok c).2 (cl c y.a);have hvb:=tval_le (modV_ok c).2 (cl c y.b);refine ⟨ha.1,hb.1,⟨?_,hva.2⟩,hvb⟩;show 1≤tval (modV c) (cl c y.a);rw[tval_mod hz ha.1.1 ha.1.2]
 have hne:cl c y.a≠0:=fun e=>by
  have hs:=case_sat hv h0 hc;refine hs.nil y hy.1 ?_ (by rw[e,hz]);exact hy.2
 unfold mval;rw[ha.2,if_pos (by omega)];have:=rk_pos (c:=c) (k:=cl c y.a) (by omega) ha.1.2 ha.2;omega
theorem heapS_take (vs h:List Int) (xs:List Atm) {k:Nat} (hk:k<xs.length):heapS vs h (xs.take (k+1))=(heapS vs h (xs.take k)).set (tval vs xs[k].a - 1).toNat (tval vs xs[k].b):=by
 unfold heapS;rw[List.take_succ_eq_append_getElem hk,List.foldl_append];rfl
theorem heapS_len (vs:List Int):∀ (xs:List Atm) (h:List Int),(heapS vs h xs).length=h.length:=by
 intro xs
 induction xs with
 | nil=>intro h;rfl
 | cons x xs ih=>intro h;show (heapS vs (h.set _ _) xs).length=_;rw[ih,List.length_set]
end
section
open Go Go.RowKit Go.Proofs
def GrowI (vs h:List Int) (ys:List Atm):Prop:=h.length=8∧∀ x∈ys,allocB h (tval vs x.a)=true
theorem alloc_set {h:List Int} (hl:h.length=8) {m n v:Int} (hm:addrB m=true) (hv:0≤v) (ha:allocB h n=true):allocB (h.set (m - 1).toNat v) n=true:=by
 obtain ⟨hn,h0⟩:=cont_alloc ha;unfold allocB;rw[cont_set8 hl hm hn,decide_eq_true_iff]
 split<;>omega
theorem roomF_le {h:List Int} {e:Int} {last:Bool} (h0:roomF h e last≠0):1≤roomF h e last∧roomF h e last≤8:=by
 have:=(roomF_free h0).1;simpa[addrB] using this
theorem GrowI.step {vs h:List Int} {last:Bool} {x:Atm} {ys:List Atm} (hv:vs.all valB=true) (hi:GrowI vs h (x :: ys)) (h0:roomF h (tval vs x.b) last≠0) :
  GrowI vs ((h.set (tval vs x.a - 1).toNat (roomF h (tval vs x.b) last)).set (roomF h (tval vs x.b) last - 1).toNat (tval vs x.b)) ys:=by
 obtain ⟨hl,ha⟩:=hi;have hx:=(cont_alloc (ha x List.mem_cons_self)).1;have h1:=roomF_free h0;have h2:=roomF_le h0;refine ⟨by simp[hl],fun y hy=>?_⟩;exact alloc_set (by simp[hl]) h1.1 (tval_le hv x.b).1 (alloc_set hl hx (by omega) (ha y (List.mem_cons_of_mem _ hy)))
theorem GrowI.tail {vs h:List Int} {x:Atm} {ys:List Atm} (hi:GrowI vs h (x :: ys)):GrowI vs h ys:=⟨hi.1,fun y hy=>hi.2 y (List.mem_cons_of_mem _ hy)⟩
theorem growF_skip {vs h:List Int} {mask:Nat} {last:Bool} {x:Atm} {ys:List Atm} {n:Nat} (hk:x.kind≠2):growF vs mask last (x :: ys) n h=growF vs mask last ys n h:=by rw[growF,if_pos hk]
theorem growF_off {vs h:List Int} {mask:Nat} {last:Bool} {x:Atm} {ys:List Atm} {n:Nat} (hk:x.kind=2) (hb:mask.testBit n=false):growF vs mask last (x :: ys) n h=growF vs mask last ys (n+1) h:=by rw[growF,if_neg (by simp[hk]),if_pos hb]
theorem growF_none {vs h:List Int} {mask:Nat} {last:Bool} {x:Atm} {ys:List Atm} {n:Nat} (hk:x.kind=2) (hb:mask.testBit n=true) (h0:roomF h (tval vs x.b) last=0):growF vs mask last (x :: ys) n h=none:=by
 rw[growF,if_neg (by simp[hk]),if_neg (by simp[hb]),growS,if_pos h0]
theorem growF_some {vs h:List Int} {mask:Nat} {last:Bool} {x:Atm} {ys:List Atm} {n:Nat} (hk:x.kind=2) (hb:mask.testBit n=true) (h0:roomF h (tval vs x.b) last≠0) :
  growF vs mask last (x :: ys) n h=growF vs mask last ys (n+1) ((h.set (roomF h (tval vs x.b) last - 1).toNat (tval vs x.b)).set (tval vs x.a - 1).toNat (roomF h (tval vs x.b) last)):=by
 rw[growF,if_neg (by simp[hk]),if_neg (by simp[hb]),growS,if_neg h0]
theorem grow_comm {vs h:List Int} {last:Bool} {x:Atm} {ys:List Atm} (hi:GrowI vs h (x :: ys)) (h0:roomF h (tval vs x.b) last≠0) :
  (h.set (roomF h (tval vs x.b) last - 1).toNat (tval vs x.b)).set (tval vs x.a - 1).toNat (roomF h (tval vs x.b) last)=(h.set (tval vs x.a - 1).toNat (roomF h (tval vs x.b) last)).set (roomF h (tval vs x.b) last - 1).toNat (tval vs x.b):=by
 have h1:=growS_comm (last:=last) (hi.2 x List.mem_cons_self) h0;rw[growS,if_neg h0] at h1;exact Option.some.inj h1
def varF (a:Asn) (c:List Int) (mask:Nat) (last:Bool):Option Ste:=(growF (modV c) mask last (filledL a.atoms c) 0 (modS a c).heap).map fun h=>⟨modV c,h⟩
theorem grow_start {a:Asn} (hv:a.valid=true) {S:Nat} (h0:S.testBit 0=true) (hS:∀ t∈mz a,S.testBit t.toNat=true) {c:List Int} (hc:c∈cases a S):GrowI (modV c) (modS a c).heap (filledL a.atoms c):=by
 have hf:=filled_ok hv h0 hS hc
 have ha:∀ x∈filledL a.atoms c,addrB (tval (modV c) x.a)=true:=fun x hx=>by
  have:=(hf x hx).2.2.1;simp only[addrB,decide_eq_true_eq];omega
 refine ⟨by show (heapS _ _ _).length=8;rw[heapS_len];rfl,fun x hx=>?_⟩
 have key:∀ (xs:List Atm) (h:List Int),h.length=8→(∀ x∈xs,addrB (tval (modV c) x.a)=true)→(∀ x∈xs,0≤tval (modV c) x.b)→∀ n,(allocB h n=true∨∃ x∈xs,tval (modV c) x.a=n)→allocB (heapS (modV c) h xs) n=true:=by
  intro xs
  induction xs with
  | nil=>intro h _ _ _ n hn;rcases hn with h1|⟨x,hx,-⟩;exact h1;cases hx
  | cons y ys ih=>
   intro h hl hA hB n hn;refine ih (h.set (tval (modV c) y.a - 1).toNat (tval (modV c) y.b)) (by simp[hl]) (fun x hx=>hA x (List.mem_cons_of_mem _ hx)) (fun x hx=>hB x (List.mem_cons_of_mem _ hx)) n ?_;rcases hn with h1|⟨x,hx,e⟩
   ·exact Or.inl (alloc_set hl (hA y List.mem_cons_self) (hB y List.mem_cons_self) h1)
   ·rcases List.mem_cons.1 hx with rfl|hx
    ·left
     subst e;unfold allocB;rw[cont_set8 hl (hA x List.mem_cons_self) (hA x List.mem_cons_self),if_pos rfl,decide_eq_true_iff];exact hB x List.mem_cons_self
    ·exact Or.inr ⟨x,hx,e⟩
 exact key _ _ rfl ha (fun x hx=>(hf x hx).2.2.2.1) _ (Or.inr ⟨x,hx,rfl⟩)
theorem mask_and (m n:Nat) (hm:m<4):bits .and .i64 ((m:Int) / 2 ^ min n 64) 1=if m.testBit n then 1 else 0:=by
 have h1:(m:Int) / 2 ^ min n 64=((m / 2 ^ min n 64:Nat):Int):=by push_cast;rfl
 have hq:m / 2 ^ min n 64<4:=Nat.lt_of_le_of_lt (Nat.div_le_self _ _) hm
 have hb:m.testBit n=decide (m / 2 ^ min n 64 % 2=1):=by
  by_cases hn:n≤64
  ·rw[Nat.min_eq_left hn,Nat.testBit_eq_decide_div_mod_eq]
  ·rw[Nat.testBit_lt_two_pow (Nat.lt_of_lt_of_le hm (by have:2 ^ 2≤2 ^ n:=Nat.pow_le_pow_right (by omega) (by omega);omega)),Nat.min_eq_right (by omega)];have:m / 2 ^ 64=0:=Nat.div_eq_of_lt (by omega);rw[this];rfl
 rw[h1,hb];generalize m / 2 ^ min n 64=q at hq;have:q=0∨q=1∨q=2∨q=3:=by omega
 rcases this with rfl|rfl|rfl|rfl<;>decide
def StateI (w:World) (lo hi:Nat) (v:Value) (s:Ste):Prop:=∃ fv av,v=.agg #[fv,av]∧IntsI w lo hi fv s.values∧IntsI w lo hi av s.heap∧∀ g,fv.ownBlock=some g→av.ownBlock≠some g
section
variable {w w':World} {lo hi lo' hi' a b:Nat} {v:Value} {s:Ste}
theorem StateI.bz (h:StateI w lo hi v s) (hb:Below w.heap.size w w'):StateI w' lo hi v s:=by
 obtain ⟨fv,av,e,h1,h2,h3⟩:=h;exact ⟨fv,av,e,h1.bz hb,h2.bz hb,h3⟩
theorem StateI.mk (h:StateI w lo hi v s) (hb:Mk (fun g=>a≤g∧g<b) w w') (hd:hi≤a∨b≤lo):StateI w' lo hi v s:=by
 obtain ⟨fv,av,e,h1,h2,h3⟩:=h;exact ⟨fv,av,e,h1.mk hb hd,h2.mk hb hd,h3⟩
theorem StateI.form (h:StateI w lo hi v s):∃ A c B d,v=.agg #[.slice A s.values.length c,.slice B s.heap.length d]:=by
 obtain ⟨fv,av,rfl,h1,h2,-⟩:=h;obtain ⟨A,c,rfl⟩:=h1.form;obtain ⟨B,d,rfl⟩:=h2.form;exact ⟨A,c,B,d,rfl⟩
theorem StateI.rj (h:StateI w lo hi v s):StateV w lo w.heap.size v s:=by
 obtain ⟨fv,av,e,h1,h2,h3⟩:=h;exact StateO.rj ⟨fv,av,e,h1.1,h2.1,h3⟩
theorem StateO.I (h:StateO w lo v s):StateI w lo w.heap.size v s:=by
 obtain ⟨fv,av,e,h1,h2,h3⟩:=h;exact ⟨fv,av,e,h1.I,h2.I,h3⟩
theorem StateI.len (h:StateI w lo hi v s):s.values.length≤1049600∧s.heap.length≤1049600:=by
 obtain ⟨fv,av,e,h1,h2,h3⟩:=h;exact ⟨h1.1.2,h2.1.2⟩
end
def rowsS (ss:List Ste):List (List Int):=ss.flatMap fun s=>[s.values,s.heap]
theorem rowsS_len:∀ (ss:List Ste),(rowsS ss).length=ss.length * 2
 | []=>rfl
 | s :: ss=>by
  have:=rowsS_len ss;simp only[rowsS,List.flatMap_cons,List.length_append,List.length_cons,List.length_nil] at this ⊢;omega
theorem rowsS_get:∀ (ss:List Ste) (k:Nat) (hk:k<ss.length),(rowsS ss)[k*2]? = some ss[k].values∧(rowsS ss)[k*2+1]? = some ss[k].heap
 | s :: ss,0,_=>by simp[rowsS]
 | s :: ss,k+1,hk=>by
  have h1:=rowsS_get ss k (by simpa using hk);have e:rowsS (s :: ss)=[s.values,s.heap]++rowsS ss:=rfl;rw[e,List.getElem?_append_right (by simp;omega),List.getElem?_append_right (by simp;omega)];simp only[List.length_cons,List.length_nil,List.getElem_cons_succ];rw[show (k+1) * 2 - (0+1+1)=k * 2 by omega,show (k+1) * 2+1 - (0+1+1)=k * 2+1 by omega];exact h1
theorem rowsS_append (ss ts:List Ste):rowsS (ss++ts)=rowsS ss++rowsS ts:=by simp[rowsS]
structure S2O (w:World) (base:Nat) (v:Value) (vs:List Value) (ss:List Ste):Prop where
 row:w.ownsRow base tSt 2 v ss.length vs
 lim:Lim ss.length
 len:vs.length=(rowsS ss).length
 at_:∀ (k:Nat) (h:k<vs.length) (h':k<(rowsS ss).length),IntsO w base vs[k] (rowsS ss)[k]
 apart:∀ (i j:Nat) (hi:i<vs.length) (hj:j<vs.length),i<j→∀ g,vs[i].ownBlock=some g→vs[j].ownBlock≠some g
def StesO (w:World) (base:Nat) (v:Value) (ss:List Ste):Prop:=∃ vs,S2O w base v vs ss
theorem infoSt2:(Tryz.prog.info? tSt).map (fun i=>(i.zero,i.size,i.bytes))=some (some (.agg #[.slice none 0 0,.slice none 0 0]),2,48):=by kernel_rfl
section
variable {w w':World} {base base':Nat} {v:Value} {vs:List Value} {ss:List Ste}
theorem S2O.bz (h:S2O w base v vs ss) (hb:Below w.heap.size w w'):S2O w' base v vs ss:=⟨own_below h.row hb,h.lim,h.len,fun k h1 h2=>(h.at_ k h1 h2).bz hb,h.apart⟩
theorem StesO.bz (h:StesO w base v ss) (hb:Below w.heap.size w w'):StesO w' base v ss:=by obtain ⟨vs,h⟩:=h;exact ⟨vs,h.bz hb⟩
theorem S2O.bq (h:S2O w base v vs ss) (hb:base'≤base):S2O w base' v vs ss:=⟨own_lower h.row hb,h.lim,h.len,fun k h1 h2=>(h.at_ k h1 h2).bq hb,h.apart⟩
theorem StesO.bq (h:StesO w base v ss) (hb:base'≤base):StesO w base' v ss:=by obtain ⟨vs,h⟩:=h;exact ⟨vs,h.bq hb⟩
theorem S2O.nil (w:World) (base:Nat):S2O w base (.slice none 0 0) [] []:=⟨World.ownsRow_nil _ _ _ _,by simp[Lim],rfl,fun k h=>absurd h (by simp),fun i j h=>absurd h (by simp)⟩
theorem S2O.empty (w:World) {g:Nat} (hg:g=w.heap.size):S2O (w.alloc (.cells #[] tSt)) g (.slice (some ⟨g,0,none⟩) 0 0) [] []:=by
 subst hg;exact ⟨own_empty w _ _,by simp[Lim],rfl,fun k h=>absurd h (by simp),fun i j h=>absurd h (by simp)⟩
theorem S2O.form (h:S2O w base v vs ss):∃ A c,v=.slice A ss.length c:=by
 obtain ⟨A,c,e,-⟩:=own_reads h.row h.lim;exact ⟨A,c,e⟩
theorem StesO.form (h:StesO w base v ss):∃ A c,v=.slice A ss.length c:=by obtain ⟨vs,h⟩:=h;exact h.form
theorem S2O.setT (h:S2O w base v vs ss) {g:Nat} {t:TypeId} {cs:Array Value} (hk:Blk w g t cs) (h1:t≠tSt) (h2:t≠tI) (i:Nat) (u:Value):S2O (w.setCell ⟨g,i,none⟩ u) base v vs ss:=
 ⟨own_setT h.row hk h1 i u,h.lim,h.len,fun k a b=>(h.at_ k a b).setT hk h2 i u,h.apart⟩
theorem S2O.setb (h:S2O w base v vs ss) {p:Addr} (hp:p.block<base) (u:Value):S2O (w.setCell p u) base v vs ss:=
 ⟨ownsRow_setCell_below h.row hp u,h.lim,h.len,fun k a b=>(h.at_ k a b).setb hp u,h.apart⟩
theorem S2O.snoc {w1:World} {s1 s2 v':Value} {s:Ste} (h:S2O w base v vs ss) (hb:Below w.heap.size w w1) (hn:StateO w1 w.heap.size (.agg #[s1,s2]) s) (hbase:base≤w.heap.size) (hl:ss.length+1≤1049600)
  (hg:w1.grownBy w' v.ownBlock) (hr:w'.ownsRow base tSt 2 v' (ss.length+1) (vs++[s1,s2])):S2O w' base v' (vs++[s1,s2]) (ss++[s]):=by
 have hrow1:=own_below h.row hb;obtain ⟨_,_,e,n1,n2,dj⟩:=hn;injection e with e;injection e with e;injection e with e1 e2;injection e2 with e2 e3;subst e1 e2;have hlen:=h.len;have er:rowsS (ss++[s])=rowsS ss++[s.values,s.heap]:=rowsS_append _ _;refine ⟨by simpa using hr,by simp[Lim];omega,by rw[er];simp[hlen],fun k h1 h2=>?_,fun i j hi hj hij g hgi hgj=>?_⟩
 ·by_cases e:k<vs.length
  ·have e':k<(rowsS ss).length:=by rw[←h.len];exact e
   have:IntsO w' base vs[k] (rowsS ss)[k]:=⟨own_grownO ((h.at_ k e e').bz hb).1 hrow1 hg (by decide),(h.at_ k e e').2⟩;simp only[er,List.getElem_append,e,e',dite_true];exact this
  ·have e':¬k<(rowsS ss).length:=by rw[←h.len];exact e
   have hk:k=vs.length∨k=vs.length+1:=by simp at h1;omega
   simp only[er,List.getElem_append,e,e',dite_false];rcases hk with rfl|rfl
   ·simp only[←hlen,Nat.sub_self,List.getElem_cons_zero];exact ⟨(own_lower (own_grownO n1.1 hrow1 hg (by decide)) hbase),n1.2⟩
   ·simp only[←hlen,Nat.add_sub_cancel_left,List.getElem_cons_succ,List.getElem_cons_zero];exact ⟨(own_lower (own_grownO n2.1 hrow1 hg (by decide)) hbase),n2.2⟩
 ·by_cases ej:j<vs.length
  ·have ei:i<vs.length:=by omega
   simp only[List.getElem_append,ei,ej,dite_true] at hgi hgj;exact h.apart i j ei ej hij g hgi hgj
  ·have hj':j=vs.length∨j=vs.length+1:=by simp at hj;omega
   by_cases ei:i<vs.length
   ·have e1:g<w.heap.size:=by
     simp only[List.getElem_append,ei,dite_true] at hgi;exact ((h.at_ i ei (by rw[←h.len];exact ei)).1.lt g hgi).2
    simp only[List.getElem_append,ej,dite_false] at hgj;rcases hj' with rfl|rfl
    ·simp only[Nat.sub_self,List.getElem_cons_zero] at hgj;have e2:=(n1.1.lt g hgj).1;omega
    ·simp only[Nat.add_sub_cancel_left,List.getElem_cons_succ,List.getElem_cons_zero] at hgj;have e2:=(n2.1.lt g hgj).1;omega
   ·have hi':i=vs.length∧j=vs.length+1:=by omega
    obtain ⟨rfl,rfl⟩:=hi';simp only[List.getElem_append,ej,ei,dite_false,Nat.sub_self,Nat.add_sub_cancel_left,List.getElem_cons_succ,List.getElem_cons_zero] at hgi hgj;exact dj g hgi hgj
def StesV (w:World) (lo hi:Nat) (A:Option Addr) (ss:List Ste):Prop:=
 ∃ vs:List Value,Rd w lo hi 2 A ss.length vs∧∀ (k:Nat) (h:k<vs.length) (h':k<(rowsS ss).length),∃ B c,vs[k]=.slice B (rowsS ss)[k].length c∧IntsV w lo hi B (rowsS ss)[k]
theorem StesV.bz {lo hi:Nat} {A:Option Addr} (h:StesV w lo hi A ss) (hb:Below w.heap.size w w'):StesV w' lo hi A ss:=by
 obtain ⟨vs,h1,h2⟩:=h;exact ⟨vs,h1.bz hb,fun k a b=>by obtain ⟨B,c,e,h3⟩:=h2 k a b;exact ⟨B,c,e,h3.bz hb⟩⟩
theorem StesV.at {lo hi:Nat} {A:Option Addr} (h:StesV w lo hi A ss) {k:Nat} (hk:k<ss.length):∃ b o B c D d,A=some ⟨b,o,none⟩∧b<w.heap.size∧w.cell? ⟨b,o+k*2,none⟩=some (.slice B ss[k].values.length c)∧w.cell? ⟨b,o+k*2+1,none⟩=some (.slice D ss[k].heap.length d)∧IntsV w lo hi B ss[k].values∧IntsV w lo hi D ss[k].heap:=by
 obtain ⟨vs,h1,h2⟩:=h;have hl:vs.length=ss.length * 2:=h1.raw.1;have hr:=rowsS_len ss;obtain ⟨b,o,e,-,-,hc⟩:=h1.raw.form (by omega);obtain ⟨g1,g2⟩:=rowsS_get ss k hk;obtain ⟨B,c,e1,v1⟩:=h2 (k*2) (by omega) (by omega);obtain ⟨D,d,e2,v2⟩:=h2 (k*2+1) (by omega) (by omega);have x1:(rowsS ss)[k*2]'(by omega)=ss[k].values:=by rw[List.getElem?_eq_getElem (by omega)] at g1;exact Option.some.inj g1
 have x2:(rowsS ss)[k*2+1]'(by omega)=ss[k].heap:=by rw[List.getElem?_eq_getElem (by omega)] at g2;exact Option.some.inj g2
 rw[x1] at e1 v1;rw[x2] at e2 v2;have c1:=hc (k*2) _ (List.getElem?_eq_getElem (by omega));have c2:=hc (k*2+1) _ (List.getElem?_eq_getElem (by omega));rw[e1] at c1;rw[e2] at c2;exact ⟨b,o,B,c,D,d,e,block_lt_of_cell c1,c1,c2,v1,v2⟩
theorem S2O.rj {A:Option Addr} {n c:Nat} (h:S2O w base (.slice A n c) vs ss):n=ss.length∧StesV w base w.heap.size A ss:=by
 obtain ⟨A',c',e,h1⟩:=own_reads h.row h.lim;injection e with e1 e2 e3;subst e1;refine ⟨e2,vs,h1,fun k a b=>?_⟩;obtain ⟨B,d,e,h3⟩:=(h.at_ k a b).rj;exact ⟨B,d,e,h3⟩
end
def StesI (w:World) (lo hi:Nat) (v:Value) (ss:List Ste):Prop:=∃ vs,S2O w lo v vs ss∧Und v hi∧(∀ (k:Nat) (h:k<vs.length),Und vs[k] hi)∧tot (rowsS ss)≤16777216
def StesR (w:World) (base:Nat) (v:Value) (ss:List Ste):Prop:=StesO w base v ss∧tot (rowsS ss)≤16777216
section
variable {w w':World} {lo hi a b:Nat} {v:Value} {ss:List Ste}
theorem StesR.I {base:Nat} (h:StesR w base v ss):StesI w base w.heap.size v ss:=by
 obtain ⟨⟨vs,h⟩,hb⟩:=h;exact ⟨vs,h,fun g hg=>(h.row.lt g hg).2,fun k hk g hg=>((h.at_ k hk (by rw[←h.len];exact hk)).1.lt g hg).2,hb⟩
theorem StesI.bz (h:StesI w lo hi v ss) (hb:Below w.heap.size w w'):StesI w' lo hi v ss:=by
 obtain ⟨vs,h1,h2⟩:=h;exact ⟨vs,h1.bz hb,h2⟩
theorem StesI.mk (h:StesI w lo hi v ss) (hb:Mk (fun g=>a≤g∧g<b) w w') (hd:hi≤a∨b≤lo):StesI w' lo hi v ss:=by
 obtain ⟨vs,h1,h2,h3,h4⟩:=h;refine ⟨vs,⟨own_mk h1.row hb fun g hg hp=>by have:=und_range h1.row h2 g hg;omega,h1.lim,h1.len,fun k x y=>?_,h1.apart⟩,h2,h3,h4⟩;exact (h1.at_ k x y).mk hb fun g hg hp=>by have:=und_range (h1.at_ k x y).1 (h3 k x) g hg;omega
theorem StesI.form (h:StesI w lo hi v ss):∃ A c,v=.slice A ss.length c:=by obtain ⟨vs,h1,-⟩:=h;exact h1.form
theorem StesI.rj {A:Option Addr} {n c:Nat} (h:StesI w lo hi (.slice A n c) ss):StesV w lo w.heap.size A ss:=by obtain ⟨vs,h1,-⟩:=h;exact h1.rj.2
theorem StesI.len (h:StesI w lo hi v ss):ss.length≤1049600∧tot (rowsS ss)≤16777216:=by obtain ⟨vs,h1,-,-,h4⟩:=h;exact ⟨h1.lim,h4⟩
end
theorem S2O.at {w:World} {base n c k:Nat} {A:Option Addr} {vs:List Value} {ss:List Ste} (h:S2O w base (.slice A n c) vs ss) (hk:k<vs.length) (hr:k<(rowsS ss).length):∃ b o B d,A=some ⟨b,o,none⟩∧b<w.heap.size∧w.cell? ⟨b,o+k,none⟩=some (.slice B (rowsS ss)[k].length d)∧vs[k]=.slice B (rowsS ss)[k].length d:=by
 obtain ⟨A',c',e,h1⟩:=own_reads h.row h.lim;injection e with e1 e2 e3;subst e1;have hl:vs.length=ss.length * 2:=h1.raw.1;obtain ⟨b,o,e,-,-,hc⟩:=h1.raw.form (by omega);obtain ⟨B,d,e2,-⟩:=(h.at_ k hk hr).rj;have c1:=hc k _ (List.getElem?_eq_getElem hk);rw[e2] at c1;exact ⟨b,o,B,d,e,block_lt_of_cell c1,c1,e2⟩
end
end Go.Proofs.YtjaohekkmlkinaaGreat
