/- Copies of programs: opened at one command. -/
import Derived.Test.YtjaohekkmlkinaaGreatMDrawP
import Derived.Deep.DeepCutAuto
import Derived.Deep.LoopGhost
import Derived.BigQuiet
import Derived.Deep.QuietTactic
set_option linter.unusedSimpArgs false
set_option linter.unusedVariables false
set_option maxRecDepth 100000
set_option maxHeartbeats 25600000
namespace Go.Proofs.YtjaohekkmlkinaaGreat
section
open Go Go.RowKit Go.Proofs
section
variable {w w':World} {lo hi base:Nat} {v:Value} {L:Cms} {vo vo':Option Nat}
theorem CpAt.T2:∀ {L:Cms} {cs:List Value} {lo hi:Nat},CpAt w vo L cs lo hi→CmsT w (fun b=>(lo≤b∧b<hi)∧vo≠some b) L cs
 | .nil,_,_,_,h=>h.1
 | .cons k a b t i body els r,_,lo,hi,h=>by
  obtain ⟨AF,cF,AA,cA,AB,cB,AE,cE,rest,m0,m1,m2,m3,p1,⟨q0,q1,q2,q3,q4⟩,p3,p4,p5,p6,h⟩:=h;have hle:=CpAt.le h;have hx:∀ b,m0≤b→b<m3→(lo≤b∧b<hi)∧vo≠some b:=fun b h1 h2=>⟨by omega,fun e=>q4 b e ⟨h1,h2⟩⟩
  exact ⟨AF,cF,AA,cA,AB,cB,AE,cE,rest,p1,p3.mono fun b hb _=>hx b hb.1 (by omega),p4.mono fun b hb _=>hx b hb.1 (by omega),p5.part.mono fun b hb _=>hx b (by omega) (by omega),p6.mono fun b hb _=>hx b (by omega) hb.2,
   (CpAt.T2 h).mono fun b hb _=>⟨by omega,hb.2⟩⟩
theorem CpN.own_ge (h:CpN w lo hi v L):∀ g,v.ownBlock=some g→lo≤g∧g<hi:=by
 obtain ⟨cs,⟨_,h0⟩,h2,h3,h4⟩:=h;intro g hg;refine ⟨?_,h4 g hg⟩;rcases h0 with ⟨rfl,hn⟩|⟨g',cap,cur,rfl,hb,_⟩
 ·simp[Value.ownBlock] at hg
 ·simp[Value.ownBlock] at hg;omega
theorem CpAt.split:∀ {L:Cms} {cs:List Value} {lo hi k:Nat},CpAt w vo L cs lo hi→k<L.len→∃ P kd a b t i body els R AF cF AA cA AB cB AE cE pre post,L=P.app (.cons kd a b t i body els R)∧P.len=k∧
   cs=pre++(tenL kd a b t (.slice AF i.facts.length cF) (.slice AA i.atoms.length cA) (.slice AB body.len cB) (.slice AE els.len cE)++post)∧
   (∀ g,(Value.slice AB body.len cB).ownBlock=some g→lo≤g∧vo≠some g)∧
   CmsT w (fun x=>lo≤x∧vo≠some x∧(Value.slice AB body.len cB).ownBlock≠some x) P pre∧CmsT w (fun x=>lo≤x∧vo≠some x∧(Value.slice AB body.len cB).ownBlock≠some x) R post∧
   RwX w (fun x=>lo≤x∧vo≠some x∧(Value.slice AB body.len cB).ownBlock≠some x) 3 AF i.facts.length (encF i.facts)∧RwX w (fun x=>lo≤x∧vo≠some x∧(Value.slice AB body.len cB).ownBlock≠some x) 3 AA i.atoms.length (encA i.atoms)∧
   PartX w (fun x=>lo≤x∧vo≠some x∧(Value.slice AB body.len cB).ownBlock≠some x) AE els∧
   ∃ csB,w.ownsRow lo tC 10 (.slice AB body.len cB) body.len csB∧CmsT w (fun x=>lo≤x∧vo≠some x∧(Value.slice AB body.len cB).ownBlock≠some x) body csB
 | .nil,_,_,_,_,_,h=>by simp[Cms.len] at h
 | .cons kd a b t i body els r,cs,lo,hi,0,h,_=>by
  obtain ⟨AF,cF,AA,cA,AB,cB,AE,cE,rest,m0,m1,m2,m3,p1,⟨q0,q1,q2,q3,q4⟩,p3,p4,p5,p6,h⟩:=h;have hle:=CpAt.le h;have hO:=p5.own_ge;have hx:∀ x,m0≤x→x<m3→(x<m1∨m2≤x)→lo≤x∧vo≠some x∧(Value.slice AB body.len cB).ownBlock≠some x:=fun x h1 h2 h3=>⟨by omega,fun e=>q4 x e ⟨h1,h2⟩,fun e=>by have:=hO x e;omega⟩;obtain ⟨csB,o1,o2,o3,o4⟩:=p5;refine ⟨.nil,kd,a,b,t,i,body,els,r,AF,cF,AA,cA,AB,cB,AE,cE,[],rest,rfl,rfl,p1,fun g hg=>?_,rfl,?_,p3.mono fun x hx' _=>hx x hx'.1 (by omega) (by omega),p4.mono fun x hx' _=>hx x hx'.1 (by omega) (by omega),p6.mono fun x hx' _=>hx x (by omega) hx'.2 (by omega),csB,own_lower o1 (by omega),?_⟩
  ·have:=hO g hg;exact ⟨by omega,fun e=>q4 g e (by omega)⟩
  ·exact h.T2.mono fun x hx' _=>⟨by omega,hx'.2,fun e=>by have:=hO x e;omega⟩
  ·exact o2.mono fun x hx' _=>⟨by omega,fun e=>q4 x e (by omega),hx'.2⟩
 | .cons kd0 a0 b0 t0 i0 body0 els0 r0,cs,lo,hi,k+1,h,hk=>by
  obtain ⟨AF0,cF0,AA0,cA0,AB0,cB0,AE0,cE0,rest,m0,m1,m2,m3,rfl,⟨q0,q1,q2,q3,q4⟩,p3,p4,p5,p6,h⟩:=h;obtain ⟨P,kd,a,b,t,i,body,els,R,AF,cF,AA,cA,AB,cB,AE,cE,pre,post,rfl,rfl,rfl,s1,s2,s3,s4,s5,s6,csB,s7,s8⟩:=CpAt.split h (by simpa[Cms.len] using hk);have hY:∀ x,(m3≤x∧vo≠some x∧(Value.slice AB body.len cB).ownBlock≠some x)→(lo≤x∧vo≠some x∧(Value.slice AB body.len cB).ownBlock≠some x):=fun x hx=>⟨by omega,hx.2⟩;have hx:∀ x,m0≤x→x<m3→(lo≤x∧vo≠some x∧(Value.slice AB body.len cB).ownBlock≠some x):=fun x h1 h2=>⟨by omega,fun e=>q4 x e ⟨h1,h2⟩,fun e=>by have:=s1 x e;omega⟩
  exact ⟨.cons kd0 a0 b0 t0 i0 body0 els0 P,kd,a,b,t,i,body,els,R,AF,cF,AA,cA,AB,cB,AE,cE,_,post,rfl,rfl,(List.append_assoc ..).symm,fun g hg=>by have:=s1 g hg;exact ⟨by omega,this.2⟩,
   ⟨AF0,cF0,AA0,cA0,AB0,cB0,AE0,cE0,pre,rfl,p3.mono fun x hx' _=>hx x hx'.1 (by omega),p4.mono fun x hx' _=>hx x hx'.1 (by omega),p5.part.mono fun x hx' _=>hx x (by omega) (by omega),p6.mono fun x hx' _=>hx x (by omega) hx'.2,s2.mono fun x hx _=>hY x hx⟩,
   s3.mono fun x hx _=>hY x hx,s4.mono fun x hx _=>hY x hx,s5.mono fun x hx _=>hY x hx,s6.mono fun x hx _=>hY x hx,csB,own_lower s7 (by omega),s8.mono fun x hx _=>hY x hx⟩
theorem row_open {n c:Nat} {A:Option Addr} {cs:List Value} (h:w.ownsRow base tC 10 (.slice A n c) n cs) (hn:0<n):∃ g cur,A=some ⟨g,0,none⟩∧base≤g∧Blk w g tC cur∧(Value.slice A n c).ownBlock=some g∧∀ j u,cs[j]? = some u→w.cell? ⟨g,j,none⟩=some u:=by
 obtain ⟨hl,h2⟩:=h;rcases h2 with ⟨e,hn'⟩|⟨g,cap,cur,e,hb,hg,hn',hm,hs,ht⟩
 ·omega
 ·injection e with e1 e2 e3;subst e1;refine ⟨g,cur,rfl,hb,hg,by simp[Value.ownBlock],fun j u hu=>?_⟩;rw[cell_of_row w g j cur tC (0,0) hg];rw[←ht,List.getElem?_take] at hu
  split at hu
  ·simpa using hu
  ·cases hu
theorem CmsT.rd {X:Nat→Prop} {cs:List Value} {g:Nat} (hT:CmsT w X L cs) (hX:∀ b,X b→lo≤b) (hg:lo≤g) (hl:g<w.heap.size) (hc:∀ j u,cs[j]? = some u→w.cell? ⟨g,j,none⟩=some u):CmsV w lo w.heap.size (some ⟨g,0,none⟩) L:=
 fun _=>⟨g,0,rfl,hg,hl,CmsX.at_ hX (CmsT.x hT fun j u hu=>by rw[Nat.zero_add];exact hc j u hu)⟩
theorem cells_set {g p:Nat} {t:TypeId} {cur:Array Value} {cs:List Value} {u0:Value} (hk:Blk w g t cur) (hc:∀ j u,cs[j]? = some u→w.cell? ⟨g,j,none⟩=some u) (hp:cs[p]? = some u0) (x:Value) :
  ∀ j u,(cs.set p x)[j]? = some u→(w.setCell ⟨g,p,none⟩ x).cell? ⟨g,j,none⟩=some u:=by
 intro j u hu;have hz:=hk.set_ p x;rw[hz.cell];have h0:=hc p u0 hp;rw[hk.cell] at h0
 have hlt:p<cur.size:=by
  rcases Nat.lt_or_ge p cur.size with h|h
  ·exact h
  ·rw[Array.getElem?_eq_none h] at h0;cases h0
 rw[Array.getElem?_setIfInBounds];rw[List.getElem?_set] at hu
 split at hu
 ·rename_i e;subst e;rw[if_pos rfl,if_pos hlt]
  split at hu
  ·exact hu
  ·cases hu
 ·rename_i e;rw[if_neg e];have:=hc j u hu
  rwa [hk.cell] at this
theorem mid {pre post ten:List Value} {q d:Nat} {u:Value} (h:pre.length=q) (hd:ten[d]? = some u):(pre++(ten++post))[q+d]? = some u:=by
 have hlt:d<ten.length:=by
  rcases Nat.lt_or_ge d ten.length with h|h
  ·exact h
  ·rw[List.getElem?_eq_none h] at hd;cases hd
 subst h;rw[List.getElem?_append_right (by omega),Nat.add_sub_cancel_left,List.getElem?_append_left hlt,hd]
theorem mid_set {pre post ten:List Value} {q d:Nat} {x:Value} (h:pre.length=q) (hd:d<ten.length):(pre++(ten++post)).set (q+d) x=pre++(ten.set d x++post):=by
 subst h;rw[List.set_append_right _ _ (by omega),Nat.add_sub_cancel_left,List.set_append_left _ _ hd]
theorem part_of {X Y:Nat→Prop} {n c:Nat} {A:Option Addr} {cs:List Value} (h:w.ownsRow lo tC 10 (.slice A n c) L.len cs) (hT:CmsT w X L cs) (hX:∀ x,X x→Y x) (ho:∀ g,(Value.slice A n c).ownBlock=some g→Y g):PartX w Y A L:=fun hl=>by
 obtain ⟨hlen,h2⟩:=h;rcases h2 with ⟨e,hn⟩|⟨g,cap,cur,e,hb,hg,hn,hm,hs,ht⟩
 ·omega
 ·injection e with e1 e2 e3;subst e1;refine ⟨g,0,rfl,ho g (by simp[Value.ownBlock]),(CmsT.x hT fun j u hu=>?_).mono fun b hx _=>hX b hx⟩;rw[Nat.zero_add,cell_of_row w g j cur tC (0,0) hg];rw[←ht,List.getElem?_take] at hu
  split at hu
  ·simpa using hu
  ·cases hu
theorem CpO.fr {g:Nat} (h:CpO w base v L) (hf:Fr g w w') (hg:g<base):CpO w' base v L:=by
 obtain ⟨cs,h1,h2,h3⟩:=h;exact ⟨cs,own_fr h1 hf hg,(h2.keep fun b hb _ _ hl=>hf.block b hl (by omega)).hi_ hf.size,h3⟩
theorem mut_close {W:World} {gb:Nat} {P R:Cms} {pre post:List Value} {kd a b:Int} {t:Fct} {i:Asn} {body els:Cms} {AF AA AB AE:Option Addr} {cF cA cB cE:Nat}
  (hP:CmsT w (fun x=>base≤x∧x≠gb) P pre) (hR:CmsT w (fun x=>base≤x∧x≠gb) R post) (hF:RwX w (fun x=>base≤x∧x≠gb) 3 AF i.facts.length (encF i.facts)) (hA:RwX w (fun x=>base≤x∧x≠gb) 3 AA i.atoms.length (encA i.atoms))
  (hB:PartX w (fun x=>base≤x∧x≠gb) AB body) (hE:PartX w (fun x=>base≤x∧x≠gb) AE els) (hk:∀ x,base≤x→x≠gb→x<w.heap.size→W.heap[x]? = w.heap[x]?) (hgb:base≤gb) (hlt:gb<W.heap.size)
  (hc:∀ j u,(pre++(tenL kd a b t (.slice AF i.facts.length cF) (.slice AA i.atoms.length cA) (.slice AB body.len cB) (.slice AE els.len cE)++post))[j]? = some u→W.cell? ⟨gb,j,none⟩=some u) :
  CmsV W base W.heap.size (some ⟨gb,0,none⟩) (P.app (.cons kd a b t i body els R)):=by
 have kk:∀ x,(base≤x∧x≠gb)→x<w.heap.size→W.heap[x]? = w.heap[x]?:=fun x hx hl=>hk x hx.1 hx.2 hl
 have hT:CmsT W (fun x=>base≤x∧x≠gb) (P.app (.cons kd a b t i body els R)) (pre++(tenL kd a b t (.slice AF i.facts.length cF) (.slice AA i.atoms.length cA) (.slice AB body.len cB) (.slice AE els.len cE)++post)):=
  (hP.keep kk).app ⟨AF,cF,AA,cA,AB,cB,AE,cE,post,rfl,hF.keep kk,hA.keep kk,hB.keep kk,hE.keep kk,hR.keep kk⟩
 exact hT.rd (fun x hx=>hx.1) hgb hlt hc
theorem setCell_congr {w w':World} {a:Addr} {v:Value} (h:w.heap[a.block]? = w'.heap[a.block]?):(w.setCell a v).heap[a.block]? = (w'.setCell a v).heap[a.block]?:=by
 simp only[World.setCell,Array.getElem?_modify,h]
theorem cells10 {g q:Nat} {t:TypeId} {cur:Array Value} {pre post:List Value} {x0 x1 x2 x3 x4 x5 x6 x7 x8 x9 v0 v1 v2 v3 v4 v5 v6 v7 v8 v9:Value} (hk:Blk w g t cur) (hq:pre.length=q) (hc:∀ j u,(pre++([x0,x1,x2,x3,x4,x5,x6,x7,x8,x9]++post))[j]? = some u→w.cell? ⟨g,j,none⟩=some u) :
  ∀ j u,(pre++([v0,v1,v2,v3,v4,v5,v6,v7,v8,v9]++post))[j]? = some u→(((((((((((w).setCell ⟨g,q,none⟩ v0).setCell ⟨g,q+1,none⟩ v1).setCell ⟨g,q+2,none⟩ v2).setCell ⟨g,q+3,none⟩ v3).setCell ⟨g,q+4,none⟩ v4).setCell ⟨g,q+5,none⟩ v5).setCell ⟨g,q+6,none⟩ v6).setCell ⟨g,q+7,none⟩ v7).setCell ⟨g,q+8,none⟩ v8).setCell ⟨g,q+9,none⟩ v9).cell? ⟨g,j,none⟩=some u:=by
 have D0:=cells_set hk hc (mid (d:=0) hq (by rfl)) v0;rw[mid_set hq (by simp)] at D0;simp only[List.set_cons_zero,List.set_cons_succ] at D0;have D1:=cells_set (hk.set_ (q+0) v0) D0 (mid (d:=1) hq (by rfl)) v1;rw[mid_set hq (by simp)] at D1;simp only[List.set_cons_zero,List.set_cons_succ] at D1;have D2:=cells_set ((hk.set_ (q+0) v0).set_ (q+1) v1) D1 (mid (d:=2) hq (by rfl)) v2;rw[mid_set hq (by simp)] at D2;simp only[List.set_cons_zero,List.set_cons_succ] at D2;have D3:=cells_set (((hk.set_ (q+0) v0).set_ (q+1) v1).set_ (q+2) v2) D2 (mid (d:=3) hq (by rfl)) v3;rw[mid_set hq (by simp)] at D3;simp only[List.set_cons_zero,List.set_cons_succ] at D3;have D4:=cells_set ((((hk.set_ (q+0) v0).set_ (q+1) v1).set_ (q+2) v2).set_ (q+3) v3) D3 (mid (d:=4) hq (by rfl)) v4;rw[mid_set hq (by simp)] at D4;simp only[List.set_cons_zero,List.set_cons_succ] at D4;have D5:=cells_set (((((hk.set_ (q+0) v0).set_ (q+1) v1).set_ (q+2) v2).set_ (q+3) v3).set_ (q+4) v4) D4 (mid (d:=5) hq (by rfl)) v5;rw[mid_set hq (by simp)] at D5;simp only[List.set_cons_zero,List.set_cons_succ] at D5;have D6:=cells_set ((((((hk.set_ (q+0) v0).set_ (q+1) v1).set_ (q+2) v2).set_ (q+3) v3).set_ (q+4) v4).set_ (q+5) v5) D5 (mid (d:=6) hq (by rfl)) v6;rw[mid_set hq (by simp)] at D6;simp only[List.set_cons_zero,List.set_cons_succ] at D6;have D7:=cells_set (((((((hk.set_ (q+0) v0).set_ (q+1) v1).set_ (q+2) v2).set_ (q+3) v3).set_ (q+4) v4).set_ (q+5) v5).set_ (q+6) v6) D6 (mid (d:=7) hq (by rfl)) v7;rw[mid_set hq (by simp)] at D7;simp only[List.set_cons_zero,List.set_cons_succ] at D7;have D8:=cells_set ((((((((hk.set_ (q+0) v0).set_ (q+1) v1).set_ (q+2) v2).set_ (q+3) v3).set_ (q+4) v4).set_ (q+5) v5).set_ (q+6) v6).set_ (q+7) v7) D7 (mid (d:=8) hq (by rfl)) v8;rw[mid_set hq (by simp)] at D8;simp only[List.set_cons_zero,List.set_cons_succ] at D8;have D9:=cells_set (((((((((hk.set_ (q+0) v0).set_ (q+1) v1).set_ (q+2) v2).set_ (q+3) v3).set_ (q+4) v4).set_ (q+5) v5).set_ (q+6) v6).set_ (q+7) v7).set_ (q+8) v8) D8 (mid (d:=9) hq (by rfl)) v9;rw[mid_set hq (by simp)] at D9;simp only[List.set_cons_zero,List.set_cons_succ] at D9;exact D9
theorem mut4 {W:World} {gb g8 c9:Nat} {P R:Cms} {pre post csB:List Value} {kd a b:Int} {t:Fct} {i:Asn} {body els:Cms} {AF AA AB AE:Option Addr} {cF cA cB cE:Nat}
  (h2:CmsT w (fun x=>base≤x∧some gb≠some x∧(Value.slice AB body.len cB).ownBlock≠some x) P pre) (h3:CmsT w (fun x=>base≤x∧some gb≠some x∧(Value.slice AB body.len cB).ownBlock≠some x) R post) (h4:RwX w (fun x=>base≤x∧some gb≠some x∧(Value.slice AB body.len cB).ownBlock≠some x) 3 AF i.facts.length (encF i.facts)) (h5:RwX w (fun x=>base≤x∧some gb≠some x∧(Value.slice AB body.len cB).ownBlock≠some x) 3 AA i.atoms.length (encA i.atoms)) (h6:PartX w (fun x=>base≤x∧some gb≠some x∧(Value.slice AB body.len cB).ownBlock≠some x) AE els) (h8:CmsT w (fun x=>base≤x∧some gb≠some x∧(Value.slice AB body.len cB).ownBlock≠some x) body csB)
  (kW:∀ x,base≤x→x≠gb→(Value.slice AB body.len cB).ownBlock≠some x→x<w.heap.size→W.heap[x]? = w.heap[x]?) (e8:base≤g8) (hne:gb≠g8)
  (c8:∀ j u,(csB++((tenL 5 1 0 ⟨false,0,0⟩ (.slice none 0 0) (.slice none 0 0) (.slice none 0 0) (.slice none 0 0))++[]))[j]? = some u→W.cell? ⟨g8,j,none⟩=some u) (hgb:base≤gb) (hlt:gb<W.heap.size)
  (cb:∀ j u,(pre++(tenL kd a b t (.slice AF i.facts.length cF) (.slice AA i.atoms.length cA) (.slice (some ⟨g8,0,none⟩) (body.len+1) c9) (.slice AE els.len cE)++post))[j]? = some u→W.cell? ⟨gb,j,none⟩=some u) :
  CmsV W base W.heap.size (some ⟨gb,0,none⟩) (P.app (.cons kd a b t i (body.app (.cons 5 1 0 ⟨false,0,0⟩ ⟨[],[]⟩ .nil .nil .nil)) els R)):=by
 have hl:(body.app (.cons 5 1 0 ⟨false,0,0⟩ ⟨[],[]⟩ .nil .nil .nil)).len=body.len+1:=by rw[Cms.len_app];rfl
 have kk:∀ x,(base≤x∧some gb≠some x∧(Value.slice AB body.len cB).ownBlock≠some x)→x<w.heap.size→W.heap[x]? = w.heap[x]?:=fun x hx hl=>kW x hx.1 (fun e=>hx.2.1 (by rw[e])) hx.2.2 hl;have zz:∀ x,(base≤x∧some gb≠some x∧(Value.slice AB body.len cB).ownBlock≠some x)→(base≤x∧x≠gb):=fun x hx=>⟨hx.1,fun e=>hx.2.1 (by rw[e])⟩;have hT:CmsT W (fun x=>base≤x∧x≠gb) (body.app (.cons 5 1 0 ⟨false,0,0⟩ ⟨[],[]⟩ .nil .nil .nil)) (csB++((tenL 5 1 0 ⟨false,0,0⟩ (.slice none 0 0) (.slice none 0 0) (.slice none 0 0) (.slice none 0 0))++[])):=((h8.keep kk).mono fun x hx _=>zz x hx).app ⟨none,0,none,0,none,0,none,0,[],rfl,RwX.none ..,RwX.none ..,PartX.nil _,PartX.nil _,rfl⟩;refine mut_close (w:=W) (AB:=some ⟨g8,0,none⟩) (cF:=cF) (cA:=cA) (cB:=c9) (cE:=cE) ((h2.keep kk).mono fun x hx _=>zz x hx) ((h3.keep kk).mono fun x hx _=>zz x hx) ((h4.keep kk).mono fun x hx _=>zz x hx) ((h5.keep kk).mono fun x hx _=>zz x hx) (fun _=>⟨g8,0,rfl,⟨e8,fun e=>hne e.symm⟩,CmsT.x hT fun j u hu=>by rw[Nat.zero_add];exact c8 j u hu⟩) ((h6.keep kk).mono fun x hx _=>zz x hx) (fun _ _ _ _=>rfl) hgb hlt ?_;rw[hl];exact cb
end
section
variable {ops:Array Oper} {o:Oper} {a:Act} {Q:Exit→Act→World→Prop} {w:World} {base:Nat} {v:Value}
theorem stepCX {K:Act→World→Prop} {E:Prop} (hgd:o.guard=none) (s x:Operand) (ho:o.op=.call { callee:=.builtin .append,args:=#[s,x],argTypes:=#[42,42] })
  {n:Nat} {cs:List Value} (hs:a.eval s=v) (hown:w.ownsRow base tC 10 v n cs) {g0 c:Nat} {arr:Array Value} (ten:List Value) (hx:a.eval x=.slice (some ⟨g0,0,none⟩) 1 c) (hk:Blk w g0 tC arr) (hcs:arr=ten.toArray) (ht:ten.length=10) (h1:∀ u∈ten,u.oneCell'=true) (hn:n+1≤1049600) (hb:base≤w.heap.size)
  (h:∀ A' c' w',w'.ownsRow base tC 10 (.slice A' (n+1) c') (n+1) (cs++ten)→w.grownBy w' v.ownBlock→Below base w w'→((Value.slice A' (n+1) c').ownBlock=v.ownBlock∨(Value.slice A' (n+1) c').ownBlock=some w.heap.size)→K (a.put o.dst (.slice A' (n+1) c')) w'):if Region.wanted o (yielded ops a.tmps)=true then Oper.wp Tryz.prog o a w K Q else E:=by
 have hadd:∀ j,(⟨g0,0,none⟩:Addr).add j=⟨g0,j,none⟩:=fun j=>by unfold Addr.add;split<;>simp_all
 rw[if_pos (show Region.wanted o (yielded ops a.tmps)=true by simp[Region.wanted,hgd])];refine wp_appX (news:=ten) s x 42 ho Tryz.underlying42 infoC rfl (by decide) (by decide) hs hown hx (by rw[ht]) (fun j u hu=>?_) h1 hn hb ?_
 ·rw[hadd,hk.cell,hcs];simpa using hu
 ·intro v' w' q1 q2 q3 q4;obtain ⟨q1a,q1b⟩:=q1;rcases q1b with ⟨rfl,e⟩|⟨k,cap,cur,rfl,r⟩
  ·omega
  ·exact h _ _ w' ⟨q1a,Or.inr ⟨k,cap,cur,rfl,r⟩⟩ q2 q3 q4
end
set_option maxHeartbeats 1600000
theorem row_cap {w:World} {base size n c:Nat} {e:TypeId} {A:Option Addr} {cs:List Value} (h:w.ownsRow base e size (.slice A n c) n cs):n≤c:=by
 obtain ⟨_,h2⟩:=h;rcases h2 with ⟨_,rfl⟩|⟨g,cap,cur,e,hb,hg,hn,_⟩
 ·exact Nat.zero_le _
 ·injection e with e1 e2 e3;omega
theorem mut4A {w w3 w9:World} {g qr gb g8 c9 k:Nat} {cur cur8:Array Value} {P R:Cms} {pre post csB:List Value} {kd a b:Int} {t:Fct} {i:Asn} {body els:Cms} {AF AA AB AE:Option Addr} {cF cA cB cE:Nat}
  (s2:CmsT w3 (fun x=>w.heap.size≤x∧some gb≠some x∧(Value.slice AB body.len cB).ownBlock≠some x) P pre) (s3:CmsT w3 (fun x=>w.heap.size≤x∧some gb≠some x∧(Value.slice AB body.len cB).ownBlock≠some x) R post) (s4:RwX w3 (fun x=>w.heap.size≤x∧some gb≠some x∧(Value.slice AB body.len cB).ownBlock≠some x) 3 AF i.facts.length (encF i.facts)) (s5:RwX w3 (fun x=>w.heap.size≤x∧some gb≠some x∧(Value.slice AB body.len cB).ownBlock≠some x) 3 AA i.atoms.length (encA i.atoms)) (s6:PartX w3 (fun x=>w.heap.size≤x∧some gb≠some x∧(Value.slice AB body.len cB).ownBlock≠some x) AE els) (s8:CmsT w3 (fun x=>w.heap.size≤x∧some gb≠some x∧(Value.slice AB body.len cB).ownBlock≠some x) body csB)
  (hx8:∀ x,x<w3.heap.size→(Value.slice AB body.len cB).ownBlock≠some x→x≠g8) (same9:∀ x,x<w3.heap.size→(Value.slice AB body.len cB).ownBlock≠some x→w9.heap[x]? = w3.heap[x]?)
  (e8:w.heap.size≤g8) (hne8:gb≠g8) (hk8:Blk w9 g8 tC cur8) (hpl8:csB.length=body.len * 10)
  (hc8:∀ j u,(csB++([.int .i64 0,.int .i64 0,.int .i64 0,.bool false,.int .i64 0,.int .i64 0,.slice none 0 0,.slice none 0 0,.slice none 0 0,.slice none 0 0]++[]))[j]? = some u→w9.cell? ⟨g8,j,none⟩=some u)
  (hkb9:Blk w9 gb tC cur) (hgb9:w9.heap[gb]? = w3.heap[gb]?)
  (hc:∀ j u,(pre++(tenL kd a b t (.slice AF i.facts.length cF) (.slice AA i.atoms.length cA) (.slice AB body.len cB) (.slice AE els.len cE)++post))[j]? = some u→w3.cell? ⟨gb,j,none⟩=some u)
  (hpl:pre.length=k * 10) (hgb:w.heap.size≤gb) (F9:Rdf g qr w w9) :
  CmsV (((((((((((w9.setCell ⟨g8,body.len * 10,none⟩ (.int .i64 5)).setCell ⟨g8,body.len * 10+1,none⟩ (.int .i64 1)).setCell ⟨g8,body.len * 10+2,none⟩ (.int .i64 0)).setCell ⟨g8,body.len * 10+3,none⟩ (.bool false)).setCell ⟨g8,body.len * 10+4,none⟩ (.int .i64 0)).setCell ⟨g8,body.len * 10+5,none⟩ (.int .i64 0)).setCell ⟨g8,body.len * 10+6,none⟩ (.slice none 0 0)).setCell ⟨g8,body.len * 10+7,none⟩ (.slice none 0 0)).setCell ⟨g8,body.len * 10+8,none⟩ (.slice none 0 0)).setCell ⟨g8,body.len * 10+9,none⟩ (.slice none 0 0)).setCell ⟨gb,k * 10+8,none⟩ (.slice (some ⟨g8,0,none⟩) (body.len+1) c9)) w.heap.size (((((((((((w9.setCell ⟨g8,body.len * 10,none⟩ (.int .i64 5)).setCell ⟨g8,body.len * 10+1,none⟩ (.int .i64 1)).setCell ⟨g8,body.len * 10+2,none⟩ (.int .i64 0)).setCell ⟨g8,body.len * 10+3,none⟩ (.bool false)).setCell ⟨g8,body.len * 10+4,none⟩ (.int .i64 0)).setCell ⟨g8,body.len * 10+5,none⟩ (.int .i64 0)).setCell ⟨g8,body.len * 10+6,none⟩ (.slice none 0 0)).setCell ⟨g8,body.len * 10+7,none⟩ (.slice none 0 0)).setCell ⟨g8,body.len * 10+8,none⟩ (.slice none 0 0)).setCell ⟨g8,body.len * 10+9,none⟩ (.slice none 0 0)).setCell ⟨gb,k * 10+8,none⟩ (.slice (some ⟨g8,0,none⟩) (body.len+1) c9)).heap.size (some ⟨gb,0,none⟩) (P.app (.cons kd a b t i (body.app (.cons 5 1 0 ⟨false,0,0⟩ ⟨[],[]⟩ .nil .nil .nil)) els R))∧Rdf g qr w (((((((((((w9.setCell ⟨g8,body.len * 10,none⟩ (.int .i64 5)).setCell ⟨g8,body.len * 10+1,none⟩ (.int .i64 1)).setCell ⟨g8,body.len * 10+2,none⟩ (.int .i64 0)).setCell ⟨g8,body.len * 10+3,none⟩ (.bool false)).setCell ⟨g8,body.len * 10+4,none⟩ (.int .i64 0)).setCell ⟨g8,body.len * 10+5,none⟩ (.int .i64 0)).setCell ⟨g8,body.len * 10+6,none⟩ (.slice none 0 0)).setCell ⟨g8,body.len * 10+7,none⟩ (.slice none 0 0)).setCell ⟨g8,body.len * 10+8,none⟩ (.slice none 0 0)).setCell ⟨g8,body.len * 10+9,none⟩ (.slice none 0 0)).setCell ⟨gb,k * 10+8,none⟩ (.slice (some ⟨g8,0,none⟩) (body.len+1) c9)):=by
 have hlb:gb<w9.heap.size:=hkb9.lt;have D8:=cells_set hkb9 (fun j u hu=>(World.cell?_of_block (a:=⟨gb,j,none⟩) hgb9).trans (hc j u hu)) (mid (d:=8) hpl (by rfl)) (.slice (some ⟨g8,0,none⟩) (body.len+1) c9);rw[mid_set hpl (by simp[tenL])] at D8;have C8:=cells10 (v0:=.int .i64 5) (v1:=.int .i64 1) (v2:=.int .i64 0) (v3:=.bool false) (v4:=.int .i64 0) (v5:=.int .i64 0) (v6:=.slice none 0 0) (v7:=.slice none 0 0) (v8:=.slice none 0 0) (v9:=.slice none 0 0) hk8 hpl8 hc8
 have hS:∀ x,x≠g8→((((((((((w9.setCell ⟨g8,body.len * 10,none⟩ (.int .i64 5)).setCell ⟨g8,body.len * 10+1,none⟩ (.int .i64 1)).setCell ⟨g8,body.len * 10+2,none⟩ (.int .i64 0)).setCell ⟨g8,body.len * 10+3,none⟩ (.bool false)).setCell ⟨g8,body.len * 10+4,none⟩ (.int .i64 0)).setCell ⟨g8,body.len * 10+5,none⟩ (.int .i64 0)).setCell ⟨g8,body.len * 10+6,none⟩ (.slice none 0 0)).setCell ⟨g8,body.len * 10+7,none⟩ (.slice none 0 0)).setCell ⟨g8,body.len * 10+8,none⟩ (.slice none 0 0)).setCell ⟨g8,body.len * 10+9,none⟩ (.slice none 0 0)).heap[x]? = w9.heap[x]?:=fun x hx=>by
  iterate 10 (refine (Below.heap_setCell _ _ _ x hx).trans ?_)
  exact rfl
 refine ⟨mut4 (cF:=cF) (cA:=cA) (cE:=cE) (c9:=c9) s2 s3 s4 s5 s6 s8 (fun x h1 h2 h3 hl=>?_) e8 hne8 (fun j u hu=>?_) hgb ?_ (fun j u hu=>?_),?_⟩
 ·exact (Below.heap_setCell _ _ _ x h2).trans ((hS x (hx8 x hl h3)).trans (same9 x hl h3))
 ·exact (World.cell?_of_block (a:=⟨g8,j,none⟩) (Below.heap_setCell _ _ _ g8 (Ne.symm hne8))).trans (C8 j u hu)
 ·simp only[World.size_setCell];exact hlb
 ·refine (World.cell?_of_block (a:=⟨gb,j,none⟩) ?_).trans (D8 j u hu);exact setCell_congr (a:=⟨gb,k * 10+8,none⟩) (hS gb hne8)
 ·iterate 11 (refine Rdf.set_ ?_ (Or.inr (by simp only;omega)) _)
  exact F9
theorem mut4B {w w3 w9:World} {g qr gb g8 c9 k:Nat} {cur cur8:Array Value} {P R:Cms} {pre post csB:List Value} {kd a b:Int} {t:Fct} {i:Asn} {body els:Cms} {AF AA AB AE:Option Addr} {cF cA cB cE:Nat}
  (s2:CmsT w3 (fun x=>w.heap.size≤x∧some gb≠some x∧(Value.slice AB body.len cB).ownBlock≠some x) P pre) (s3:CmsT w3 (fun x=>w.heap.size≤x∧some gb≠some x∧(Value.slice AB body.len cB).ownBlock≠some x) R post) (s4:RwX w3 (fun x=>w.heap.size≤x∧some gb≠some x∧(Value.slice AB body.len cB).ownBlock≠some x) 3 AF i.facts.length (encF i.facts)) (s5:RwX w3 (fun x=>w.heap.size≤x∧some gb≠some x∧(Value.slice AB body.len cB).ownBlock≠some x) 3 AA i.atoms.length (encA i.atoms)) (s6:PartX w3 (fun x=>w.heap.size≤x∧some gb≠some x∧(Value.slice AB body.len cB).ownBlock≠some x) AE els) (s8:CmsT w3 (fun x=>w.heap.size≤x∧some gb≠some x∧(Value.slice AB body.len cB).ownBlock≠some x) body csB)
  (hx8:∀ x,x<w3.heap.size→(Value.slice AB body.len cB).ownBlock≠some x→x≠g8) (same9:∀ x,x<w3.heap.size→(Value.slice AB body.len cB).ownBlock≠some x→w9.heap[x]? = w3.heap[x]?)
  (e8:w.heap.size≤g8) (hne8:gb≠g8) (hk8:Blk w9 g8 tC cur8) (hpl8:csB.length=body.len * 10)
  (hc8:∀ j u,(csB++([.int .i64 0,.int .i64 0,.int .i64 0,.bool false,.int .i64 0,.int .i64 0,.slice none 0 0,.slice none 0 0,.slice none 0 0,.slice none 0 0]++[]))[j]? = some u→w9.cell? ⟨g8,j,none⟩=some u)
  (hkb9:Blk w9 gb tC cur) (hgb9:w9.heap[gb]? = w3.heap[gb]?)
  (hc:∀ j u,(pre++(tenL kd a b t (.slice AF i.facts.length cF) (.slice AA i.atoms.length cA) (.slice AB body.len cB) (.slice AE els.len cE)++post))[j]? = some u→w3.cell? ⟨gb,j,none⟩=some u)
  (hpl:pre.length=k * 10) (hgb:w.heap.size≤gb) (F9:Rdf g qr w w9) :
  CmsV (((((((((((w9.setCell ⟨gb,k * 10+8,none⟩ (.slice (some ⟨g8,0,none⟩) (body.len+1) c9)).setCell ⟨g8,body.len * 10,none⟩ (.int .i64 5)).setCell ⟨g8,body.len * 10+1,none⟩ (.int .i64 1)).setCell ⟨g8,body.len * 10+2,none⟩ (.int .i64 0)).setCell ⟨g8,body.len * 10+3,none⟩ (.bool false)).setCell ⟨g8,body.len * 10+4,none⟩ (.int .i64 0)).setCell ⟨g8,body.len * 10+5,none⟩ (.int .i64 0)).setCell ⟨g8,body.len * 10+6,none⟩ (.slice none 0 0)).setCell ⟨g8,body.len * 10+7,none⟩ (.slice none 0 0)).setCell ⟨g8,body.len * 10+8,none⟩ (.slice none 0 0)).setCell ⟨g8,body.len * 10+9,none⟩ (.slice none 0 0)) w.heap.size (((((((((((w9.setCell ⟨gb,k * 10+8,none⟩ (.slice (some ⟨g8,0,none⟩) (body.len+1) c9)).setCell ⟨g8,body.len * 10,none⟩ (.int .i64 5)).setCell ⟨g8,body.len * 10+1,none⟩ (.int .i64 1)).setCell ⟨g8,body.len * 10+2,none⟩ (.int .i64 0)).setCell ⟨g8,body.len * 10+3,none⟩ (.bool false)).setCell ⟨g8,body.len * 10+4,none⟩ (.int .i64 0)).setCell ⟨g8,body.len * 10+5,none⟩ (.int .i64 0)).setCell ⟨g8,body.len * 10+6,none⟩ (.slice none 0 0)).setCell ⟨g8,body.len * 10+7,none⟩ (.slice none 0 0)).setCell ⟨g8,body.len * 10+8,none⟩ (.slice none 0 0)).setCell ⟨g8,body.len * 10+9,none⟩ (.slice none 0 0)).heap.size (some ⟨gb,0,none⟩) (P.app (.cons kd a b t i (body.app (.cons 5 1 0 ⟨false,0,0⟩ ⟨[],[]⟩ .nil .nil .nil)) els R))∧Rdf g qr w (((((((((((w9.setCell ⟨gb,k * 10+8,none⟩ (.slice (some ⟨g8,0,none⟩) (body.len+1) c9)).setCell ⟨g8,body.len * 10,none⟩ (.int .i64 5)).setCell ⟨g8,body.len * 10+1,none⟩ (.int .i64 1)).setCell ⟨g8,body.len * 10+2,none⟩ (.int .i64 0)).setCell ⟨g8,body.len * 10+3,none⟩ (.bool false)).setCell ⟨g8,body.len * 10+4,none⟩ (.int .i64 0)).setCell ⟨g8,body.len * 10+5,none⟩ (.int .i64 0)).setCell ⟨g8,body.len * 10+6,none⟩ (.slice none 0 0)).setCell ⟨g8,body.len * 10+7,none⟩ (.slice none 0 0)).setCell ⟨g8,body.len * 10+8,none⟩ (.slice none 0 0)).setCell ⟨g8,body.len * 10+9,none⟩ (.slice none 0 0)):=by
 have hlb:gb<w9.heap.size:=hkb9.lt;have D8:=cells_set hkb9 (fun j u hu=>(World.cell?_of_block (a:=⟨gb,j,none⟩) hgb9).trans (hc j u hu)) (mid (d:=8) hpl (by rfl)) (.slice (some ⟨g8,0,none⟩) (body.len+1) c9);rw[mid_set hpl (by simp[tenL])] at D8;have C8:=cells10 (v0:=.int .i64 5) (v1:=.int .i64 1) (v2:=.int .i64 0) (v3:=.bool false) (v4:=.int .i64 0) (v5:=.int .i64 0) (v6:=.slice none 0 0) (v7:=.slice none 0 0) (v8:=.slice none 0 0) (v9:=.slice none 0 0) (hk8.far (p:=⟨gb,k * 10+8,none⟩) (Ne.symm hne8) (.slice (some ⟨g8,0,none⟩) (body.len+1) c9)) hpl8 (fun j u hu=>(World.cell?_of_block (a:=⟨g8,j,none⟩) (Below.heap_setCell w9 ⟨gb,k * 10+8,none⟩ (.slice (some ⟨g8,0,none⟩) (body.len+1) c9) g8 (Ne.symm hne8))).trans (hc8 j u hu))
 have hS:∀ x,x≠g8→(((((((((((w9.setCell ⟨gb,k * 10+8,none⟩ (.slice (some ⟨g8,0,none⟩) (body.len+1) c9)).setCell ⟨g8,body.len * 10,none⟩ (.int .i64 5)).setCell ⟨g8,body.len * 10+1,none⟩ (.int .i64 1)).setCell ⟨g8,body.len * 10+2,none⟩ (.int .i64 0)).setCell ⟨g8,body.len * 10+3,none⟩ (.bool false)).setCell ⟨g8,body.len * 10+4,none⟩ (.int .i64 0)).setCell ⟨g8,body.len * 10+5,none⟩ (.int .i64 0)).setCell ⟨g8,body.len * 10+6,none⟩ (.slice none 0 0)).setCell ⟨g8,body.len * 10+7,none⟩ (.slice none 0 0)).setCell ⟨g8,body.len * 10+8,none⟩ (.slice none 0 0)).setCell ⟨g8,body.len * 10+9,none⟩ (.slice none 0 0)).heap[x]? = (w9.setCell ⟨gb,k * 10+8,none⟩ (.slice (some ⟨g8,0,none⟩) (body.len+1) c9)).heap[x]?:=fun x hx=>by
  iterate 10 (refine (Below.heap_setCell _ _ _ x hx).trans ?_)
  exact rfl
 refine ⟨mut4 (cF:=cF) (cA:=cA) (cE:=cE) (c9:=c9) s2 s3 s4 s5 s6 s8 (fun x h1 h2 h3 hl=>?_) e8 hne8 (fun j u hu=>?_) hgb ?_ (fun j u hu=>?_),?_⟩
 ·exact (hS x (hx8 x hl h3)).trans ((Below.heap_setCell _ _ _ x h2).trans (same9 x hl h3))
 ·exact C8 j u hu
 ·simp only[World.size_setCell];exact hlb
 ·exact (World.cell?_of_block (a:=⟨gb,j,none⟩) (hS gb hne8)).trans (D8 j u hu)
 ·iterate 11 (refine Rdf.set_ ?_ (Or.inr (by simp only;omega)) _)
  exact F9
theorem c_l8Mutate (g p:Nat) (w:World) (L:Cms) (A:Option Addr) (c lo hi:Nat) (hR:Rdr w g p) (hp:p≤900000) (hV:CmsV w lo hi A L) (hL1:1≤L.len) (hLS:L.len+L.cost≤903) :
  Calls Tryz.prog 80 #[.pointer (some ⟨g,0,none⟩),.slice A L.len c] w fun e w'=>∃ A' c' L',e=.returned (.slice A' L'.len c')∧CmsV w' w.heap.size w'.heap.size A' L'∧L'.len+L'.cost≤1000∧(∃ q,q≤p+3∧Rdf g q w w')∧L'.len≤c'∧1≤L'.len:=by
 have hlt:=hR.lt;have hR0:=ax hR;replace hV:=ax hV;have hsm:=ax (Cms.cost_small (n:=1049600) (L:=L) (by omega));replace hLS:=ax hLS;clear hR;obtain ⟨n,hn⟩:∃ n,n=L.len:=⟨_,rfl⟩;rw[←hn] at hL1 ⊢;have hn9:n≤903:=by have:=hLS.o;omega
 replace hn:=ax hn;(go_enter Tryz.func80,Tryz.ntmps80);(go_wp2_with fail);rw[hn.o];refine (l8Copy_go (L.sz+1) L (by omega) A c _ lo hi hV.o (by have:=hLS.o;omega) hsm.o).mono ?_;rintro e w1 ⟨A1,c1,rfl,hC,hB1⟩;rw[←hn.o] at hC ⊢;replace hC:=ax hC;have z1:=hB1.size;have F1:=ax (Fr.ofBelow (g:=g) hB1);have hR1:=ax (hR0.o.bz hB1);clear hB1 hR0 hV;have hn0:((n:Int) == 0)=false:=by simp;omega
 (go_wp2_with fail);refine (c_pick g p n _ hR1.o (by omega)).mono ?_;rintro e w2 ⟨k,rfl,hk,hR2,hF2⟩;have hkn:k<n:=by omega
 have hki:(k:Int)<(n:Int):=by omega
 have hC2:=ax (hC.o.fr hF2 hlt);have F2:=ax (F1.o.trans hF2);replace hR2:=ax hR2;clear hF2 hC hR1 F1 hk;(go_wp2_with fail);refine (c_pick g (p+1) 50 _ hR2.o (by omega)).mono ?_;rintro e w3 ⟨m,rfl,-,hR3,hF3⟩;have hC3:=ax (hC2.o.fr hF3 hlt);have F3:=ax (show Rdf g (p+1+1) w w3 from ⟨hlt,F2.o.trans hF3,hR3⟩);replace hR3:=ax hR3;clear hF3 hC2 hR2 F2;obtain ⟨cs,ho,hT,-⟩:=hC3.o;obtain ⟨P,kd,a,b,t,i,body,els,R,AF,cF,AA,cA,AB,cB,AE,cE,pre,post,eL,eP,ecs,s1,s2,s3,s4,s5,s6,csB,s7,s8⟩:=hT.split (k:=k) (by rw[←hn.o];exact hkn);rw[←hn.o] at ho;have hcap:=ax (row_cap ho);obtain ⟨gb,cur,rfl,hgb,hkb,hob,hc⟩:=row_open ho (by omega);rw[ecs] at hc;have hpl:pre.length=k * 10:=by rw[s2.len,eP]
 have hlb:=hkb.lt;have frb:=hkb.frozen;have y0:w3.cell? ⟨gb,k * 10+0,none⟩=some (.int .i64 kd):=hc _ _ (mid hpl (by rfl));have y1:w3.cell? ⟨gb,k * 10+1,none⟩=some (.int .i64 a):=hc _ _ (mid hpl (by rfl));have y2:w3.cell? ⟨gb,k * 10+2,none⟩=some (.int .i64 b):=hc _ _ (mid hpl (by rfl));have y3:w3.cell? ⟨gb,k * 10+3,none⟩=some (.bool t.eq):=hc _ _ (mid hpl (by rfl));have y4:w3.cell? ⟨gb,k * 10+4,none⟩=some (.int .i64 t.a):=hc _ _ (mid hpl (by rfl));have y5:w3.cell? ⟨gb,k * 10+5,none⟩=some (.int .i64 t.b):=hc _ _ (mid hpl (by rfl));have y6:w3.cell? ⟨gb,k * 10+6,none⟩=some (.slice AF i.facts.length cF):=hc _ _ (mid hpl (by rfl));have y7:w3.cell? ⟨gb,k * 10+7,none⟩=some (.slice AA i.atoms.length cA):=hc _ _ (mid hpl (by rfl));have y8:w3.cell? ⟨gb,k * 10+8,none⟩=some (.slice AB body.len cB):=hc _ _ (mid hpl (by rfl));have y9:w3.cell? ⟨gb,k * 10+9,none⟩=some (.slice AE els.len cE):=hc _ _ (mid hpl (by rfl));rw[Nat.add_zero] at y0;rw[hob] at s1 s2 s3 s4 s5 s6 s8;have hgg:g<gb:=by omega
 have Y2:=ax (s2.mono (Y:=fun x=>w.heap.size≤x∧x≠gb) fun x hx _=>⟨hx.1,fun e=>hx.2.1 (by rw[e])⟩);have Y3:=ax (s3.mono (Y:=fun x=>w.heap.size≤x∧x≠gb) fun x hx _=>⟨hx.1,fun e=>hx.2.1 (by rw[e])⟩);have Y4:=ax (s4.mono (Y:=fun x=>w.heap.size≤x∧x≠gb) fun x hx _=>⟨hx.1,fun e=>hx.2.1 (by rw[e])⟩);have Y5:=ax (s5.mono (Y:=fun x=>w.heap.size≤x∧x≠gb) fun x hx _=>⟨hx.1,fun e=>hx.2.1 (by rw[e])⟩);have Y6:=ax (s6.mono (Y:=fun x=>w.heap.size≤x∧x≠gb) fun x hx _=>⟨hx.1,fun e=>hx.2.1 (by rw[e])⟩);have Y8:=ax (part_of (Y:=fun x=>w.heap.size≤x∧x≠gb) s7 s8 (fun x hx=>⟨hx.1,fun e=>hx.2.1 (by rw[e])⟩) (fun x hx=>by have:=s1 x hx;exact ⟨this.1,fun e=>this.2 (by rw[e])⟩))
 have hLc:L.len=P.len+R.len+1∧L.cost=P.cost+(i.facts.length+i.atoms.length+(body.len+body.cost)+(els.len+els.cost)+R.cost):=by
  rw[eL,Cms.len_app,Cms.cost_app];simp only[Cms.len,Cms.cost];exact ⟨by omega,trivial⟩
 replace hLc:=ax hLc;replace eL:=ax eL;replace hc:=ax hc;replace hkb:=ax hkb;replace s1:=ax s1;replace s2:=ax s2;replace s3:=ax s3;replace s4:=ax s4;replace s5:=ax s5;replace s6:=ax s6;replace s7:=ax s7;replace s8:=ax s8;replace hT:=ax hT;replace ho:=ax ho;replace hob:=ax hob;replace ecs:=ax ecs;replace hpl:=ax hpl;replace eP:=ax eP;by_cases hm0:(m:Int)=0
 ·have b0:((m:Int) == 0)=true:=by simpa using hm0
  clear hm0;(go_wp2_with fail);refine (c_numL g (p+1+1) [0,8,1,6,7] _ _ _ _ (hR3.o.bz bel) (by omega) (Blk.new _ _ _) (by rfl) (by omega) (by rfl) (by simp) (by simp)).mono ?_;rintro e w4 ⟨x,-,rfl,hR4,hF4⟩;have hsame:∀ x,x≠g→x<w3.heap.size→w4.heap[x]? = w3.heap[x]?:=fun x h1 h2=>(hF4.block x (by simp;omega) h1).trans ((bbox (Below.refl _ w3) _).block x h2);have z4:=hF4.size;simp only[World.size_alloc] at z4;have hcell:∀ j,w4.cell? ⟨gb,j,none⟩=w3.cell? ⟨gb,j,none⟩:=fun j=>World.cell?_of_block (a:=⟨gb,j,none⟩) (hsame gb (by omega) hlb);have kb4:=(hkb.o.alloc (.cells (encI [0,8,1,6,7]).toArray tI)).fr hF4 (by omega);have C4:∀ j u,(pre++((tenL kd a b t (.slice AF i.facts.length cF) (.slice AA i.atoms.length cA) (.slice AB body.len cB) (.slice AE els.len cE))++post))[j]? = some u→w4.cell? ⟨gb,j,none⟩=some u:=fun j u hu=>(hcell j).trans (hc.o j u hu);replace C4:=ax C4;have F4:=ax ((F3.o.alloc (.cells (encI [0,8,1,6,7]).toArray tI)).pick hF4 hR4);have frb4:=kb4.frozen;replace kb4:=ax kb4;rw[←hcell] at y0 y1 y2 y3 y4 y5 y6 y7 y8 y9;replace hsame:=ax hsame;have hlb4:gb<w4.heap.size:=by omega
  clear hF4 hcell frb;(go_wp2_with fail);have D0:=cells_set kb4.o C4.o (mid (d:=0) hpl.o (by rfl)) (.int .i64 x);rw[mid_set hpl.o (by simp[tenL])] at D0;have hl':(P.app (.cons x a b t i body els R)).len=n:=by rw[hn.o,hLc.o.1,Cms.len_app];simp only[Cms.len];omega
  refine bodyPost_ret (v:=.slice (some ⟨gb,0,none⟩) n c1) (by simp[results,Tryz.results80,go_sem]) rfl ⟨_,c1,P.app (.cons x a b t i body els R),by rw[hl'],?_,?_,?_,by rw[hl'];exact hcap.o,by rw[hl'];exact hL1⟩
  ·exact mut_close Y2.o Y3.o Y4.o Y5.o Y8.o Y6.o (fun x h1 h2 hl=>(Below.heap_setCell _ _ _ x h2).trans ((hsame.o x (by omega) hl))) hgb (by simp;omega) D0
  ·have h1:=hLc.o;have h2:=hLS.o;rw[Cms.len_app,Cms.cost_app];simp only[Cms.len,Cms.cost];omega
  ·exact ⟨_,by omega,(F4.o.set_ (Or.inr (by simp only;omega)) _)⟩
 have b0:((m:Int) == 0)=false:=by simpa using hm0
 clear hm0;by_cases hm1:(m:Int)=1
 ·have b1:((m:Int) == 1)=true:=by simpa using hm1
  clear hm1;(go_wp2_with fail);refine (c_numL g (p+1+1) [0,5,9,(-1)] _ _ _ _ (hR3.o.bz bel) (by omega) (Blk.new _ _ _) (by rfl) (by omega) (by rfl) (by simp) (by simp)).mono ?_;rintro e w4 ⟨x,-,rfl,hR4,hF4⟩;have hsame:∀ x,x≠g→x<w3.heap.size→w4.heap[x]? = w3.heap[x]?:=fun x h1 h2=>(hF4.block x (by simp;omega) h1).trans ((bbox (Below.refl _ w3) _).block x h2);have z4:=hF4.size;simp only[World.size_alloc] at z4;have hcell:∀ j,w4.cell? ⟨gb,j,none⟩=w3.cell? ⟨gb,j,none⟩:=fun j=>World.cell?_of_block (a:=⟨gb,j,none⟩) (hsame gb (by omega) hlb);have kb4:=(hkb.o.alloc (.cells (encI [0,5,9,(-1)]).toArray tI)).fr hF4 (by omega);have C4:∀ j u,(pre++((tenL kd a b t (.slice AF i.facts.length cF) (.slice AA i.atoms.length cA) (.slice AB body.len cB) (.slice AE els.len cE))++post))[j]? = some u→w4.cell? ⟨gb,j,none⟩=some u:=fun j u hu=>(hcell j).trans (hc.o j u hu);replace C4:=ax C4;have F4:=ax ((F3.o.alloc (.cells (encI [0,5,9,(-1)]).toArray tI)).pick hF4 hR4);have frb4:=kb4.frozen;replace kb4:=ax kb4;rw[←hcell] at y0 y1 y2 y3 y4 y5 y6 y7 y8 y9;replace hsame:=ax hsame;have hlb4:gb<w4.heap.size:=by omega
  clear hF4 hcell frb;(go_wp2_with fail);have D0:=cells_set kb4.o C4.o (mid (d:=1) hpl.o (by rfl)) (.int .i64 x);rw[mid_set hpl.o (by simp[tenL])] at D0;have hl':(P.app (.cons kd x b t i body els R)).len=n:=by rw[hn.o,hLc.o.1,Cms.len_app];simp only[Cms.len];omega
  refine bodyPost_ret (v:=.slice (some ⟨gb,0,none⟩) n c1) (by simp[results,Tryz.results80,go_sem]) rfl ⟨_,c1,P.app (.cons kd x b t i body els R),by rw[hl'],?_,?_,?_,by rw[hl'];exact hcap.o,by rw[hl'];exact hL1⟩
  ·exact mut_close Y2.o Y3.o Y4.o Y5.o Y8.o Y6.o (fun x h1 h2 hl=>(Below.heap_setCell _ _ _ x h2).trans ((hsame.o x (by omega) hl))) hgb (by simp;omega) D0
  ·have h1:=hLc.o;have h2:=hLS.o;rw[Cms.len_app,Cms.cost_app];simp only[Cms.len,Cms.cost];omega
  ·exact ⟨_,by omega,(F4.o.set_ (Or.inr (by simp only;omega)) _)⟩
 have b1:((m:Int) == 1)=false:=by simpa using hm1
 clear hm1;by_cases hm2:(m:Int)=2
 ·have b2:((m:Int) == 2)=true:=by simpa using hm2
  clear hm2;(go_wp2_with fail);refine (c_numL g (p+1+1) [1,9] _ _ _ _ (hR3.o.bz bel) (by omega) (Blk.new _ _ _) (by rfl) (by omega) (by rfl) (by simp) (by simp)).mono ?_;rintro e w4 ⟨x,-,rfl,hR4,hF4⟩;have hsame:∀ x,x≠g→x<w3.heap.size→w4.heap[x]? = w3.heap[x]?:=fun x h1 h2=>(hF4.block x (by simp;omega) h1).trans ((bbox (Below.refl _ w3) _).block x h2);have z4:=hF4.size;simp only[World.size_alloc] at z4;have hcell:∀ j,w4.cell? ⟨gb,j,none⟩=w3.cell? ⟨gb,j,none⟩:=fun j=>World.cell?_of_block (a:=⟨gb,j,none⟩) (hsame gb (by omega) hlb);have kb4:=(hkb.o.alloc (.cells (encI [1,9]).toArray tI)).fr hF4 (by omega);have C4:∀ j u,(pre++((tenL kd a b t (.slice AF i.facts.length cF) (.slice AA i.atoms.length cA) (.slice AB body.len cB) (.slice AE els.len cE))++post))[j]? = some u→w4.cell? ⟨gb,j,none⟩=some u:=fun j u hu=>(hcell j).trans (hc.o j u hu);replace C4:=ax C4;have F4:=ax ((F3.o.alloc (.cells (encI [1,9]).toArray tI)).pick hF4 hR4);have frb4:=kb4.frozen;replace kb4:=ax kb4;rw[←hcell] at y0 y1 y2 y3 y4 y5 y6 y7 y8 y9;replace hsame:=ax hsame;have hlb4:gb<w4.heap.size:=by omega
  clear hF4 hcell frb;(go_wp2_with fail);have D0:=cells_set kb4.o C4.o (mid (d:=3) hpl.o (by rfl)) (.bool false);rw[mid_set hpl.o (by simp[tenL])] at D0;have D1:=cells_set (kb4.o.set_ (k * 10+3) (.bool false)) D0 (mid (d:=4) hpl.o (by rfl)) (.int .i64 x);rw[mid_set hpl.o (by simp[tenL])] at D1;have D2:=cells_set ((kb4.o.set_ (k * 10+3) (.bool false)).set_ (k * 10+4) (.int .i64 x)) D1 (mid (d:=5) hpl.o (by rfl)) (.int .i64 2);rw[mid_set hpl.o (by simp[tenL])] at D2;have hl':(P.app (.cons kd a b ⟨false,x,2⟩ i body els R)).len=n:=by rw[hn.o,hLc.o.1,Cms.len_app];simp only[Cms.len];omega
  refine bodyPost_ret (v:=.slice (some ⟨gb,0,none⟩) n c1) (by simp[results,Tryz.results80,go_sem]) rfl ⟨_,c1,P.app (.cons kd a b ⟨false,x,2⟩ i body els R),by rw[hl'],?_,?_,?_,by rw[hl'];exact hcap.o,by rw[hl'];exact hL1⟩
  ·exact mut_close Y2.o Y3.o Y4.o Y5.o Y8.o Y6.o (fun x h1 h2 hl=>(Below.heap_setCell _ _ _ x h2).trans ((Below.heap_setCell _ _ _ x h2).trans ((Below.heap_setCell _ _ _ x h2).trans ((hsame.o x (by omega) hl))))) hgb (by simp;omega) D2
  ·have h1:=hLc.o;have h2:=hLS.o;rw[Cms.len_app,Cms.cost_app];simp only[Cms.len,Cms.cost];omega
  ·exact ⟨_,by omega,(((F4.o.set_ (Or.inr (by simp only;omega)) _).set_ (Or.inr (by simp only;omega)) _).set_ (Or.inr (by simp only;omega)) _)⟩
 have b2:((m:Int) == 2)=false:=by simpa using hm2
 clear hm2;by_cases hm3:(m:Int)=3
 ·have b3:((m:Int) == 3)=true:=by simpa using hm3
  clear hm3 y0 y1 y2 y3 y4 y5 y6 y7 y8 y9 frb s1 s2 s3 s4 s5 s6 s7 s8 Y2 Y3 Y4 Y5 Y6 Y8 hkb hc eL hLc ecs hpl eP hT ho hob;have hN:=ax hC3.o.n;clear hC3;(go_wp2_with fail)
  go_loopg [5] 17 (fun gh q5 wr=>∃ (A5:Option Addr) (c5:Nat) (M:Cms),q5=.slice A5 M.len c5∧17≤gh+M.len∧(M.len≤17∨M.len=n)∧aJ (M.cost=L.cost)∧aJ (CmsN wr w.heap.size (.slice A5 M.len c5) M)∧aJ (Rdf g (p+1+1) w wr))
  case atStart=>exact ⟨_,c1,L,by rw[←hn.o],by omega,Or.inr hn.o.symm,ax rfl,by rw[←hn.o];exact hN.o,F3.o⟩
  case round=>
   clear hN F3 hlb;obtain ⟨A5,c5,M,rfl,hgm,hM,hcost,hN,hF⟩:=hrel;obtain ⟨wo,rfl⟩:∃ x,x=wr:=⟨_,rfl⟩;have hsz:=hF.o.2.1.size;by_cases hle:M.len≤16
   ·have hlei:(M.len:Int)≤16:=by omega
    obtain ⟨cs,ho,hT,-⟩:=hN.o;replace hT:=ax hT;replace ho:=ax ho;(go_wp2_with (at_builtin;go_loud (refine appCX (base:=w.heap.size) (g0:=wo.heap.size) rfl _ _ rfl rfl (own_below ho.o (bbox (Below.refl _ _) _)) (tenL 4 1 0 ⟨false,0,0⟩ (.slice none 0 0) (.slice none 0 0) (.slice none 0 0) (.slice none 0 0)) rfl (Blk.new _ _ _) rfl rfl (tenOne _ _ _ _ _ _ _ _ _ _ _ _ _ _ _ _) (by omega) (by simp;omega) ?_);(intro A9 c9 w9 o9 g9 B9 v9;have o9:=ax o9;have g9:=ax g9;have v9:=ax v9;have B9:=ax B9)));have hl:(M.app (.cons 4 1 0 ⟨false,0,0⟩ ⟨[],[]⟩ .nil .nil .nil)).len=M.len+1:=by rw[Cms.len_app];rfl
    have hc:(M.app (.cons 4 1 0 ⟨false,0,0⟩ ⟨[],[]⟩ .nil .nil .nil)).cost=M.cost:=by rw[Cms.cost_app];simp[Cms.cost,Cms.len]
    have N9:CmsN w9 w.heap.size (.slice A9 (M.len+1) c9) (M.app (.cons 4 1 0 ⟨false,0,0⟩ ⟨[],[]⟩ .nil .nil .nil)):=
     CmsN.grow (w:=wo.alloc (.cells ((tenL 4 1 0 ⟨false,0,0⟩ (.slice none 0 0) (.slice none 0 0) (.slice none 0 0) (.slice none 0 0))).toArray tC)) (v:=.slice A5 M.len c5) (AF:=none) (AA:=none) (AB:=none) (AE:=none) (cF:=0) (cA:=0) (cB:=0) (cE:=0) (hT.o.keep fun x _ hx=>(bbox (Below.refl _ wo) _).block x hx) (by omega) (RwX.none ..) (RwX.none ..) (PartX.nil _) (PartX.nil _) o9.o g9.o v9.o
    have F9:Rdf g (p+1+1) w w9:=(hF.o.alloc _).goB B9.o (Nat.le_refl _)
    go_roundg (gk - 1)
    case rel=>exact ⟨A9,c9,_,by rw[hl],by rw[hl];omega,Or.inl (by rw[hl];omega),ax (hc.trans hcost.o),by rw[hl];exact N9,F9⟩
    case measure=>omega
   ·have hlei:¬(M.len:Int)≤16:=by omega
    (go_wp2_with fail);have hcM:aJ (M.len≤c5):=ax (by obtain ⟨cs,ho,-,-⟩:=hN.o;exact row_cap ho);obtain ⟨A',c',e,hV⟩:=hN.o.rj;injection e with e1 e2 e3;subst e1;refine bodyPost_ret (v:=.slice A5 M.len c5) (by simp[results,Tryz.results80,go_sem]) rfl ⟨_,c5,M,rfl,hV,?_,⟨_,by omega,hF.o⟩,hcM.o,by omega⟩;have h1:=hcost.o;have h2:=hLS.o;have h3:=hn.o;omega
 have b3:((m:Int) == 3)=false:=by simpa using hm3
 clear hm3;by_cases hm4:(m:Int)=4
 ·have b4:((m:Int) == 4)=true:=by simpa using hm4
  clear hm4;have hkd:=hkb.o.drew;have hbl:body.len≤903:=by have:=hLc.o;have:=hLS.o;omega
  have own7:(w3.drew.alloc (.cells ((tenL 0 0 0 ⟨false,0,0⟩ (.slice none 0 0) (.slice none 0 0) (.slice none 0 0) (.slice none 0 0))).toArray tC)).ownsRow w.heap.size tC 10 (.slice AB body.len cB) body.len csB:=own_keep s7.o fun x hx hl=>(bbox (Below.refl _ w3.drew) _).block x hl;have kept:∀ x,x<w3.heap.size→(w3.drew.alloc (.cells ((tenL 0 0 0 ⟨false,0,0⟩ (.slice none 0 0) (.slice none 0 0) (.slice none 0 0) (.slice none 0 0))).toArray tC)).heap[x]? = w3.heap[x]?:=fun x hl=>(bbox (Below.refl _ w3.drew) _).block x hl;replace own7:=ax own7;replace kept:=ax kept;(go_wp2_with fail);refine wp_region_noPanic ?_;refine wp_region_held_drew (S:=(fun _=>True)) (by kernel_rfl) (trivial) (fun aH=>?_);refine tk2 0 rfl aH (h:=tk2 1 rfl aH (h:=tk2 2 rfl aH (h:=?_)));(try simp only[zz]);refine tk2 3 rfl aH (h:=tk2 5 rfl aH (h:=?_));(try simp only[zz]);refine rdd 4 7 rfl rfl (fun K hK=>?_) fun K hK=>?_
  ·(try simp only[zz]);go_simp;refine hK.out _ _ trivial ?_;clear aH hK K;intro aH;(try simp only[zz]);refine rdd 6 7 rfl rfl (fun K hK=>?_) fun K hK=>?_
   ·(try simp only[zz]);go_simp;refine hK.out _ _ trivial ?_;clear aH hK K;intro aH;refine rdc 7 rfl fun K hK=>?_;(try simp only[zz]);go_simp;refine hK.out _ _ trivial ?_;clear aH hK K;intro aH;(try simp only[zz]);refine rdc 8 rfl fun K hK=>?_;skip;refine stepCX (base:=w.heap.size) (g0:=w3.heap.size) rfl _ _ rfl rfl own7.o (tenL 0 0 0 ⟨false,0,0⟩ (.slice none 0 0) (.slice none 0 0) (.slice none 0 0) (.slice none 0 0)) rfl (Blk.new w3.drew tC _) rfl rfl (tenOne _ _ _ _ _ _ _ _ _ _ _ _ _ _ _ _) (by omega) (by simp;omega) ?_;intro A9 c9 w9 o9 g9 B9 v9;obtain ⟨g8,cur8,rfl,e8,hk8,hob8,hc8⟩:=row_open o9 (by omega);have hgn:(Value.slice AB body.len cB).ownBlock≠some gb:=fun e=>(s1.o gb e).2 rfl;have same9:∀ x,x<w3.heap.size→(Value.slice AB body.len cB).ownBlock≠some x→w9.heap[x]? = w3.heap[x]?:=fun x h1 h2=>(g9.block x (by simp;omega) (fun e=>h2 e.symm)).trans (kept.o x h1);have y89:w9.cell? ⟨gb,k * 10+8,none⟩=some (.slice AB body.len cB):=(World.cell?_of_block (a:=⟨gb,k * 10+8,none⟩) (same9 gb hlb hgn)).trans y8;have hkb9:Blk w9 gb tC cur:=(same9 gb hlb hgn).trans hkb.o;have fr9:=hkb9.frozen;have fr8:=hk8.frozen;have hpl8:csB.length=body.len * 10:=s8.o.len;have hne8:gb≠g8:=fun e=>v9.elim (fun h=>hgn (Eq.trans (show (Value.slice AB body.len cB).ownBlock=(Value.slice (some ⟨g8,0,none⟩) (body.len+1) c9).ownBlock from h.symm) (hob8.trans (by rw[e])))) (fun h=>by rw[hob8] at h;injection h with h;simp at h;omega);have hc8':∀ j u,(csB++([.int .i64 0,.int .i64 0,.int .i64 0,.bool false,.int .i64 0,.int .i64 0,.slice none 0 0,.slice none 0 0,.slice none 0 0,.slice none 0 0]++[]))[j]? = some u→w9.cell? ⟨g8,j,none⟩=some u:=fun j u hu=>hc8 j u (by rw[List.append_nil] at hu;exact hu);have zz0:w9.cell? ⟨g8,body.len * 10,none⟩=some (.int .i64 0):=hc8' _ _ (mid (d:=0) hpl8 (by rfl));have zz1:w9.cell? ⟨g8,body.len * 10+1,none⟩=some (.int .i64 0):=hc8' _ _ (mid (d:=1) hpl8 (by rfl));have zz2:w9.cell? ⟨g8,body.len * 10+2,none⟩=some (.int .i64 0):=hc8' _ _ (mid (d:=2) hpl8 (by rfl));have zz3:w9.cell? ⟨g8,body.len * 10+3,none⟩=some (.bool false):=hc8' _ _ (mid (d:=3) hpl8 (by rfl));have zz4:w9.cell? ⟨g8,body.len * 10+4,none⟩=some (.int .i64 0):=hc8' _ _ (mid (d:=4) hpl8 (by rfl));have zz5:w9.cell? ⟨g8,body.len * 10+5,none⟩=some (.int .i64 0):=hc8' _ _ (mid (d:=5) hpl8 (by rfl));have zz6:w9.cell? ⟨g8,body.len * 10+6,none⟩=some (.slice none 0 0):=hc8' _ _ (mid (d:=6) hpl8 (by rfl));have zz7:w9.cell? ⟨g8,body.len * 10+7,none⟩=some (.slice none 0 0):=hc8' _ _ (mid (d:=7) hpl8 (by rfl));have zz8:w9.cell? ⟨g8,body.len * 10+8,none⟩=some (.slice none 0 0):=hc8' _ _ (mid (d:=8) hpl8 (by rfl));have zz9:w9.cell? ⟨g8,body.len * 10+9,none⟩=some (.slice none 0 0):=hc8' _ _ (mid (d:=9) hpl8 (by rfl));have hb1:(body.len:Int)<(body.len:Int)+1:=by omega
    have hx8:∀ x,x<w3.heap.size→(Value.slice AB body.len cB).ownBlock≠some x→x≠g8:=fun x h1 h2 e=>v9.elim (fun h=>h2 (Eq.trans (show (Value.slice AB body.len cB).ownBlock=(Value.slice (some ⟨g8,0,none⟩) (body.len+1) c9).ownBlock from h.symm) (hob8.trans (by rw[e])))) (fun h=>by rw[hob8] at h;injection h with h;simp at h;omega);have F9:Rdf g (p+1+1) w w9:=((F3.o.drew).alloc _).goB B9 (Nat.le_refl _);have hgb9:w9.heap[gb]? = w3.heap[gb]?:=same9 gb hlb hgn;have z9:=B9.size;simp at z9;replace hx8:=ax hx8;replace F9:=ax F9;replace hgb9:=ax hgb9;replace same9:=ax same9;replace hc8':=ax hc8';replace hk8:=ax hk8;replace hkb9:=ax hkb9;replace g9:=ax g9;replace B9:=ax B9;replace v9:=ax v9;replace o9:=ax o9;replace hpl8:=ax hpl8;replace hob8:=ax hob8;clear hc8 hgn;refine hK.out _ _ trivial ?_;clear aH hK K;intro aH;(try simp only[zz]);refine tk2 11 rfl aH (h:=tk2 12 rfl aH (h:=?_));(try simp only[zz]);refine rdd 9 13 rfl rfl (fun K hK=>?_) fun K hK=>?_
    ·(try simp only[zz]);go_simp;refine hK.out _ _ trivial ?_;clear aH hK K;intro aH;(try simp only[zz]);refine rdd 10 13 rfl rfl (fun K hK=>?_) fun K hK=>?_
     ·(try simp only[zz]);go_simp;refine hK.out _ _ trivial ?_;clear aH hK K;intro aH;refine rdc 13 rfl fun K hK=>?_;(try simp only[zz]);go_simp;refine hK.out _ _ trivial ?_;clear aH hK K;intro aH;(try simp only[zz]);refine dn1 ?_;have hl':(P.app (.cons kd a b t i (body.app (.cons 5 1 0 ⟨false,0,0⟩ ⟨[],[]⟩ .nil .nil .nil)) els R)).len=n:=by rw[hn.o,hLc.o.1,Cms.len_app];simp only[Cms.len];omega
      have hT:=mut4A (c9:=c9) (cF:=cF) (cA:=cA) (cE:=cE) s2.o s3.o s4.o s5.o s6.o s8.o hx8.o same9.o e8 hne8 hk8.o hpl8.o hc8'.o hkb9.o hgb9.o hc.o hpl.o hgb F9.o;replace hT:=ax hT;replace hl':=ax hl';(go_wp2_with fail);refine bodyPost_ret (v:=.slice (some ⟨gb,0,none⟩) n c1) (by simp[results,Tryz.results80,go_sem]) rfl ⟨_,c1,P.app (.cons kd a b t i (body.app (.cons 5 1 0 ⟨false,0,0⟩ ⟨[],[]⟩ .nil .nil .nil)) els R),by rw[hl'.o],hT.o.1,?_,⟨_,by omega,hT.o.2⟩,by rw[hl'.o];exact hcap.o,by rw[hl'.o];exact hL1⟩;have h1:=hLc.o;have h2:=hLS.o;rw[Cms.len_app,Cms.cost_app];simp only[Cms.len,Cms.cost,Cms.len_app,Cms.cost_app];simp;omega
     ·(try simp only[zz]);go_simp;refine hK.out _ _ trivial ?_;clear aH hK K;intro aH;refine rdc 10 rfl fun K hK=>?_;(try simp only[zz]);go_simp;refine hK.out _ _ trivial ?_;clear aH hK K;intro aH;(try simp only[zz]);refine dn1 ?_;have hl':(P.app (.cons kd a b t i (body.app (.cons 5 1 0 ⟨false,0,0⟩ ⟨[],[]⟩ .nil .nil .nil)) els R)).len=n:=by rw[hn.o,hLc.o.1,Cms.len_app];simp only[Cms.len];omega
      have hT:=mut4B (c9:=c9) (cF:=cF) (cA:=cA) (cE:=cE) s2.o s3.o s4.o s5.o s6.o s8.o hx8.o same9.o e8 hne8 hk8.o hpl8.o hc8'.o hkb9.o hgb9.o hc.o hpl.o hgb F9.o;replace hT:=ax hT;replace hl':=ax hl';(go_wp2_with fail);refine bodyPost_ret (v:=.slice (some ⟨gb,0,none⟩) n c1) (by simp[results,Tryz.results80,go_sem]) rfl ⟨_,c1,P.app (.cons kd a b t i (body.app (.cons 5 1 0 ⟨false,0,0⟩ ⟨[],[]⟩ .nil .nil .nil)) els R),by rw[hl'.o],hT.o.1,?_,⟨_,by omega,hT.o.2⟩,by rw[hl'.o];exact hcap.o,by rw[hl'.o];exact hL1⟩;have h1:=hLc.o;have h2:=hLS.o;rw[Cms.len_app,Cms.cost_app];simp only[Cms.len,Cms.cost,Cms.len_app,Cms.cost_app];simp;omega
    ·(try simp only[zz]);go_simp;refine hK.out _ _ trivial ?_;clear aH hK K;intro aH;refine rdc 9 rfl fun K hK=>?_;(try simp only[zz]);go_simp;refine hK.out _ _ trivial ?_;clear aH hK K;intro aH;refine rdc 10 rfl fun K hK=>?_;(try simp only[zz]);go_simp;refine hK.out _ _ trivial ?_;clear aH hK K;intro aH;(try simp only[zz]);refine dn1 ?_;have hl':(P.app (.cons kd a b t i (body.app (.cons 5 1 0 ⟨false,0,0⟩ ⟨[],[]⟩ .nil .nil .nil)) els R)).len=n:=by rw[hn.o,hLc.o.1,Cms.len_app];simp only[Cms.len];omega
     have hT:=mut4B (c9:=c9) (cF:=cF) (cA:=cA) (cE:=cE) s2.o s3.o s4.o s5.o s6.o s8.o hx8.o same9.o e8 hne8 hk8.o hpl8.o hc8'.o hkb9.o hgb9.o hc.o hpl.o hgb F9.o;replace hT:=ax hT;replace hl':=ax hl';(go_wp2_with fail);refine bodyPost_ret (v:=.slice (some ⟨gb,0,none⟩) n c1) (by simp[results,Tryz.results80,go_sem]) rfl ⟨_,c1,P.app (.cons kd a b t i (body.app (.cons 5 1 0 ⟨false,0,0⟩ ⟨[],[]⟩ .nil .nil .nil)) els R),by rw[hl'.o],hT.o.1,?_,⟨_,by omega,hT.o.2⟩,by rw[hl'.o];exact hcap.o,by rw[hl'.o];exact hL1⟩;have h1:=hLc.o;have h2:=hLS.o;rw[Cms.len_app,Cms.cost_app];simp only[Cms.len,Cms.cost,Cms.len_app,Cms.cost_app];simp;omega
   ·(try simp only[zz]);go_simp;refine hK.out _ _ trivial ?_;clear aH hK K;intro aH;refine rdc 6 rfl fun K hK=>?_;(try simp only[zz]);go_simp;refine hK.out _ _ trivial ?_;clear aH hK K;intro aH;(try simp only[zz]);refine rdc 8 rfl fun K hK=>?_;skip;refine stepCX (base:=w.heap.size) (g0:=w3.heap.size) rfl _ _ rfl rfl own7.o (tenL 0 0 0 ⟨false,0,0⟩ (.slice none 0 0) (.slice none 0 0) (.slice none 0 0) (.slice none 0 0)) rfl (Blk.new w3.drew tC _) rfl rfl (tenOne _ _ _ _ _ _ _ _ _ _ _ _ _ _ _ _) (by omega) (by simp;omega) ?_;intro A9 c9 w9 o9 g9 B9 v9;obtain ⟨g8,cur8,rfl,e8,hk8,hob8,hc8⟩:=row_open o9 (by omega);have hgn:(Value.slice AB body.len cB).ownBlock≠some gb:=fun e=>(s1.o gb e).2 rfl;have same9:∀ x,x<w3.heap.size→(Value.slice AB body.len cB).ownBlock≠some x→w9.heap[x]? = w3.heap[x]?:=fun x h1 h2=>(g9.block x (by simp;omega) (fun e=>h2 e.symm)).trans (kept.o x h1);have y89:w9.cell? ⟨gb,k * 10+8,none⟩=some (.slice AB body.len cB):=(World.cell?_of_block (a:=⟨gb,k * 10+8,none⟩) (same9 gb hlb hgn)).trans y8;have hkb9:Blk w9 gb tC cur:=(same9 gb hlb hgn).trans hkb.o;have fr9:=hkb9.frozen;have fr8:=hk8.frozen;have hpl8:csB.length=body.len * 10:=s8.o.len;have hne8:gb≠g8:=fun e=>v9.elim (fun h=>hgn (Eq.trans (show (Value.slice AB body.len cB).ownBlock=(Value.slice (some ⟨g8,0,none⟩) (body.len+1) c9).ownBlock from h.symm) (hob8.trans (by rw[e])))) (fun h=>by rw[hob8] at h;injection h with h;simp at h;omega);have hc8':∀ j u,(csB++([.int .i64 0,.int .i64 0,.int .i64 0,.bool false,.int .i64 0,.int .i64 0,.slice none 0 0,.slice none 0 0,.slice none 0 0,.slice none 0 0]++[]))[j]? = some u→w9.cell? ⟨g8,j,none⟩=some u:=fun j u hu=>hc8 j u (by rw[List.append_nil] at hu;exact hu);have zz0:w9.cell? ⟨g8,body.len * 10,none⟩=some (.int .i64 0):=hc8' _ _ (mid (d:=0) hpl8 (by rfl));have zz1:w9.cell? ⟨g8,body.len * 10+1,none⟩=some (.int .i64 0):=hc8' _ _ (mid (d:=1) hpl8 (by rfl));have zz2:w9.cell? ⟨g8,body.len * 10+2,none⟩=some (.int .i64 0):=hc8' _ _ (mid (d:=2) hpl8 (by rfl));have zz3:w9.cell? ⟨g8,body.len * 10+3,none⟩=some (.bool false):=hc8' _ _ (mid (d:=3) hpl8 (by rfl));have zz4:w9.cell? ⟨g8,body.len * 10+4,none⟩=some (.int .i64 0):=hc8' _ _ (mid (d:=4) hpl8 (by rfl));have zz5:w9.cell? ⟨g8,body.len * 10+5,none⟩=some (.int .i64 0):=hc8' _ _ (mid (d:=5) hpl8 (by rfl));have zz6:w9.cell? ⟨g8,body.len * 10+6,none⟩=some (.slice none 0 0):=hc8' _ _ (mid (d:=6) hpl8 (by rfl));have zz7:w9.cell? ⟨g8,body.len * 10+7,none⟩=some (.slice none 0 0):=hc8' _ _ (mid (d:=7) hpl8 (by rfl));have zz8:w9.cell? ⟨g8,body.len * 10+8,none⟩=some (.slice none 0 0):=hc8' _ _ (mid (d:=8) hpl8 (by rfl));have zz9:w9.cell? ⟨g8,body.len * 10+9,none⟩=some (.slice none 0 0):=hc8' _ _ (mid (d:=9) hpl8 (by rfl));have hb1:(body.len:Int)<(body.len:Int)+1:=by omega
    have hx8:∀ x,x<w3.heap.size→(Value.slice AB body.len cB).ownBlock≠some x→x≠g8:=fun x h1 h2 e=>v9.elim (fun h=>h2 (Eq.trans (show (Value.slice AB body.len cB).ownBlock=(Value.slice (some ⟨g8,0,none⟩) (body.len+1) c9).ownBlock from h.symm) (hob8.trans (by rw[e])))) (fun h=>by rw[hob8] at h;injection h with h;simp at h;omega);have F9:Rdf g (p+1+1) w w9:=((F3.o.drew).alloc _).goB B9 (Nat.le_refl _);have hgb9:w9.heap[gb]? = w3.heap[gb]?:=same9 gb hlb hgn;have z9:=B9.size;simp at z9;replace hx8:=ax hx8;replace F9:=ax F9;replace hgb9:=ax hgb9;replace same9:=ax same9;replace hc8':=ax hc8';replace hk8:=ax hk8;replace hkb9:=ax hkb9;replace g9:=ax g9;replace B9:=ax B9;replace v9:=ax v9;replace o9:=ax o9;replace hpl8:=ax hpl8;replace hob8:=ax hob8;clear hc8 hgn;refine hK.out _ _ trivial ?_;clear aH hK K;intro aH;(try simp only[zz]);refine tk2 11 rfl aH (h:=tk2 12 rfl aH (h:=?_));(try simp only[zz]);refine rdd 9 13 rfl rfl (fun K hK=>?_) fun K hK=>?_
    ·(try simp only[zz]);go_simp;refine hK.out _ _ trivial ?_;clear aH hK K;intro aH;(try simp only[zz]);refine rdd 10 13 rfl rfl (fun K hK=>?_) fun K hK=>?_
     ·(try simp only[zz]);go_simp;refine hK.out _ _ trivial ?_;clear aH hK K;intro aH;refine rdc 13 rfl fun K hK=>?_;(try simp only[zz]);go_simp;refine hK.out _ _ trivial ?_;clear aH hK K;intro aH;(try simp only[zz]);refine dn1 ?_;have hl':(P.app (.cons kd a b t i (body.app (.cons 5 1 0 ⟨false,0,0⟩ ⟨[],[]⟩ .nil .nil .nil)) els R)).len=n:=by rw[hn.o,hLc.o.1,Cms.len_app];simp only[Cms.len];omega
      have hT:=mut4A (c9:=c9) (cF:=cF) (cA:=cA) (cE:=cE) s2.o s3.o s4.o s5.o s6.o s8.o hx8.o same9.o e8 hne8 hk8.o hpl8.o hc8'.o hkb9.o hgb9.o hc.o hpl.o hgb F9.o;replace hT:=ax hT;replace hl':=ax hl';(go_wp2_with fail);refine bodyPost_ret (v:=.slice (some ⟨gb,0,none⟩) n c1) (by simp[results,Tryz.results80,go_sem]) rfl ⟨_,c1,P.app (.cons kd a b t i (body.app (.cons 5 1 0 ⟨false,0,0⟩ ⟨[],[]⟩ .nil .nil .nil)) els R),by rw[hl'.o],hT.o.1,?_,⟨_,by omega,hT.o.2⟩,by rw[hl'.o];exact hcap.o,by rw[hl'.o];exact hL1⟩;have h1:=hLc.o;have h2:=hLS.o;rw[Cms.len_app,Cms.cost_app];simp only[Cms.len,Cms.cost,Cms.len_app,Cms.cost_app];simp;omega
     ·(try simp only[zz]);go_simp;refine hK.out _ _ trivial ?_;clear aH hK K;intro aH;refine rdc 10 rfl fun K hK=>?_;(try simp only[zz]);go_simp;refine hK.out _ _ trivial ?_;clear aH hK K;intro aH;(try simp only[zz]);refine dn1 ?_;have hl':(P.app (.cons kd a b t i (body.app (.cons 5 1 0 ⟨false,0,0⟩ ⟨[],[]⟩ .nil .nil .nil)) els R)).len=n:=by rw[hn.o,hLc.o.1,Cms.len_app];simp only[Cms.len];omega
      have hT:=mut4B (c9:=c9) (cF:=cF) (cA:=cA) (cE:=cE) s2.o s3.o s4.o s5.o s6.o s8.o hx8.o same9.o e8 hne8 hk8.o hpl8.o hc8'.o hkb9.o hgb9.o hc.o hpl.o hgb F9.o;replace hT:=ax hT;replace hl':=ax hl';(go_wp2_with fail);refine bodyPost_ret (v:=.slice (some ⟨gb,0,none⟩) n c1) (by simp[results,Tryz.results80,go_sem]) rfl ⟨_,c1,P.app (.cons kd a b t i (body.app (.cons 5 1 0 ⟨false,0,0⟩ ⟨[],[]⟩ .nil .nil .nil)) els R),by rw[hl'.o],hT.o.1,?_,⟨_,by omega,hT.o.2⟩,by rw[hl'.o];exact hcap.o,by rw[hl'.o];exact hL1⟩;have h1:=hLc.o;have h2:=hLS.o;rw[Cms.len_app,Cms.cost_app];simp only[Cms.len,Cms.cost,Cms.len_app,Cms.cost_app];simp;omega
    ·(try simp only[zz]);go_simp;refine hK.out _ _ trivial ?_;clear aH hK K;intro aH;refine rdc 9 rfl fun K hK=>?_;(try simp only[zz]);go_simp;refine hK.out _ _ trivial ?_;clear aH hK K;intro aH;refine rdc 10 rfl fun K hK=>?_;(try simp only[zz]);go_simp;refine hK.out _ _ trivial ?_;clear aH hK K;intro aH;(try simp only[zz]);refine dn1 ?_;have hl':(P.app (.cons kd a b t i (body.app (.cons 5 1 0 ⟨false,0,0⟩ ⟨[],[]⟩ .nil .nil .nil)) els R)).len=n:=by rw[hn.o,hLc.o.1,Cms.len_app];simp only[Cms.len];omega
     have hT:=mut4B (c9:=c9) (cF:=cF) (cA:=cA) (cE:=cE) s2.o s3.o s4.o s5.o s6.o s8.o hx8.o same9.o e8 hne8 hk8.o hpl8.o hc8'.o hkb9.o hgb9.o hc.o hpl.o hgb F9.o;replace hT:=ax hT;replace hl':=ax hl';(go_wp2_with fail);refine bodyPost_ret (v:=.slice (some ⟨gb,0,none⟩) n c1) (by simp[results,Tryz.results80,go_sem]) rfl ⟨_,c1,P.app (.cons kd a b t i (body.app (.cons 5 1 0 ⟨false,0,0⟩ ⟨[],[]⟩ .nil .nil .nil)) els R),by rw[hl'.o],hT.o.1,?_,⟨_,by omega,hT.o.2⟩,by rw[hl'.o];exact hcap.o,by rw[hl'.o];exact hL1⟩;have h1:=hLc.o;have h2:=hLS.o;rw[Cms.len_app,Cms.cost_app];simp only[Cms.len,Cms.cost,Cms.len_app,Cms.cost_app];simp;omega
  ·(try simp only[zz]);go_simp;refine hK.out _ _ trivial ?_;clear aH hK K;intro aH;refine rdc 4 rfl fun K hK=>?_;(try simp only[zz]);go_simp;refine hK.out _ _ trivial ?_;clear aH hK K;intro aH;refine rdc 6 rfl fun K hK=>?_;(try simp only[zz]);go_simp;refine hK.out _ _ trivial ?_;clear aH hK K;intro aH;(try simp only[zz]);refine rdc 8 rfl fun K hK=>?_;skip;refine stepCX (base:=w.heap.size) (g0:=w3.heap.size) rfl _ _ rfl rfl own7.o (tenL 0 0 0 ⟨false,0,0⟩ (.slice none 0 0) (.slice none 0 0) (.slice none 0 0) (.slice none 0 0)) rfl (Blk.new w3.drew tC _) rfl rfl (tenOne _ _ _ _ _ _ _ _ _ _ _ _ _ _ _ _) (by omega) (by simp;omega) ?_;intro A9 c9 w9 o9 g9 B9 v9;obtain ⟨g8,cur8,rfl,e8,hk8,hob8,hc8⟩:=row_open o9 (by omega);have hgn:(Value.slice AB body.len cB).ownBlock≠some gb:=fun e=>(s1.o gb e).2 rfl;have same9:∀ x,x<w3.heap.size→(Value.slice AB body.len cB).ownBlock≠some x→w9.heap[x]? = w3.heap[x]?:=fun x h1 h2=>(g9.block x (by simp;omega) (fun e=>h2 e.symm)).trans (kept.o x h1);have y89:w9.cell? ⟨gb,k * 10+8,none⟩=some (.slice AB body.len cB):=(World.cell?_of_block (a:=⟨gb,k * 10+8,none⟩) (same9 gb hlb hgn)).trans y8;have hkb9:Blk w9 gb tC cur:=(same9 gb hlb hgn).trans hkb.o;have fr9:=hkb9.frozen;have fr8:=hk8.frozen;have hpl8:csB.length=body.len * 10:=s8.o.len;have hne8:gb≠g8:=fun e=>v9.elim (fun h=>hgn (Eq.trans (show (Value.slice AB body.len cB).ownBlock=(Value.slice (some ⟨g8,0,none⟩) (body.len+1) c9).ownBlock from h.symm) (hob8.trans (by rw[e])))) (fun h=>by rw[hob8] at h;injection h with h;simp at h;omega);have hc8':∀ j u,(csB++([.int .i64 0,.int .i64 0,.int .i64 0,.bool false,.int .i64 0,.int .i64 0,.slice none 0 0,.slice none 0 0,.slice none 0 0,.slice none 0 0]++[]))[j]? = some u→w9.cell? ⟨g8,j,none⟩=some u:=fun j u hu=>hc8 j u (by rw[List.append_nil] at hu;exact hu);have zz0:w9.cell? ⟨g8,body.len * 10,none⟩=some (.int .i64 0):=hc8' _ _ (mid (d:=0) hpl8 (by rfl));have zz1:w9.cell? ⟨g8,body.len * 10+1,none⟩=some (.int .i64 0):=hc8' _ _ (mid (d:=1) hpl8 (by rfl));have zz2:w9.cell? ⟨g8,body.len * 10+2,none⟩=some (.int .i64 0):=hc8' _ _ (mid (d:=2) hpl8 (by rfl));have zz3:w9.cell? ⟨g8,body.len * 10+3,none⟩=some (.bool false):=hc8' _ _ (mid (d:=3) hpl8 (by rfl));have zz4:w9.cell? ⟨g8,body.len * 10+4,none⟩=some (.int .i64 0):=hc8' _ _ (mid (d:=4) hpl8 (by rfl));have zz5:w9.cell? ⟨g8,body.len * 10+5,none⟩=some (.int .i64 0):=hc8' _ _ (mid (d:=5) hpl8 (by rfl));have zz6:w9.cell? ⟨g8,body.len * 10+6,none⟩=some (.slice none 0 0):=hc8' _ _ (mid (d:=6) hpl8 (by rfl));have zz7:w9.cell? ⟨g8,body.len * 10+7,none⟩=some (.slice none 0 0):=hc8' _ _ (mid (d:=7) hpl8 (by rfl));have zz8:w9.cell? ⟨g8,body.len * 10+8,none⟩=some (.slice none 0 0):=hc8' _ _ (mid (d:=8) hpl8 (by rfl));have zz9:w9.cell? ⟨g8,body.len * 10+9,none⟩=some (.slice none 0 0):=hc8' _ _ (mid (d:=9) hpl8 (by rfl));have hb1:(body.len:Int)<(body.len:Int)+1:=by omega
   have hx8:∀ x,x<w3.heap.size→(Value.slice AB body.len cB).ownBlock≠some x→x≠g8:=fun x h1 h2 e=>v9.elim (fun h=>h2 (Eq.trans (show (Value.slice AB body.len cB).ownBlock=(Value.slice (some ⟨g8,0,none⟩) (body.len+1) c9).ownBlock from h.symm) (hob8.trans (by rw[e])))) (fun h=>by rw[hob8] at h;injection h with h;simp at h;omega);have F9:Rdf g (p+1+1) w w9:=((F3.o.drew).alloc _).goB B9 (Nat.le_refl _);have hgb9:w9.heap[gb]? = w3.heap[gb]?:=same9 gb hlb hgn;have z9:=B9.size;simp at z9;replace hx8:=ax hx8;replace F9:=ax F9;replace hgb9:=ax hgb9;replace same9:=ax same9;replace hc8':=ax hc8';replace hk8:=ax hk8;replace hkb9:=ax hkb9;replace g9:=ax g9;replace B9:=ax B9;replace v9:=ax v9;replace o9:=ax o9;replace hpl8:=ax hpl8;replace hob8:=ax hob8;clear hc8 hgn;refine hK.out _ _ trivial ?_;clear aH hK K;intro aH;(try simp only[zz]);refine tk2 11 rfl aH (h:=tk2 12 rfl aH (h:=?_));(try simp only[zz]);refine rdd 9 13 rfl rfl (fun K hK=>?_) fun K hK=>?_
   ·(try simp only[zz]);go_simp;refine hK.out _ _ trivial ?_;clear aH hK K;intro aH;(try simp only[zz]);refine rdd 10 13 rfl rfl (fun K hK=>?_) fun K hK=>?_
    ·(try simp only[zz]);go_simp;refine hK.out _ _ trivial ?_;clear aH hK K;intro aH;refine rdc 13 rfl fun K hK=>?_;(try simp only[zz]);go_simp;refine hK.out _ _ trivial ?_;clear aH hK K;intro aH;(try simp only[zz]);refine dn1 ?_;have hl':(P.app (.cons kd a b t i (body.app (.cons 5 1 0 ⟨false,0,0⟩ ⟨[],[]⟩ .nil .nil .nil)) els R)).len=n:=by rw[hn.o,hLc.o.1,Cms.len_app];simp only[Cms.len];omega
     have hT:=mut4A (c9:=c9) (cF:=cF) (cA:=cA) (cE:=cE) s2.o s3.o s4.o s5.o s6.o s8.o hx8.o same9.o e8 hne8 hk8.o hpl8.o hc8'.o hkb9.o hgb9.o hc.o hpl.o hgb F9.o;replace hT:=ax hT;replace hl':=ax hl';(go_wp2_with fail);refine bodyPost_ret (v:=.slice (some ⟨gb,0,none⟩) n c1) (by simp[results,Tryz.results80,go_sem]) rfl ⟨_,c1,P.app (.cons kd a b t i (body.app (.cons 5 1 0 ⟨false,0,0⟩ ⟨[],[]⟩ .nil .nil .nil)) els R),by rw[hl'.o],hT.o.1,?_,⟨_,by omega,hT.o.2⟩,by rw[hl'.o];exact hcap.o,by rw[hl'.o];exact hL1⟩;have h1:=hLc.o;have h2:=hLS.o;rw[Cms.len_app,Cms.cost_app];simp only[Cms.len,Cms.cost,Cms.len_app,Cms.cost_app];simp;omega
    ·(try simp only[zz]);go_simp;refine hK.out _ _ trivial ?_;clear aH hK K;intro aH;refine rdc 10 rfl fun K hK=>?_;(try simp only[zz]);go_simp;refine hK.out _ _ trivial ?_;clear aH hK K;intro aH;(try simp only[zz]);refine dn1 ?_;have hl':(P.app (.cons kd a b t i (body.app (.cons 5 1 0 ⟨false,0,0⟩ ⟨[],[]⟩ .nil .nil .nil)) els R)).len=n:=by rw[hn.o,hLc.o.1,Cms.len_app];simp only[Cms.len];omega
     have hT:=mut4B (c9:=c9) (cF:=cF) (cA:=cA) (cE:=cE) s2.o s3.o s4.o s5.o s6.o s8.o hx8.o same9.o e8 hne8 hk8.o hpl8.o hc8'.o hkb9.o hgb9.o hc.o hpl.o hgb F9.o;replace hT:=ax hT;replace hl':=ax hl';(go_wp2_with fail);refine bodyPost_ret (v:=.slice (some ⟨gb,0,none⟩) n c1) (by simp[results,Tryz.results80,go_sem]) rfl ⟨_,c1,P.app (.cons kd a b t i (body.app (.cons 5 1 0 ⟨false,0,0⟩ ⟨[],[]⟩ .nil .nil .nil)) els R),by rw[hl'.o],hT.o.1,?_,⟨_,by omega,hT.o.2⟩,by rw[hl'.o];exact hcap.o,by rw[hl'.o];exact hL1⟩;have h1:=hLc.o;have h2:=hLS.o;rw[Cms.len_app,Cms.cost_app];simp only[Cms.len,Cms.cost,Cms.len_app,Cms.cost_app];simp;omega
   ·(try simp only[zz]);go_simp;refine hK.out _ _ trivial ?_;clear aH hK K;intro aH;refine rdc 9 rfl fun K hK=>?_;(try simp only[zz]);go_simp;refine hK.out _ _ trivial ?_;clear aH hK K;intro aH;refine rdc 10 rfl fun K hK=>?_;(try simp only[zz]);go_simp;refine hK.out _ _ trivial ?_;clear aH hK K;intro aH;(try simp only[zz]);refine dn1 ?_;have hl':(P.app (.cons kd a b t i (body.app (.cons 5 1 0 ⟨false,0,0⟩ ⟨[],[]⟩ .nil .nil .nil)) els R)).len=n:=by rw[hn.o,hLc.o.1,Cms.len_app];simp only[Cms.len];omega
    have hT:=mut4B (c9:=c9) (cF:=cF) (cA:=cA) (cE:=cE) s2.o s3.o s4.o s5.o s6.o s8.o hx8.o same9.o e8 hne8 hk8.o hpl8.o hc8'.o hkb9.o hgb9.o hc.o hpl.o hgb F9.o;replace hT:=ax hT;replace hl':=ax hl';(go_wp2_with fail);refine bodyPost_ret (v:=.slice (some ⟨gb,0,none⟩) n c1) (by simp[results,Tryz.results80,go_sem]) rfl ⟨_,c1,P.app (.cons kd a b t i (body.app (.cons 5 1 0 ⟨false,0,0⟩ ⟨[],[]⟩ .nil .nil .nil)) els R),by rw[hl'.o],hT.o.1,?_,⟨_,by omega,hT.o.2⟩,by rw[hl'.o];exact hcap.o,by rw[hl'.o];exact hL1⟩;have h1:=hLc.o;have h2:=hLS.o;rw[Cms.len_app,Cms.cost_app];simp only[Cms.len,Cms.cost,Cms.len_app,Cms.cost_app];simp;omega
 have b4:((m:Int) == 4)=false:=by simpa using hm4
 clear hm4;(go_wp2_with fail);refine bodyPost_ret (v:=.slice (some ⟨gb,0,none⟩) n c1) (by simp[results,Tryz.results80,go_sem]) rfl ⟨_,c1,L,by rw[←hn.o],?_,?_,⟨_,by omega,F3.o⟩,by rw[←hn.o];exact hcap.o,by rw[←hn.o];exact hL1⟩
 ·rw[eL.o];exact mut_close Y2.o Y3.o Y4.o Y5.o Y8.o Y6.o (fun _ _ _ _=>rfl) hgb hlb hc.o
 ·have:=hLS.o;omega
end
section
open Go Go.RowKit Go.Proofs
attribute [local go_sem ↓] Go.wp_at_zero Go.wp_at_succ
theorem AsnV.C {w:World} {lo hi:Nat} {A1 A2:Option Addr} {c1 c2:Nat} {a:Asn} (h:AsnV w lo hi (.agg #[.slice A1 a.facts.length c1,.slice A2 a.atoms.length c2]) a) (hc:a.atoms.length≤c2):AsnC w lo hi (.agg #[.slice A1 a.facts.length c1,.slice A2 a.atoms.length c2]) a:=by
 obtain ⟨B1,d1,B2,d2,e,f,x⟩:=h;simp only[Value.agg.injEq,Array.mk.injEq,List.cons.injEq,Value.slice.injEq,true_and,and_true] at e;obtain ⟨⟨rfl,rfl⟩,rfl,rfl⟩:=e;exact ⟨_,_,_,_,rfl,f,x,hc⟩
structure TriP (g:Nat) (w u:World) (lo:Nat) (r1:Value) (a:Asn) (r2:Value) (b:Asn) (A:Option Addr) (L:Cms):Prop where
 av:AsnV u lo u.heap.size r1 a
 bv:AsnV u lo u.heap.size r2 b
 cv:CmsV u lo u.heap.size A L
 fr:Fr g w u
theorem TriP.st {g:Nat} {w u:World} {lo:Nat} {r1:Value} {a:Asn} {r2:Value} {b:Asn} {A:Option Addr} {L:Cms} (h:TriP g w u lo r1 a r2 b A L) {n:Nat} (hn:w.heap.size≤n) (hl:n<lo) (x y:Value):TriP g w ((u.setCell ⟨n,0,none⟩ x).setCell ⟨n,1,none⟩ y) lo r1 a r2 b A L:=by
 have hs:((u.setCell ⟨n,0,none⟩ x).setCell ⟨n,1,none⟩ y).heap.size=u.heap.size:=by simp
 refine ⟨?_,?_,?_,(h.fr.set_ (p:=⟨n,0,none⟩) (.inr hn) x).set_ (p:=⟨n,1,none⟩) (.inr hn) y⟩
 ·rw[hs];exact (h.av.setb (p:=⟨n,0,none⟩) (.inl hl) x).setb (p:=⟨n,1,none⟩) (.inl hl) y
 ·rw[hs];exact (h.bv.setb (p:=⟨n,0,none⟩) (.inl hl) x).setb (p:=⟨n,1,none⟩) (.inl hl) y
 ·rw[hs];exact h.cv.keep fun b p _=>(Below.heap_setCell _ ⟨n,1,none⟩ y b (by simp only;omega)).trans (Below.heap_setCell _ ⟨n,0,none⟩ x b (by simp only;omega))
theorem c_DrawVerify (A:Option Addr) (n c:Nat) (w:World) (h:BytesR w A n c) :
  Calls Tryz.prog 23 #[.slice A n c] w fun e w'=>∃ r1 r2 a b A' c' L,e=.returned (.tuple #[r1,.slice A' (Cms.len L) c',r2])∧AsnC w' w.heap.size w'.heap.size r1 a∧AsnV w' w.heap.size w'.heap.size r2 b∧(a.facts.length≤40∧a.atoms.length≤40)∧(b.facts.length≤40∧b.atoms.length≤40)∧CmsV w' w.heap.size w'.heap.size A' L∧(1≤L.len∧L.len≤c')∧L.len+L.cost≤1000∧Below w.heap.size w w':=by
 have HBy:aJ (∀ W,Below w.heap.size w W→BytesR W A n c):=ax fun W hW=>by
  obtain ⟨bs,h1,h2,h3⟩:=h;exact ⟨bs,h1,(h2.bz hW).mono (Nat.le_refl _) hW.size,h3⟩
 clear h;(go_enter Tryz.func23,Tryz.ntmps23);(go_upto_region 1 with fail);refine bx2 (w:=w) (F:=Code.wp _ _ _ _) ?_;rintro W k2 k4 hB hz;have hzw:w.heap.size+2≤W.heap.size:=by omega
 clear hz;(go_wp2_with fail);refine (c_l18Open A n c _ (HBy.o W hB)).mono ?_;rintro e w1 ⟨g,rfl,hg,hR,hq⟩;have hz1:=hq.size;have lg:=hR.lt;have HF:aJ (Fr g w w1):=ax ((Fr.ofBelow hB).go hq);have HR:=ax hR;replace k2:=k2.nz hq;replace k4:=k4.nz hq;clear hR hq hB HBy;(go_wp2_with fail);refine (c_l11Triple g 0 _ HR.o (by omega)).mono ?_;rintro e w2 ⟨r1,r2,a,b,A1,c1,L,q,rfl,ha,hb,⟨ha1,ha2⟩,⟨hb1,hb2⟩,hV,hL1,hLS,hR,hq,hf⟩;have hz2:=hf.size;replace k2:=k2.fr hf (by omega);replace k4:=k4.fr hf (by omega);replace HF:=ax (HF.o.trans hf);clear HR;have HR:=ax hR;obtain ⟨F0,F1,G0,G1,e1,-,-⟩:=id ha;obtain ⟨M0,M1,N0,N1,e2,-,-⟩:=id hb;subst e1 e2;have hbx:=bbox (bbox (Below.refl _ w2) (.cells #[.slice F0 a.facts.length F1,.slice G0 a.atoms.length G1] tAs)) (.cells #[.slice M0 b.facts.length M1,.slice N0 b.atoms.length N1] tAs);obtain ⟨k6,k8⟩:=blk2 w2 tAs tAs #[.slice F0 a.facts.length F1,.slice G0 a.atoms.length G1] #[.slice M0 b.facts.length M1,.slice N0 b.atoms.length N1];have HA:=ax (ha.bz hbx);have HB:=ax (hb.bz hbx);have HV:=ax (hV.bz hbx);replace HR:=ax (HR.o.bz hbx);replace HF:=ax (HF.o.go hbx);replace k2:=k2.nz hbx;replace k4:=k4.nz hbx;have hzb:w2.heap.size+2≤((w2.alloc (.cells #[.slice F0 a.facts.length F1,.slice G0 a.atoms.length G1] tAs)).alloc (.cells #[.slice M0 b.facts.length M1,.slice N0 b.atoms.length N1] tAs)).heap.size:=by simp
 clear ha hb hV hR hf hbx;(go_upto_region 3 with fail);generalize ((w2.alloc (.cells #[.slice F0 a.facts.length F1,.slice G0 a.atoms.length G1] _)).alloc (.cells #[.slice M0 b.facts.length M1,.slice N0 b.atoms.length N1] _))=V at *;obtain ⟨y6,hyy⟩:∃ y,y=w2.heap.size:=⟨_,rfl⟩;rw[←hyy] at k6 k8 hzb hz2 HA HB HV ⊢;clear hyy;refine wp_region_noPanic ?_;refine wp_region_held_drew (S:=(fun w'=>(∀ i,w'.cell? ⟨y6,i,none⟩=#[.slice F0 a.facts.length F1,.slice G0 a.atoms.length G1][i]?)∧(∀ i,w'.cell? ⟨y6+1,i,none⟩=#[.slice M0 b.facts.length M1,.slice N0 b.atoms.length N1][i]?))) (by kernel_rfl) (⟨k6.drew.cell,k8.drew.cell⟩) (fun aH=>?_);have hdr:=(Below.refl V.heap.size V).drew;replace k2:=k2.nz hdr;replace k4:=k4.nz hdr;replace k6:=k6.nz hdr;replace k8:=k8.nz hdr;replace HA:=ax (HA.o.bz hdr);replace HB:=ax (HB.o.bz hdr);replace HV:=ax (HV.o.bz hdr);replace HR:=ax (HR.o.bz hdr);replace HF:=ax (HF.o.go hdr);have hzd:=hdr.size;clear hdr;generalize V.drew=V1 at *;refine tk2 0 rfl aH (h:=tk2 1 rfl aH (h:=tk2 3 rfl aH (h:=?_)));(try simp only[zz]);refine tk2 4 rfl aH (h:=tk2 6 rfl aH (h:=tk2 7 rfl aH (h:=?_)));refine rdc 2 rfl fun K hK=>?_;(try simp only[zz]);(go_simp;refine (c_l3Mutate g q _ a _ HR.o (by omega) HA.o (by omega) (by omega)).mono ?_;rintro e u3 ⟨r3,a3,q3,rfl,o3,hl3,hx3,hR,hq3,hf⟩;have hs3:=hf.size;have HO3:=ax o3.rj;have HC3:=ax o3.C;replace HB:=ax (HB.o.frk0 hf (by omega) (by omega));replace HV:=ax (HV.o.frk0 hf (by omega) (by omega));clear o3;replace k2:=k2.fr hf (by omega);replace k4:=k4.fr hf (by omega);replace k6:=k6.fr hf (by omega);replace k8:=k8.fr hf (by omega);replace HF:=ax (HF.o.trans hf);clear HR;have HR:=ax hR;clear hR hf);refine hK.out _ _ (⟨k6.cell,k8.cell⟩) ?_;clear aH hK K;intro aH;refine rdc 5 rfl fun K hK=>?_;(try simp only[zz]);(go_simp;refine (c_l8Mutate g q3 _ L A1 c1 _ _ HR.o (by omega) HV.o hL1 hLS).mono ?_;rintro e u5 ⟨A5,c5,L5,rfl,hV5,hLS5,⟨q5,hq5,hRd⟩,hcap,hne⟩;have hf:=hRd.2.1;have hR:=hRd.2.2;have hs5:=hf.size;have HV5:=ax hV5;replace HO3:=ax (HO3.o.frk0 hf (by omega) (Nat.le_refl _));replace HB:=ax (HB.o.frk0 hf (by omega) (by omega));clear hV5 hRd HV;replace k2:=k2.fr hf (by omega);replace k4:=k4.fr hf (by omega);replace k6:=k6.fr hf (by omega);replace k8:=k8.fr hf (by omega);replace HF:=ax (HF.o.trans hf);clear HR;have HR:=ax hR;clear hR hf);refine hK.out _ _ (⟨k6.cell,k8.cell⟩) ?_;clear aH hK K;intro aH;refine rdc 8 rfl fun K hK=>?_;(try simp only[zz]);(go_simp;refine (c_l3Mutate g q5 _ b _ HR.o (by omega) HB.o (by omega) (by omega)).mono ?_;rintro e u8 ⟨r8,b8,q8,rfl,o8,hl8,hx8,hR,hq8,hf⟩;have hs8:=hf.size;have HO8:=ax o8.rj;replace HO3:=ax (HO3.o.frk0 hf (by omega) (by omega));replace HV5:=ax (HV5.o.frk0 hf (by omega) (Nat.le_refl _));clear o8;replace k2:=k2.fr hf (by omega);replace k4:=k4.fr hf (by omega);replace k6:=k6.fr hf (by omega);replace k8:=k8.fr hf (by omega);replace HF:=ax (HF.o.trans hf);clear HR;have HR:=ax hR;clear hR hf);refine hK.out _ _ (⟨k6.cell,k8.cell⟩) ?_;clear aH hK K;intro aH;(try simp only[zz]);obtain ⟨P1,p1,P2,p2,e1,-,-,hcp3⟩:=HC3.o;obtain ⟨Q1,s1,Q2,s2,e2,-,-⟩:=id HO8.o;subst e1 e2;have HT:aJ (TriP g w u8 (w.heap.size+1+1) (.agg #[.slice P1 a3.facts.length p1,.slice P2 a3.atoms.length p2]) a3 (.agg #[.slice Q1 b8.facts.length s1,.slice Q2 b8.atoms.length s2]) b8 A5 L5):=ax ⟨HO3.o.mono (by omega) (by omega),HO8.o.mono (by omega) (Nat.le_refl _),HV5.o.mono (by omega) (by omega),HF.o⟩;clear HO3 HO8 HV5 HR HF HA HB;(replace qk2:=k2.z);refine rdc 9 rfl fun K hK=>?_;(try simp only[zz]);go_simp;refine hK.out _ _ (⟨((k6.far (p:=⟨w.heap.size,0,none⟩) (by simp only;omega) (.slice P1 a3.facts.length p1)).far (p:=⟨w.heap.size,1,none⟩) (by simp only;omega) (.slice P2 a3.atoms.length p2)).cell,((k8.far (p:=⟨w.heap.size,0,none⟩) (by simp only;omega) (.slice P1 a3.facts.length p1)).far (p:=⟨w.heap.size,1,none⟩) (by simp only;omega) (.slice P2 a3.atoms.length p2)).cell⟩) ?_;clear aH hK K;intro aH;(try simp only[zz]);have jb:=((k4.far (p:=⟨w.heap.size,0,none⟩) (by simp only;omega) (.slice P1 a3.facts.length p1)).far (p:=⟨w.heap.size,1,none⟩) (by simp only;omega) (.slice P2 a3.atoms.length p2));have ja:=((k2.set_ 0 (.slice P1 a3.facts.length p1)).set_ 1 (.slice P2 a3.atoms.length p2));have j6:=((k6.far (p:=⟨w.heap.size,0,none⟩) (by simp only;omega) (.slice P1 a3.facts.length p1)).far (p:=⟨w.heap.size,1,none⟩) (by simp only;omega) (.slice P2 a3.atoms.length p2));have j8:=((k8.far (p:=⟨w.heap.size,0,none⟩) (by simp only;omega) (.slice P1 a3.facts.length p1)).far (p:=⟨w.heap.size,1,none⟩) (by simp only;omega) (.slice P2 a3.atoms.length p2));have HT2:=ax (HT.o.st (n:=w.heap.size) (by omega) (by omega) (.slice P1 a3.facts.length p1) (.slice P2 a3.atoms.length p2));clear HT k2 k4 k6 k8 qk2;generalize ((u8.setCell ⟨w.heap.size,0,none⟩ (.slice P1 a3.facts.length p1)).setCell ⟨w.heap.size,1,none⟩ (.slice P2 a3.atoms.length p2))=V8 at *;refine tk2 10 rfl aH (h:=?_);(try simp only[zz]);have qjb:=jb.cell;have rjb:=jb.frozen;have ljb:=jb.lt;refine rdc 11 rfl fun K hK=>?_;(try simp only[zz]);go_simp;refine hK.out _ _ (⟨((j6.far (p:=⟨w.heap.size+1,0,none⟩) (by simp only;omega) (.slice Q1 b8.facts.length s1)).far (p:=⟨w.heap.size+1,1,none⟩) (by simp only;omega) (.slice Q2 b8.atoms.length s2)).cell,((j8.far (p:=⟨w.heap.size+1,0,none⟩) (by simp only;omega) (.slice Q1 b8.facts.length s1)).far (p:=⟨w.heap.size+1,1,none⟩) (by simp only;omega) (.slice Q2 b8.atoms.length s2)).cell⟩) ?_;clear aH hK K;intro aH;(try simp only[zz]);refine dn1 ?_;have za:=((ja.far (p:=⟨w.heap.size+1,0,none⟩) (by simp only;omega) (.slice Q1 b8.facts.length s1)).far (p:=⟨w.heap.size+1,1,none⟩) (by simp only;omega) (.slice Q2 b8.atoms.length s2)).cell;have zb:=((jb.set_ 0 (.slice Q1 b8.facts.length s1)).set_ 1 (.slice Q2 b8.atoms.length s2)).cell;have HT3:=HT2.o.st (n:=w.heap.size+1) (by omega) (by omega) (.slice Q1 b8.facts.length s1) (.slice Q2 b8.atoms.length s2);clear qjb rjb ljb j6 j8 aH;(go_wp2_with fail)
 refine bodyPost_ret (v:=.tuple #[.agg #[.slice P1 a3.facts.length p1,.slice P2 a3.atoms.length p2],.slice A5 (Cms.len L5) c5,.agg #[.slice Q1 b8.facts.length s1,.slice Q2 b8.atoms.length s2]]) (by simp[results,Tryz.results23,go_sem,za,zb]) rfl ?_;exact ⟨_,_,a3,b8,A5,c5,L5,rfl,(HT3.av.mono (by omega) (Nat.le_refl _)).C hcp3,HT3.bv.mono (by omega) (Nat.le_refl _),(by omega),(by omega),HT3.cv.mono (by omega) (Nat.le_refl _),⟨hne,hcap⟩,hLS5,HT3.fr.bz (by omega) (Nat.le_refl _)⟩
end
section
open Go Go.RowKit
def maskA (m:Nat):Nat→List Atm→List Atm
 | _,[]=>[]
 | i,x :: xs=>if m.testBit i then x :: maskA m (i+1) xs else maskA m (i+1) xs
def pickA (a:Asn) (m:Nat):Asn:=⟨[],maskA m 0 a.atoms⟩
def seekM (p:Nat→Bool):Nat→Nat→Option Nat
 | 0,_=>none
 | n+1,m=>if p m then some m else seekM p n (m+1)
def frB (a b:Asn) (m:Nat):Bool:=entF a (starA b (pickA a m))
def frM (a b:Asn):Option Nat:=seekM (frB a b) (2 ^ a.atoms.length) 0
def frameF (a b:Asn):Option Asn:=if a.valid&&b.valid then (frM a b).map (pickA a) else none
end
section
open Go Go.RowKit Go.Proofs
attribute [local go_sem ↓] Go.wp_at_zero Go.wp_at_succ
def cellX (a:Asn) (x:Atm) (i:Nat) (t:Int):Asn:=⟨a.facts++(if x.a=t then [] else [⟨true,x.a,t⟩]),⟨1,t,x.b⟩ :: zv a.atoms i⟩
end
section
open Go
def consB (a:Asn):Bool:=a.valid && !(cases a (caseS a 0)).isEmpty
/-! tidying -/
theorem nfold_mem (fs:List Fct):∀ (acc:List Fct) (g:Fct),g∈fs.foldl nfStep acc→g∈acc∨∃ f∈fs,g=nfF f:=by
 induction fs with
 | nil=>intro acc g h;exact Or.inl h
 | cons f fs ih=>
  intro acc g h;rw[List.foldl_cons] at h;rcases ih _ _ h with h|⟨f',hf',e⟩
  ·unfold nfStep at h
   split at h
   ·exact Or.inl h
   ·split at h
    ·exact Or.inl h
    ·rcases List.mem_append.1 h with h|h
     ·exact Or.inl h
     ·exact Or.inr ⟨f,List.mem_cons_self,List.mem_singleton.1 h⟩
  ·exact Or.inr ⟨f',List.mem_cons_of_mem _ hf',e⟩
theorem nfold_length (fs:List Fct):∀ (acc:List Fct),(fs.foldl nfStep acc).length≤acc.length+fs.length:=by
 induction fs with
 | nil=>intro acc;simp
 | cons f fs ih=>
  intro acc;rw[List.foldl_cons];have h1:=ih (nfStep acc f);have h2:=nfStep_length acc f;simp only[List.length_cons];omega
theorem normal_valid {a:Asn} (h:a.valid=true):(normalF a).valid=true:=by
 simp only[Asn.valid,factsValid,Bool.and_eq_true,decide_eq_true_eq,List.all_eq_true] at h ⊢;refine ⟨⟨?_,fun g hg=>?_⟩,?_,fun x hx=>?_⟩
 ·have:=nfold_length a.facts [];simp only[normalF,List.length_nil] at this ⊢;omega
 ·rcases nfold_mem _ _ _ hg with h1|⟨f,hf,rfl⟩
  ·cases h1
  ·have:=h.1.2 f hf;simp only[Fct.valid,Bool.and_eq_true] at this ⊢;unfold nfF
   split
   ·exact ⟨this.2,this.1⟩
   ·exact this
 ·have:=List.length_filter_le nfA a.atoms;simp only[normalF];omega
 ·exact h.2.2 x (List.mem_filter.1 hx).1
theorem keepF_valid {a:Asn} (p:Fct→Bool) (h:a.valid=true):(⟨a.facts.filter p,a.atoms⟩:Asn).valid=true:=by
 simp only[Asn.valid,factsValid,Bool.and_eq_true,decide_eq_true_eq,List.all_eq_true] at h ⊢;exact ⟨⟨Nat.le_trans (List.length_filter_le _ _) h.1.1,fun f hf=>h.1.2 f (List.mem_filter.1 hf).1⟩,h.2⟩
theorem tidy_valid {K:Nat} {a:Asn} (h:a.valid=true):(tidyF K a).valid=true:=normal_valid (keepF_valid _ (subAll_valid _ a (Nat.le_refl _) h))
end
section
open Go Go.RowKit
end
section
open Go Go.RowKit Go.Proofs
def emptyX (a:Asn) (x:Atm) (i:Nat):Asn:=⟨a.facts++[⟨true,x.a,x.b⟩],zv a.atoms i⟩
def fullX (a:Asn) (x:Atm) (i:Nat) (m:Int):Asn:=⟨a.facts++[⟨false,x.a,x.b⟩],([⟨1,x.a,m⟩]++zv a.atoms i)++[⟨2,m,x.b⟩]⟩
def exposeF:Nat→Asn→Int→Nat→Option (List Asn)
 | 0,_,_,_=>none
 | n+1,a,t,K=>
  if a.valid=false then none
  else if consB a=false then some []
  else match findK a 1 t with
   | some i=>if (cellX a (a.atoms[i]?.getD default) i t).valid then some [cellX a (a.atoms[i]?.getD default) i t] else none
   | none=>match findK a 2 t with
    | none=>none
    | some i=>match newT (tset (mz a)|||tins K t) with
     | none=>none
     | some m=>match exposeF n (emptyX a (a.atoms[i]?.getD default) i) t K with
      | none=>none
      | some l1=>match exposeF n (fullX a (a.atoms[i]?.getD default) i (m:Int)) t K with
       | none=>none
       | some l2=>some (l1++l2)
abbrev RowT:=List Fct ⊕ List Atm
def rlen:RowT→Nat | .inl fs=>fs.length | .inr xs=>xs.length
def RowO (w:World) (base:Nat) (v:Value):RowT→Prop | .inl fs=>FactsO w base v fs | .inr xs=>AtomsO w base v xs
def RowV (w:World) (lo hi:Nat) (A:Option Addr):RowT→Prop | .inl fs=>FactsV w lo hi A fs | .inr xs=>AtomsV w lo hi A xs
section
variable {w w':World} {base base' lo hi:Nat} {v:Value} {A:Option Addr}
theorem RowO.bz {r:RowT} (h:RowO w base v r) (hb:Below w.heap.size w w'):RowO w' base v r:=by cases r;exact FactsO.bz h hb;exact AtomsO.bz h hb
theorem RowO.bq {r:RowT} (h:RowO w base v r) (hb:base'≤base):RowO w base' v r:=by cases r;exact FactsO.bq h hb;exact AtomsO.bq h hb
theorem RowO.setT {r:RowT} (h:RowO w base v r) {g:Nat} {t:TypeId} {cs:Array Value} (hk:Blk w g t cs) (h1:t≠tF) (h2:t≠tA) (i:Nat) (u:Value):RowO (w.setCell ⟨g,i,none⟩ u) base v r:=by cases r;exact FactsO.setT h hk h1 i u;exact AtomsO.setT h hk h2 i u
theorem RowO.setb {r:RowT} (h:RowO w base v r) {p:Addr} (hp:p.block<base) (u:Value):RowO (w.setCell p u) base v r:=by cases r;exact FactsO.setb h hp u;exact AtomsO.setb h hp u
theorem RowO.lt {r:RowT} (h:RowO w base v r):∀ g,v.ownBlock=some g→base≤g∧g<w.heap.size:=by cases r;exact h.1.lt;exact h.1.lt
theorem RowO.mk {p:Nat→Prop} {r:RowT} (h:RowO w base v r) (hb:Mk p w w') (hp:∀ g,v.ownBlock=some g→¬p g):RowO w' base v r:=by cases r;exact FactsO.mk h hb hp;exact AtomsO.mk h hb hp
theorem RowO.ne {r:RowT} (h:RowO w base v r) {e:TypeId} {b s n:Nat} {v':Value} {xs:List Value} (h':w.ownsRow b e s v' n xs) (h1:e≠tF) (h2:e≠tA):∀ g,v'.ownBlock=some g→v.ownBlock≠some g:=by
 cases r
 ·exact own_ne h' h.1 h1
 ·exact own_ne h' h.1 h2
theorem RowO.grown {r:RowT} (h:RowO w base v r) {e:TypeId} {b s n:Nat} {v':Value} {xs:List Value} (h':w.ownsRow b e s v' n xs) (hg:w.grownBy w' v'.ownBlock) (h1:tF≠e) (h2:tA≠e):RowO w' base v r:=by
 cases r
 ·exact ⟨own_grownO h.1 h' hg h1,h.2⟩
 ·exact ⟨own_grownO h.1 h' hg h2,h.2⟩
theorem RowO.turn {T:TypeId} {B:Nat} {row:Option Nat} {r:RowT} (h:RowO w base v r) (hg:w.grownBy w' row) (hr:Turn T B w row) (h1:tF≠T) (h2:tA≠T):RowO w' base v r:=by
 cases r
 ·exact ⟨own_turn h.1 hg hr h1,h.2⟩
 ·exact ⟨own_turn h.1 hg hr h2,h.2⟩
theorem RowO.rj {r:RowT} (h:RowO w base v r):∃ B c,v=.slice B (rlen r) c∧RowV w base w.heap.size B r:=by
 cases r
 ·obtain ⟨B,c,e,h1⟩:=FactsO.rj h;exact ⟨B,c,e,h1⟩
 ·obtain ⟨B,c,e,h1⟩:=AtomsO.rj h;exact ⟨B,c,e,h1⟩
theorem RowV.bz {r:RowT} (h:RowV w lo hi A r) (hb:Below w.heap.size w w'):RowV w' lo hi A r:=by cases r;exact FactsV.bz h hb;exact AtomsV.bz h hb
end
def rowsA (ss:List Asn):List RowT:=ss.flatMap fun s=>[.inl s.facts,.inr s.atoms]
theorem rowsA_len:∀ (ss:List Asn),(rowsA ss).length=ss.length * 2
 | []=>rfl
 | s :: ss=>by
  have:=rowsA_len ss;simp only[rowsA,List.flatMap_cons,List.length_append,List.length_cons,List.length_nil] at this ⊢;omega
theorem rowsA_get:∀ (ss:List Asn) (k:Nat) (hk:k<ss.length),(rowsA ss)[k*2]? = some (.inl ss[k].facts)∧(rowsA ss)[k*2+1]? = some (.inr ss[k].atoms)
 | s :: ss,0,_=>by simp[rowsA]
 | s :: ss,k+1,hk=>by
  have h1:=rowsA_get ss k (by simpa using hk);have e:rowsA (s :: ss)=[.inl s.facts,.inr s.atoms]++rowsA ss:=rfl;rw[e,List.getElem?_append_right (by simp;omega),List.getElem?_append_right (by simp;omega)];simp only[List.length_cons,List.length_nil,List.getElem_cons_succ];rw[show (k+1) * 2 - (0+1+1)=k * 2 by omega,show (k+1) * 2+1 - (0+1+1)=k * 2+1 by omega];exact h1
theorem rowsA_append (ss ts:List Asn):rowsA (ss++ts)=rowsA ss++rowsA ts:=by simp[rowsA]
structure AEls (w:World) (base:Nat) (vs:List Value) (ss:List Asn):Prop where
 len:vs.length=(rowsA ss).length
 at_:∀ (k:Nat) (h:k<vs.length) (h':k<(rowsA ss).length),RowO w base vs[k] (rowsA ss)[k]
 apart:∀ (i j:Nat) (hi:i<vs.length) (hj:j<vs.length),i<j→∀ g,vs[i].ownBlock=some g→vs[j].ownBlock≠some g
structure A2O (w:World) (base:Nat) (v:Value) (vs:List Value) (ss:List Asn):Prop where
 row:w.ownsRow base tAs 2 v ss.length vs
 lim:Lim ss.length
 els:AEls w base vs ss
theorem infoAs2:(Tryz.prog.info? tAs).map (fun i=>(i.zero,i.size,i.bytes))=some (some (.agg #[.slice none 0 0,.slice none 0 0]),2,48):=by kernel_rfl
section
variable {w w':World} {base base' mid:Nat} {v:Value} {vs vs2:List Value} {ss ss2:List Asn}
theorem AEls.bz (h:AEls w base vs ss) (hb:Below w.heap.size w w'):AEls w' base vs ss:=⟨h.len,fun k h1 h2=>(h.at_ k h1 h2).bz hb,h.apart⟩
theorem AEls.bq (h:AEls w base vs ss) (hb:base'≤base):AEls w base' vs ss:=⟨h.len,fun k h1 h2=>(h.at_ k h1 h2).bq hb,h.apart⟩
theorem AEls.setb (h:AEls w base vs ss) {p:Addr} (hp:p.block<base) (u:Value):AEls (w.setCell p u) base vs ss:=⟨h.len,fun k a b=>(h.at_ k a b).setb hp u,h.apart⟩
theorem AEls.setT (h:AEls w base vs ss) {g:Nat} {t:TypeId} {cs:Array Value} (hk:Blk w g t cs) (h1:t≠tF) (h2:t≠tA) (i:Nat) (u:Value):AEls (w.setCell ⟨g,i,none⟩ u) base vs ss:=⟨h.len,fun k a b=>(h.at_ k a b).setT hk h1 h2 i u,h.apart⟩
theorem AEls.grown (h:AEls w base vs ss) {e:TypeId} {b s n:Nat} {v':Value} {xs:List Value} (h':w.ownsRow b e s v' n xs) (hg:w.grownBy w' v'.ownBlock) (h1:tF≠e) (h2:tA≠e):AEls w' base vs ss:=⟨h.len,fun k a b=>(h.at_ k a b).grown h' hg h1 h2,h.apart⟩
theorem AEls.turn {T:TypeId} {B:Nat} {row:Option Nat} (h:AEls w base vs ss) (hg:w.grownBy w' row) (hr:Turn T B w row) (h1:tF≠T) (h2:tA≠T):AEls w' base vs ss:=⟨h.len,fun k a b=>(h.at_ k a b).turn hg hr h1 h2,h.apart⟩
theorem AEls.nil (w:World) (base:Nat):AEls w base [] []:=⟨rfl,fun k h=>absurd h (by simp),fun i j h=>absurd h (by simp)⟩
theorem AEls.und (h:AEls w base vs ss):∀ (k:Nat) (hk:k<vs.length),Und vs[k] w.heap.size:=fun k hk g hg=>((h.at_ k hk (by rw[←h.len];exact hk)).lt g hg).2
theorem AEls.one {s1 s2:Value} {s:Asn} (h:AsnO w base (.agg #[s1,s2]) s):AEls w base [s1,s2] [s]:=by
 obtain ⟨_,_,e,n1,n2⟩:=h;injection e with e;injection e with e;injection e with e1 e2;injection e2 with e2 e3;subst e1 e2;refine ⟨rfl,fun k h1 h2=>?_,fun i j hi hj hij g hgi hgj=>?_⟩
 ·have hk:k=0∨k=1:=by simp at h1;omega
  rcases hk with rfl|rfl
  ·exact n1
  ·exact n2
 ·have:i=0∧j=1:=by simp at hj;omega
  obtain ⟨rfl,rfl⟩:=this;exact own_ne n1.1 n2.1 (by decide) g hgi hgj
theorem AEls.cat (h:AEls w base vs ss) (h2:AEls w mid vs2 ss2) (hb:base≤mid) (hu:∀ (k:Nat) (hk:k<vs.length),Und vs[k] mid):AEls w base (vs++vs2) (ss++ss2):=by
 have er:=rowsA_append ss ss2;have hlen:=h.len;refine ⟨by rw[er,List.length_append,List.length_append,h.len,h2.len],fun k k1 k2=>?_,fun i j hi hj hij g hgi hgj=>?_⟩
 ·by_cases e:k<vs.length
  ·have e':k<(rowsA ss).length:=by omega
   simp only[er,List.getElem_append,e,e',dite_true];exact h.at_ k e e'
  ·have e':¬k<(rowsA ss).length:=by omega
   simp only[er,List.getElem_append,e,e',dite_false];have l1:k - vs.length<vs2.length:=by simp at k1;omega
   have l2:k - (rowsA ss).length<(rowsA ss2).length:=by rw[er] at k2;simp at k2;omega
   have:=h2.at_ (k - vs.length) l1 (by rw[←h2.len];exact l1);have e3:k - vs.length=k - (rowsA ss).length:=by omega
   simp only[e3] at this ⊢;exact this.bq hb
 ·by_cases ej:j<vs.length
  ·have ei:i<vs.length:=by omega
   simp only[List.getElem_append,ei,ej,dite_true] at hgi hgj;exact h.apart i j ei ej hij g hgi hgj
  ·have lj:j - vs.length<vs2.length:=by simp at hj;omega
   by_cases ei:i<vs.length
   ·simp only[List.getElem_append,ei,ej,dite_true,dite_false] at hgi hgj;have e1:=hu i ei g hgi;have e2:=((h2.at_ (j - vs.length) lj (by rw[←h2.len];exact lj)).lt g hgj).1;omega
   ·simp only[List.getElem_append,ei,ej,dite_false] at hgi hgj;exact h2.apart (i - vs.length) (j - vs.length) (by omega) lj (by omega) g hgi hgj
theorem A2O.bz (h:A2O w base v vs ss) (hb:Below w.heap.size w w'):A2O w' base v vs ss:=⟨own_below h.row hb,h.lim,h.els.bz hb⟩
theorem A2O.bq (h:A2O w base v vs ss) (hb:base'≤base):A2O w base' v vs ss:=⟨own_lower h.row hb,h.lim,h.els.bq hb⟩
theorem A2O.setb (h:A2O w base v vs ss) {p:Addr} (hp:p.block<base) (u:Value):A2O (w.setCell p u) base v vs ss:=⟨ownsRow_setCell_below h.row hp u,h.lim,h.els.setb hp u⟩
theorem A2O.setT (h:A2O w base v vs ss) {g:Nat} {t:TypeId} {cs:Array Value} (hk:Blk w g t cs) (h0:t≠tAs) (h1:t≠tF) (h2:t≠tA) (i:Nat) (u:Value):A2O (w.setCell ⟨g,i,none⟩ u) base v vs ss:=
 ⟨own_setT h.row hk h0 i u,h.lim,h.els.setT hk h1 h2 i u⟩
theorem A2O.nil (w:World) (base:Nat):A2O w base (.slice none 0 0) [] []:=⟨World.ownsRow_nil _ _ _ _,by simp[Lim],AEls.nil _ _⟩
theorem A2O.empty (w:World) {g:Nat} (hg:g=w.heap.size):A2O (w.alloc (.cells #[] tAs)) g (.slice (some ⟨g,0,none⟩) 0 0) [] []:=by
 subst hg;exact ⟨own_empty w _ _,by simp[Lim],AEls.nil _ _⟩
theorem A2O.ofBlk {g:Nat} (h:Blk w g tAs #[]) (hb:base≤g):A2O w base (.slice (some ⟨g,0,none⟩) 0 0) [] []:=⟨own_ofBlk h hb,by simp[Lim],AEls.nil _ _⟩
theorem A2O.one {g:Nat} {s1 s2:Value} {s:Asn} (hk:Blk w g tAs #[s1,s2]) (hg:base≤g) (h:AsnO w base (.agg #[s1,s2]) s):A2O w base (.slice (some ⟨g,0,none⟩) 1 1) [s1,s2] [s]:=
 ⟨own_of_blk hk hg rfl (fun j hj=>by
  match j,hj with
  | 0,_=>rfl
  | 1,_=>rfl) (Nat.le_refl _) (by decide) rfl,by simp[Lim],AEls.one h⟩
theorem A2O.form (h:A2O w base v vs ss):∃ A c,v=.slice A ss.length c:=by
 obtain ⟨A,c,e,-⟩:=own_reads h.row h.lim;exact ⟨A,c,e⟩
theorem A2O.und (h:A2O w base v vs ss):Und v w.heap.size:=fun g hg=>(h.row.lt g hg).2
theorem A2O.cat {w1:World} {v' v2:Value} (h:A2O w base v vs ss) (hb:Below w.heap.size w w1) (h2:A2O w1 mid v2 vs2 ss2) (hbm:base≤mid) (hm:w.heap.size≤mid) (hl:ss.length+ss2.length≤1049600)
  (hg:w1.grownBy w' v.ownBlock) (hr:w'.ownsRow base tAs 2 v' (ss.length+ss2.length) (vs++vs2)):A2O w' base v' (vs++vs2) (ss++ss2):=by
 have hrow:=own_below h.row hb;refine ⟨by rw[List.length_append];exact hr,by rw[List.length_append];exact hl,?_⟩;exact ((h.els.bz hb).grown hrow hg (by decide) (by decide)).cat (h2.els.grown hrow hg (by decide) (by decide)) hbm fun k hk=>(h.els.und k hk).mono hm
theorem RowO.one {w:World} {b:Nat} {v:Value} {r:RowT} (h:RowO w b v r):v.oneCell'=true:=by obtain ⟨A,c,rfl,-⟩:=h.rj;rfl
theorem AEls.one_cell (h:AEls w base vs ss):∀ u∈vs,u.oneCell'=true:=by
 intro u hu;obtain ⟨k,hk,rfl⟩:=List.getElem_of_mem hu;exact (h.at_ k hk (by rw[←h.len];exact hk)).one
def AsnsV (w:World) (lo hi:Nat) (A:Option Addr) (ss:List Asn):Prop:=
 ∃ vs:List Value,Rd w lo hi 2 A ss.length vs∧∀ (k:Nat) (h:k<vs.length) (h':k<(rowsA ss).length),∃ B c,vs[k]=.slice B (rlen (rowsA ss)[k]) c∧RowV w lo hi B (rowsA ss)[k]
theorem AsnsV.bz {lo hi:Nat} {A:Option Addr} (h:AsnsV w lo hi A ss) (hb:Below w.heap.size w w'):AsnsV w' lo hi A ss:=by
 obtain ⟨vs,h1,h2⟩:=h;exact ⟨vs,h1.bz hb,fun k a b=>by obtain ⟨B,c,e,h3⟩:=h2 k a b;exact ⟨B,c,e,h3.bz hb⟩⟩
theorem AsnsV.at {lo hi:Nat} {A:Option Addr} (h:AsnsV w lo hi A ss) {k:Nat} (hk:k<ss.length):∃ b o B c D d,A=some ⟨b,o,none⟩∧b<w.heap.size∧w.cell? ⟨b,o+k*2,none⟩=some (.slice B ss[k].facts.length c)∧w.cell? ⟨b,o+k*2+1,none⟩=some (.slice D ss[k].atoms.length d)∧FactsV w lo hi B ss[k].facts∧AtomsV w lo hi D ss[k].atoms:=by
 obtain ⟨vs,h1,h2⟩:=h;have hl:vs.length=ss.length * 2:=h1.raw.1;have hr:=rowsA_len ss;obtain ⟨b,o,e,-,-,hc⟩:=h1.raw.form (by omega);obtain ⟨g1,g2⟩:=rowsA_get ss k hk;obtain ⟨B,c,e1,v1⟩:=h2 (k*2) (by omega) (by omega);obtain ⟨D,d,e2,v2⟩:=h2 (k*2+1) (by omega) (by omega);have x1:(rowsA ss)[k*2]'(by omega)=.inl ss[k].facts:=by rw[List.getElem?_eq_getElem (by omega)] at g1;exact Option.some.inj g1
 have x2:(rowsA ss)[k*2+1]'(by omega)=.inr ss[k].atoms:=by rw[List.getElem?_eq_getElem (by omega)] at g2;exact Option.some.inj g2
 rw[x1] at e1 v1;rw[x2] at e2 v2;have c1:=hc (k*2) _ (List.getElem?_eq_getElem (by omega));have c2:=hc (k*2+1) _ (List.getElem?_eq_getElem (by omega));rw[e1] at c1;rw[e2] at c2;exact ⟨b,o,B,c,D,d,e,block_lt_of_cell c1,c1,c2,v1,v2⟩
theorem A2O.rj {A:Option Addr} {n c:Nat} (h:A2O w base (.slice A n c) vs ss):n=ss.length∧AsnsV w base w.heap.size A ss:=by
 obtain ⟨A',c',e,h1⟩:=own_reads h.row h.lim;injection e with e1 e2 e3;subst e1;refine ⟨e2,vs,h1,fun k a b=>?_⟩;obtain ⟨B,d,e,h3⟩:=(h.els.at_ k a b).rj;exact ⟨B,d,e,h3⟩
end
section
variable {w w':World} {lo hi a b:Nat} {v:Value} {ss:List Asn}
end
theorem A2O.at {w:World} {base n c k:Nat} {A:Option Addr} {vs:List Value} {ss:List Asn} (h:A2O w base (.slice A n c) vs ss) (hk:k<vs.length) (hr:k<(rowsA ss).length):∃ b o B d,A=some ⟨b,o,none⟩∧b<w.heap.size∧w.cell? ⟨b,o+k,none⟩=some (.slice B (rlen (rowsA ss)[k]) d)∧vs[k]=.slice B (rlen (rowsA ss)[k]) d:=by
 obtain ⟨A',c',e,h1⟩:=own_reads h.row h.lim;injection e with e1 e2 e3;subst e1;have hl:vs.length=ss.length * 2:=h1.raw.1;obtain ⟨b,o,e,-,-,hc⟩:=h1.raw.form (by omega);obtain ⟨B,d,e2,-⟩:=(h.els.at_ k hk hr).rj;have c1:=hc k _ (List.getElem?_eq_getElem hk);rw[e2] at c1;exact ⟨b,o,B,d,e,block_lt_of_cell c1,c1,e2⟩
theorem mkAs0 (n:Nat) (h:Lim n) (w:World):(Instr.makeSlice 83 (.int .i64 0) (.int .i64 (n:Int))).run Tryz.prog w=.ok (.slice (some ⟨w.heap.size,0,none⟩) 0 n) (w.alloc (.cells (madeCells #[.slice none 0 0,.slice none 0 0] (n * 2)) tAs)):=by
 obtain ⟨i,hi,hz,hs,hb⟩:=info_parts infoAs2;have:=run_make_rowN (P:=Tryz.prog) 83 tAs i _ Tryz.underlying83 hi hz .i64 .i64 0 n (Nat.zero_le _) (by rw[hb];unfold Lim at h;omega) (by unfold Lim at h;omega) w
 rwa [hs] at this
theorem madeAs (w:World) (n:Nat) (h:n≤1049600):(w.alloc (.cells (madeCells #[.slice none 0 0,.slice none 0 0] (n * 2)) tAs)).ownsRow w.heap.size tAs 2 (.slice (some ⟨w.heap.size,0,none⟩) 0 n) 0 []:=
 World.ownsRow_made w _ n (Nat.le_refl _) (by unfold maxLen;omega) (by rw[size_madeCells])
end
section
open Go Go.RowKit Go.Proofs
attribute [local go_sem ↓] Go.wp_at_zero Go.wp_at_succ
theorem expose_ok:∀ {n:Nat} {a:Asn} {t:Int} {K:Nat} {l:List Asn},exposeF n a t K=some l→l.length≤2 ^ n∧∀ b∈l,b.valid=true
 | 0,_,_,_,_,h=>by cases h
 | n+1,a,t,K,l,h=>by
  unfold exposeF at h
  split at h
  ·cases h
  ·split at h
   ·obtain rfl:=Option.some.inj h;simp
   ·split at h
    ·split at h
     ·rename_i hv;obtain rfl:=Option.some.inj h;refine ⟨by simp;exact Nat.one_le_two_pow,fun b hb=>?_⟩;obtain rfl:=List.mem_singleton.1 hb;exact hv
     ·cases h
    ·split at h
     ·cases h
     ·split at h
      ·cases h
      ·split at h
       ·cases h
       ·split at h
        ·cases h
        ·rename_i e1 _ _ e2;obtain rfl:=Option.some.inj h;have h1:=expose_ok e1;have h2:=expose_ok e2;refine ⟨by rw[List.length_append,Nat.pow_succ];omega,fun b hb=>?_⟩;rcases List.mem_append.1 hb with hb|hb
         ·exact h1.2 b hb
         ·exact h2.2 b hb
section
variable {ops:Array Oper} {o:Oper} {a:Act} {K:Act→World→Prop} {Q:Exit→Act→World→Prop} {E:Prop} {w:World} {base lo hi c n:Nat} {v:Value} {A:Option Addr}
end
theorem A2O.rd {w:World} {base n c:Nat} {A:Option Addr} {vs:List Value} {ss:List Asn} (h:A2O w base (.slice A n c) vs ss):Rd w base w.heap.size 2 A ss.length vs:=by
 obtain ⟨A',c',e,h1⟩:=own_reads h.row h.lim;injection e with e1 e2 e3;subst e1;exact h1
end
section
open Go Go.RowKit Go.Proofs
def forgetF (a:Asn) (x:Int) (K:Nat):Option (Asn×Int):=if (tset (mz a)).testBit x.toNat then (newT (tset (mz a)|||K)).map fun n=>(substA x (n:Int) a,(n:Int)) else some (a,x)
def setX (a:Asn) (x p t:Int):Asn:=⟨a.facts++[⟨true,x,swp x p t⟩],a.atoms⟩
def newX (a:Asn) (x:Int):Asn:=⟨a.facts,⟨1,x,0⟩ :: a.atoms⟩
def okX (a:Asn):Option Asn:=if a.valid then some a else none
def assignF (a:Asn) (x t:Int) (K:Nat):Option Asn:=(forgetF a x K).bind fun p=>okX (setX p.1 x p.2 t)
def cellNF (a:Asn) (x:Int) (K:Nat):Option Asn:=(forgetF a x K).bind fun p=>okX (newX p.1 x)
def head0 (a:Asn):Atm:=(a.atoms[0]?).getD default
def storeX (a:Asn) (B:Int):Asn:=⟨a.facts,a.atoms.set 0 ⟨(head0 a).kind,(head0 a).a,B⟩⟩
def freeX (a:Asn):Asn:=⟨a.facts,zv a.atoms 0⟩
def accF (k A B:Int) (a:Asn) (K:Nat):Option Asn:=if k=2 then assignF a A (head0 a).b K else if k=3 then some (storeX a B) else some (freeX a)
def mapF (f:Asn→Option Asn):List Asn→Option (List Asn)
 | []=>some []
 | x :: xs=>(f x).bind fun y=>(mapF f xs).map (y :: ·)
theorem mapF_spec {f:Asn→Option Asn}:∀ {xs ys:List Asn},mapF f xs=some ys→ys.length=xs.length∧∀ (k:Nat) (h:k<xs.length) (h':k<ys.length),f xs[k]=some ys[k]
 | [],ys,h=>by obtain rfl:=Option.some.inj h;exact ⟨rfl,fun k h=>absurd h (by simp)⟩
 | x :: xs,ys,h=>by
  unfold mapF at h;rw[Option.bind_eq_some_iff] at h;obtain ⟨y,h1,h2⟩:=h;rw[Option.map_eq_some_iff] at h2;obtain ⟨zs,h3,rfl⟩:=h2;obtain ⟨g1,g2⟩:=mapF_spec h3;refine ⟨by simp[g1],fun k k1 k2=>?_⟩
  cases k with
  | zero=>exact h1
  | succ k=>exact g2 k (by simpa using k1) (by simpa using k2)
def symT (k A B:Int):Int:=if k=2 then B else A
def symB (a:Asn) (k A B:Int) (K:Nat):Option (List Asn):=
 if k=1 then (if A=B then some [a] else (assignF a A B K).map fun x=>[x])
 else if k=4 then (cellNF a A K).map fun x=>[x]
 else (exposeF 7 a (symT k A B) K).bind fun l=>mapF (fun x=>accF k A B x K) l
def keepK (K:Nat) (A B:Int):Nat:=tins (tins K A) B
theorem okX_ok {a b:Asn} (h:okX a=some b):b.valid=true∧b=a:=by
 unfold okX at h
 split at h
 ·rename_i hv;obtain rfl:=Option.some.inj h;exact ⟨hv,rfl⟩
 ·cases h
theorem assignF_ok {a b:Asn} {x t:Int} {K:Nat} (h:assignF a x t K=some b):b.valid=true:=by
 unfold assignF at h;obtain ⟨p,-,h⟩:=Option.bind_eq_some_iff.1 h;exact (okX_ok h).1
theorem cellF_ok {a b:Asn} {x:Int} {K:Nat} (h:cellNF a x K=some b):b.valid=true:=by
 unfold cellNF at h;obtain ⟨p,-,h⟩:=Option.bind_eq_some_iff.1 h;exact (okX_ok h).1
theorem storeX_ok {a:Asn} (hv:a.valid=true) {B:Int} (hB:jq B=true):(storeX a B).valid=true:=by
 unfold storeX;simp only[Asn.valid,Bool.and_eq_true,List.length_set] at hv ⊢;refine ⟨hv.1,hv.2.1,List.all_eq_true.2 fun y hy=>?_⟩
 cases e:a.atoms with
 | nil=>rw[e] at hy;simp at hy
 | cons z zs=>
  have hz:=List.all_eq_true.1 hv.2.2 z (by rw[e];simp);have e0:head0 a=z:=by unfold head0;rw[e];rfl
  rcases List.mem_or_eq_of_mem_set hy with hy|rfl
  ·exact List.all_eq_true.1 hv.2.2 y hy
  ·simp only[Atm.valid,e0,hB] at hz ⊢;simp at hz ⊢;exact hz.1
theorem freeX_ok {a:Asn} (hv:a.valid=true):(freeX a).valid=true:=by
 unfold freeX zv;simp only[Asn.valid,Bool.and_eq_true,decide_eq_true_eq,List.take_zero,List.nil_append,List.length_drop] at hv ⊢;exact ⟨hv.1,by omega,List.all_eq_true.2 fun y hy=>List.all_eq_true.1 hv.2.2 y (List.mem_of_mem_drop hy)⟩
theorem accF_ok {k A B:Int} {a b:Asn} {K:Nat} (hv:a.valid=true) (hB:k=3→jq B=true) (h:accF k A B a K=some b):b.valid=true:=by
 unfold accF at h
 split at h
 ·exact assignF_ok h
 ·split at h
  ·rename_i h3;obtain rfl:=Option.some.inj h;exact storeX_ok hv (hB h3)
  ·obtain rfl:=Option.some.inj h;exact freeX_ok hv
theorem symB_ok {a:Asn} {k A B:Int} {K:Nat} {l:List Asn} (hv:a.valid=true) (hB:k=3→jq B=true) (h:symB a k A B K=some l):l.length≤128∧∀ b∈l,b.valid=true:=by
 unfold symB at h
 split at h
 ·split at h
  ·obtain rfl:=Option.some.inj h;exact ⟨by simp,fun b hb=>by rw[List.mem_singleton.1 hb];exact hv⟩
  ·obtain ⟨x,hx,rfl⟩:=Option.map_eq_some_iff.1 h;exact ⟨by simp,fun b hb=>by rw[List.mem_singleton.1 hb];exact assignF_ok hx⟩
 ·split at h
  ·obtain ⟨x,hx,rfl⟩:=Option.map_eq_some_iff.1 h;exact ⟨by simp,fun b hb=>by rw[List.mem_singleton.1 hb];exact cellF_ok hx⟩
  ·obtain ⟨l0,h0,h⟩:=Option.bind_eq_some_iff.1 h;obtain ⟨g1,g2⟩:=mapF_spec h;have h1:=expose_ok h0;refine ⟨by rw[g1];exact h1.1,fun b hb=>?_⟩;obtain ⟨j,hj,rfl⟩:=List.mem_iff_getElem.1 hb;exact accF_ok (h1.2 _ (List.getElem_mem (by omega))) hB (g2 j (by omega) hj)
end
section
open Go Go.RowKit Go.Proofs
attribute [local go_sem ↓] Go.wp_at_zero Go.wp_at_succ
theorem AsnV.mono0 {w:World} {lo hi:Nat} {v:Value} {a:Asn} (h:AsnV w lo hi v a) (hh:hi≤w.heap.size):AsnV w 0 w.heap.size v a:=by
 obtain ⟨A1,c1,A2,c2,e,h1,h2⟩:=h;exact ⟨A1,c1,A2,c2,e,h1.mono (Nat.zero_le _) hh,h2.mono (Nat.zero_le _) hh⟩
theorem A2O.atC {w:World} {base n c:Nat} {A:Option Addr} {vs:List Value} {ss:List Asn} (h:A2O w base (.slice A n c) vs ss) {k:Nat} (hk:k<ss.length):∃ b o B c D d,A=some ⟨b,o,none⟩∧b<w.heap.size∧w.cell? ⟨b,o+k*2,none⟩=some (.slice B ss[k].facts.length c)∧w.cell? ⟨b,o+k*2+1,none⟩=some (.slice D ss[k].atoms.length d)∧AsnC w base w.heap.size (.agg #[.slice B ss[k].facts.length c,.slice D ss[k].atoms.length d]) ss[k]:=by
 have h1:=h.rd;have hl:vs.length=ss.length * 2:=h1.raw.1;have hr:=rowsA_len ss;obtain ⟨b,o,e,-,-,hc⟩:=h1.raw.form (by omega);obtain ⟨g1,g2⟩:=rowsA_get ss k hk;have r1:=h.els.at_ (k*2) (by omega) (by omega);have r2:=h.els.at_ (k*2+1) (by omega) (by omega);have x1:(rowsA ss)[k*2]'(by omega)=.inl ss[k].facts:=by rw[List.getElem?_eq_getElem (by omega)] at g1;exact Option.some.inj g1
 have x2:(rowsA ss)[k*2+1]'(by omega)=.inr ss[k].atoms:=by rw[List.getElem?_eq_getElem (by omega)] at g2;exact Option.some.inj g2
 rw[x1] at r1;rw[x2] at r2;have c1:=hc (k*2) _ (List.getElem?_eq_getElem (by omega));have c2:=hc (k*2+1) _ (List.getElem?_eq_getElem (by omega));have r1:FactsO w base vs[k*2] ss[k].facts:=r1;have r2:AtomsO w base vs[k*2+1] ss[k].atoms:=r2;obtain ⟨B,c,e1,-⟩:=r1.rj;obtain ⟨D,d,e2,-⟩:=r2.rj;rw[e1] at c1 r1;rw[e2] at c2 r2;exact ⟨b,o,B,c,D,d,e,block_lt_of_cell c1,c1,c2,AsnO.C ⟨_,_,rfl,r1,r2⟩⟩
end
section
open Go Go.RowKit Go.Proofs
theorem noFct_cases (t:Fct):t=⟨false,0,0⟩∨(t.eq=true∧noFct t=false)∨(t.eq=false∧t.a≠0∧noFct t=false)∨(t.eq=false∧t.a=0∧t.b≠0∧noFct t=false):=by
 obtain ⟨q,a,b⟩:=t;simp only[noFct,Fct.mk.injEq];cases q
 ·by_cases ha:a=0
  ·by_cases hb:b=0
   ·simp[ha,hb]
   ·simp[ha,hb]
  ·simp[ha]
 ·simp
/- a basic command that is not plain -/
theorem fields_no {lo hi:Nat} (k a b:Int) (t:Fct) (i:Asn) (A1 A2 A3 A4:Option Addr) (c1 c2 c3 c4:Nat) (body els:Cms) (w:World) (hA:AsnV w lo hi (.agg #[.slice A1 i.facts.length c1,.slice A2 i.atoms.length c2]) i) (h3:body.len≤1049600) (h4:els.len≤1049600) (hk:1≤k∧k≤5) (hn:plainB t i body els=false) :
  Calls Tryz.prog 212 #[.agg #[.int .i64 k,.int .i64 a,.int .i64 b,.bool t.eq,.int .i64 t.a,.int .i64 t.b,.slice A1 i.facts.length c1,.slice A2 i.atoms.length c2,.slice A3 body.len c3,.slice A4 els.len c4]] w fun e w'=>e=.returned (.bool false)∧Below w.heap.size w w':=by
 have h1:i.facts.length≤1049600:=by obtain ⟨_,_,_,_,e,g1,g2⟩:=hA;exact g1.le
 have h2:i.atoms.length≤1049600:=by obtain ⟨_,_,_,_,e,g1,g2⟩:=hA;exact g2.le
 have hkb:basicB k=true:=by simp[basicB,hk]
 replace hkb:=ax hkb;clear hA hk;obtain ⟨y,hy⟩:∃ y,y=noAsn i:=⟨_,rfl⟩;replace hy:=ax hy;obtain rfl|⟨u1,-⟩|⟨u1,u2,-⟩|⟨u1,u2,u3,-⟩:=noFct_cases t
 case' inr.inl=>rw[u1];clear u1
 case' inr.inr.inl=>rw[u1];clear u1
 case' inr.inr.inr=>rw[u1,u2];clear u1 u2
 case inl=>
  have hn':(y&&(decide (body.len=0)&&decide (els.len=0)))=false:=by rw[hy.o];simpa[plainB,noFct] using hn
  clear hn;replace hn':=ax hn';(go_enter Tryz.func212,Tryz.ntmps212);(go_wp2_with fail);refine (c_impl_isBasic k a b ⟨false,0,0⟩ _ _ _ _ _).mono ?_;rintro e w1 ⟨rfl,hB1⟩;rw[hkb.o];have hB:=bgo (w:=w) bel hB1;have K0:=(Blk.nz (g:=w.heap.size) (Blk.new w _ _) hB1);have q0:=K0.cell;have l0:=K0.lt;clear hB1;(go_wp2_with fail);refine (c_impl_noAssertion A1 A2 c1 c2 i _ h1 h2).mono ?_;rintro e w2 ⟨rfl,hB2⟩;rw[←hy.o];have hBB:=bgo hB hB2;have K1:=K0.nz hB2;clear q0 l0 hB2;have q0:=K1.cell;have l0:=K1.lt;cases y
  ·(go_wp2_with fail);go_ret;exact ⟨zjD rfl,hBB⟩
  by_cases z1:body.len=0
  case neg=>
   have z1':0<body.len:=by omega
   (go_wp2_with fail);go_ret;exact ⟨zjD rfl,hBB⟩
  by_cases z2:els.len=0
  case neg=>
   have z2':0<els.len:=by omega
   (go_wp2_with fail);go_ret;exact ⟨zjD rfl,hBB⟩
  exact absurd hn'.o (by simp[z1,z2])
 case inr.inl=>
  clear hn;(go_enter Tryz.func212,Tryz.ntmps212);(go_wp2_with fail);refine (c_impl_isBasic k a b ⟨true,t.a,t.b⟩ _ _ _ _ _).mono ?_;rintro e w1 ⟨rfl,hB1⟩;rw[hkb.o];have hB:=bgo (w:=w) bel hB1;have K0:=(Blk.nz (g:=w.heap.size) (Blk.new w _ _) hB1);have q0:=K0.cell;have l0:=K0.lt;clear hB1;(go_wp2_with fail);go_ret;exact ⟨zjD rfl,hB⟩
 case inr.inr.inl=>
  clear hn;(go_enter Tryz.func212,Tryz.ntmps212);(go_wp2_with fail);refine (c_impl_isBasic k a b ⟨false,t.a,t.b⟩ _ _ _ _ _).mono ?_;rintro e w1 ⟨rfl,hB1⟩;rw[hkb.o];have hB:=bgo (w:=w) bel hB1;have K0:=(Blk.nz (g:=w.heap.size) (Blk.new w _ _) hB1);have q0:=K0.cell;have l0:=K0.lt;clear hB1;(go_wp2_with fail);go_ret;exact ⟨zjD rfl,hB⟩
 case inr.inr.inr=>
  clear hn;(go_enter Tryz.func212,Tryz.ntmps212);(go_wp2_with fail);refine (c_impl_isBasic k a b ⟨false,0,t.b⟩ _ _ _ _ _).mono ?_;rintro e w1 ⟨rfl,hB1⟩;rw[hkb.o];have hB:=bgo (w:=w) bel hB1;have K0:=(Blk.nz (g:=w.heap.size) (Blk.new w _ _) hB1);have q0:=K0.cell;have l0:=K0.lt;clear hB1;(go_wp2_with fail);go_ret;exact ⟨zjD rfl,hB⟩
theorem fields_yes {lo hi:Nat} (k a b:Int) (t:Fct) (i:Asn) (A1 A2 A3 A4:Option Addr) (c1 c2 c3 c4:Nat) (body els:Cms) (w:World) (hA:AsnV w lo hi (.agg #[.slice A1 i.facts.length c1,.slice A2 i.atoms.length c2]) i) (h3:body.len≤1049600) (h4:els.len≤1049600) (hk:1≤k∧k≤5) (hn:plainB t i body els=true) :
  Calls Tryz.prog 212 #[.agg #[.int .i64 k,.int .i64 a,.int .i64 b,.bool t.eq,.int .i64 t.a,.int .i64 t.b,.slice A1 i.facts.length c1,.slice A2 i.atoms.length c2,.slice A3 body.len c3,.slice A4 els.len c4]] w fun e w'=>e=.returned (.bool (fieldsB k a b))∧Below w.heap.size w w':=by
 have h1:i.facts.length≤1049600:=by obtain ⟨_,_,_,_,e,g1,g2⟩:=hA;exact g1.le
 have h2:i.atoms.length≤1049600:=by obtain ⟨_,_,_,_,e,g1,g2⟩:=hA;exact g2.le
 have hkb:basicB k=true:=by simp[basicB,hk]
 replace hkb:=ax hkb;replace hk:=ax hk;clear hA;have hn':noFct t=true∧noAsn i=true∧body.len=0∧els.len=0:=by simpa[plainB] using hn
 obtain ⟨e1,e2,e3,e4⟩:=hn';rw[e3,e4];clear hn e3 e4;obtain rfl:t=⟨false,0,0⟩:=by simpa[noFct] using e1
 clear e1;replace e2:=ax e2;obtain ⟨R,hR⟩:∃ R,R=fieldsB k a b:=⟨_,rfl⟩;rw[←hR];unfold fieldsB at hR;obtain ⟨pa,hpa⟩:∃ pa,pa=isProgB a:=⟨_,rfl⟩;obtain ⟨ta,hta⟩:∃ ta,ta=jq a:=⟨_,rfl⟩;obtain ⟨tb,htb⟩:∃ tb,tb=jq b:=⟨_,rfl⟩;rw[←hpa,←hta,←htb] at hR;replace hpa:=ax hpa;replace hta:=ax hta;replace htb:=ax htb;replace hR:=ax hR;(go_enter Tryz.func212,Tryz.ntmps212);(go_wp2_with fail);refine (c_impl_isBasic k a b ⟨false,0,0⟩ _ _ _ _ _).mono ?_;rintro e w1 ⟨rfl,hB1⟩;rw[hkb.o];have hB:=bgo (w:=w) bel hB1;have K0:=(Blk.nz (g:=w.heap.size) (Blk.new w _ _) hB1);have q0:=K0.cell;have l0:=K0.lt;(go_wp2_with fail);refine (c_impl_noAssertion A1 A2 c1 c2 i _ h1 h2).mono ?_;rintro e w2 ⟨rfl,hB2⟩;rw[e2.o];have hBB:=bgo hB hB2;have K1:=K0.nz hB2;clear q0 l0;have q0:=K1.cell;have l0:=K1.lt;by_cases k1:k=1∨k=2
 ·have hR2:=ax (show R=(pa&&tb) from by rw[hR.o,if_pos k1]);clear hR;rcases k1 with rfl|rfl
  all_goals
   cases pa
   all_goals
    cases tb
    all_goals
     (go_wp2_with (first|(go_at_call 105;refine (c_impl_isProgramVar a _).mono ?_;rintro e w' ⟨rfl,rfl⟩;rw[←hpa.o])|(go_at_call 151;refine (c_impl_isTerm b _).mono ?_;rintro e w' ⟨rfl,rfl⟩;rw[←htb.o])));go_ret;exact ⟨zjD (by rw[hR2.o];rfl),hBB⟩
 by_cases k3:k=3
 ·have hR2:=ax (show R=(ta&&tb) from by rw[hR.o,if_neg k1,if_pos k3]);clear hR;subst k3;clear k1;cases ta
  all_goals
   cases tb
   all_goals
    (go_wp2_with (first|(go_at_call 151;refine (c_impl_isTerm a _).mono ?_;rintro e w' ⟨rfl,rfl⟩;rw[←hta.o])|(go_at_call 151;refine (c_impl_isTerm b _).mono ?_;rintro e w' ⟨rfl,rfl⟩;rw[←htb.o])));go_ret;exact ⟨zjD (by rw[hR2.o];rfl),hBB⟩
 by_cases k4:k=4
 ·have hR2:=ax (show R=(pa&&decide (b=0)) from by rw[hR.o,if_neg k1,if_neg k3,if_pos k4]);clear hR;subst k4;clear k1 k3;cases pa
  all_goals
   by_cases b0:b=0
   all_goals
    have hb0:=ax b0;(go_wp2_with (go_at_call 105;refine (c_impl_isProgramVar a _).mono ?_;rintro e w' ⟨rfl,rfl⟩;rw[←hpa.o]));go_ret;exact ⟨zjD (by rw[hR2.o];first|rfl|(simp_all)),hBB⟩
 obtain rfl:k=5:=by have:=hk.o;omega
 have hR2:=ax (show R=(ta&&decide (b=0)) from by rw[hR.o,if_neg k1,if_neg k3,if_neg k4,if_pos rfl]);clear hR k1 k3 k4;cases ta
 all_goals
  by_cases b0:b=0
  all_goals
   have hb0:=ax b0;(go_wp2_with (go_at_call 151;refine (c_impl_isTerm a _).mono ?_;rintro e w' ⟨rfl,rfl⟩;rw[←hta.o]));go_ret;exact ⟨zjD (by rw[hR2.o];first|rfl|(simp_all)),hBB⟩
theorem fields_far {lo hi:Nat} (k a b:Int) (t:Fct) (i:Asn) (A1 A2 A3 A4:Option Addr) (c1 c2 c3 c4:Nat) (body els:Cms) (w:World) (hA:AsnV w lo hi (.agg #[.slice A1 i.facts.length c1,.slice A2 i.atoms.length c2]) i) (h3:body.len≤1049600) (h4:els.len≤1049600) (hk:¬(1≤k∧k≤5)) :
  Calls Tryz.prog 212 #[.agg #[.int .i64 k,.int .i64 a,.int .i64 b,.bool t.eq,.int .i64 t.a,.int .i64 t.b,.slice A1 i.facts.length c1,.slice A2 i.atoms.length c2,.slice A3 body.len c3,.slice A4 els.len c4]] w fun e w'=>e=.returned (.bool (fvalB k a b t i body els))∧Below w.heap.size w w':=by
 have h1:i.facts.length≤1049600:=by obtain ⟨_,_,_,_,e,g1,g2⟩:=hA;exact g1.le
 have h2:i.atoms.length≤1049600:=by obtain ⟨_,_,_,_,e,g1,g2⟩:=hA;exact g2.le
 have hkb:basicB k=false:=by simp[basicB];omega
 replace hkb:=ax hkb;obtain ⟨F,hF⟩:∃ F,F=fvalB k a b t i body els:=⟨_,rfl⟩;rw[←hF];obtain ⟨tv,htv⟩:∃ x,x=t.valid:=⟨_,rfl⟩;obtain ⟨ni,hni⟩:∃ x,x=noAsn i:=⟨_,rfl⟩;obtain ⟨iv,hiv⟩:∃ x,x=i.valid:=⟨_,rfl⟩;replace htv:=ax htv;replace hni:=ax hni;replace hiv:=ax hiv;replace hF:=ax hF;replace hA:=ax hA;(go_enter Tryz.func212,Tryz.ntmps212);(go_wp2_with fail);refine (c_impl_isBasic k a b t _ _ _ _ _).mono ?_;rintro e w1 ⟨rfl,hB1⟩;rw[hkb.o];have hB:=bgo (w:=w) bel hB1;have K0:=(Blk.nz (g:=w.heap.size) (Blk.new w _ _) hB1);have q0:=K0.cell;have l0:=K0.lt;clear hB1;by_cases k6:k=6
 ·subst k6;clear hk;by_cases a0:a=0
  case neg=>
   (go_wp2_with fail);go_ret;exact ⟨zjD (hF.o.trans (by unfold fvalB;rw[if_pos rfl];simp[a0])).symm,hB⟩
  subst a0;by_cases b0:b=0
  case neg=>
   (go_wp2_with fail);go_ret;exact ⟨zjD (hF.o.trans (by unfold fvalB;rw[if_pos rfl];simp[b0])).symm,hB⟩
  subst b0;(go_wp2_with fail);refine (c_impl_FactValid t _).mono ?_;rintro e w2 ⟨rfl,hBx⟩;rw[←htv.o];replace hB:=bgo hB hBx;replace K0:=K0.nz hBx;replace q0:=K0.cell;replace l0:=K0.lt;clear hBx;cases tv
  case false=>
   (go_wp2_with fail);go_ret;exact ⟨zjD (hF.o.trans (by unfold fvalB;rw[if_pos rfl];simp[←htv.o])).symm,hB⟩
  (go_wp2_with fail);refine (c_impl_noAssertion A1 A2 c1 c2 i _ h1 h2).mono ?_;rintro e w3 ⟨rfl,hBx⟩;rw[←hni.o];replace hB:=bgo hB hBx;replace K0:=K0.nz hBx;replace q0:=K0.cell;replace l0:=K0.lt;clear hBx;have HFF:=ax (show F=ni from hF.o.trans (by unfold fvalB;rw[if_pos rfl];simp[←htv.o,←hni.o]));(go_wp2_with fail);go_ret;exact ⟨zjD HFF.o.symm,hB⟩
 by_cases k7:k=7
 ·subst k7;clear hk;by_cases a0:a=0
  case neg=>
   (go_wp2_with fail);go_ret;exact ⟨zjD (hF.o.trans (by unfold fvalB;rw[if_neg (by decide),if_pos rfl];simp[a0])).symm,hB⟩
  subst a0;by_cases b0:b=0
  case neg=>
   (go_wp2_with fail);go_ret;exact ⟨zjD (hF.o.trans (by unfold fvalB;rw[if_neg (by decide),if_pos rfl];simp[b0])).symm,hB⟩
  subst b0;(go_wp2_with fail);refine (c_impl_FactValid t _).mono ?_;rintro e w2 ⟨rfl,hBx⟩;rw[←htv.o];replace hB:=bgo hB hBx;replace K0:=K0.nz hBx;replace q0:=K0.cell;replace l0:=K0.lt;clear hBx;cases tv
  case false=>
   (go_wp2_with fail);go_ret;exact ⟨zjD (hF.o.trans (by unfold fvalB;rw[if_neg (by decide),if_pos rfl];simp[←htv.o])).symm,hB⟩
  (go_wp2_with fail);refine (jz _ i _ (hA.o.bz hB)).mono ?_;rintro e w3 ⟨rfl,hBx⟩;rw[←hiv.o];replace hB:=bgo hB hBx;replace K0:=K0.nz hBx;replace q0:=K0.cell;replace l0:=K0.lt;clear hBx;cases iv
  case false=>
   (go_wp2_with fail);go_ret;exact ⟨zjD (hF.o.trans (by unfold fvalB;rw[if_neg (by decide),if_pos rfl];simp[←hiv.o])).symm,hB⟩
  have HFF:=ax (show F=decide (els.len=0) from hF.o.trans (by unfold fvalB;rw[if_neg (by decide),if_pos rfl];simp[←htv.o,←hiv.o]));by_cases e0:els.len=0
  all_goals
   have He0:=ax e0;(go_wp2_with fail);go_ret;exact ⟨zjD (by rw[HFF.o];first|rfl|(simp_all)),hB⟩
 have HFF:aJ (F=false):=by
  rw[aJ,hF.o,fvalB_basic k6 k7]
  have:fieldsB k a b=false:=by
   cases h:fieldsB k a b
   ·rfl
   ·exact absurd (fieldsB_basic h) hk
  rw[this,Bool.and_false]
 have kk1:k≠1:=fun e=>hk (by omega);have kk2:k≠2:=fun e=>hk (by omega);have kk3:k≠3:=fun e=>hk (by omega);have kk4:k≠4:=fun e=>hk (by omega);have kk5:k≠5:=fun e=>hk (by omega);clear hk;(go_wp2_with fail);go_ret;exact ⟨zjD HFF.o.symm,hB⟩
theorem c_impl_fieldsValid {lo hi:Nat} (k a b:Int) (t:Fct) (i:Asn) (A1 A2 A3 A4:Option Addr) (c1 c2 c3 c4:Nat) (body els:Cms) (w:World) (hA:AsnV w lo hi (.agg #[.slice A1 i.facts.length c1,.slice A2 i.atoms.length c2]) i) (h3:body.len≤1049600) (h4:els.len≤1049600) :
  Calls Tryz.prog 212 #[.agg #[.int .i64 k,.int .i64 a,.int .i64 b,.bool t.eq,.int .i64 t.a,.int .i64 t.b,.slice A1 i.facts.length c1,.slice A2 i.atoms.length c2,.slice A3 body.len c3,.slice A4 els.len c4]] w fun e w'=>e=.returned (.bool (fvalB k a b t i body els))∧Below w.heap.size w w':=by
 by_cases hk:1≤k∧k≤5
 ·rw[fvalB_basic (by omega) (by omega)];cases hn:plainB t i body els
  ·exact fields_no k a b t i A1 A2 A3 A4 c1 c2 c3 c4 body els w hA h3 h4 hk hn
  ·exact fields_yes k a b t i A1 A2 A3 A4 c1 c2 c3 c4 body els w hA h3 h4 hk hn
 ·exact fields_far k a b t i A1 A2 A3 A4 c1 c2 c3 c4 body els w hA h3 h4 hk
theorem idx2 (A B:Option Addr) (n m c d:Nat) (w:World):(Instr.index 245 (.agg #[.slice A n c,.slice B m d]) (.int .i64 0)).run Tryz.prog w=.ok (.slice A n c) w∧(Instr.index 245 (.agg #[.slice A n c,.slice B m d]) (.int .i64 1)).run Tryz.prog w=.ok (.slice B m d) w:=by
 have h:=Tryz.underlying245
 constructor<;>simp[Instr.index,run_underlying h,asIntOf,go_sem]
def cvB (L:Cms) (d:Nat) (room:Int):Bool:=L.shape d&&decide ((L.sz:Int)≤room)
def cvN (L:Cms) (d:Nat) (room:Int):Int:=if cvB L d room then L.sz else 0
theorem cvN_true {L:Cms} {d:Nat} {room:Int} (h:cvB L d room=true):cvN L d room=L.sz:=by unfold cvN;rw[if_pos h]
theorem cvN_false {L:Cms} {d:Nat} {room:Int} (h:cvB L d room=false):cvN L d room=0:=by unfold cvN;rw[h];rfl
theorem countValid_go:∀ (N:Nat) (L:Cms),L.sz<N→∀ (A:Option Addr) (c d lo hi:Nat) (D room:Int) (w:World),CmsV w lo hi A L→L.len≤1049600→L.small 1049600→D+d=5→1≤D→0≤room→room≤16→
  Calls Tryz.prog 157 #[.slice A L.len c,.int .i64 D,.int .i64 room] w fun e w'=>e=.returned (.tuple #[.int .i64 (cvN L d room),.bool (cvB L d room)])∧Below w.heap.size w w':=by
 intro N
 induction N with
 | zero=>intro L h;omega
 | succ N IH=>
  intro L hsz A c d lo hi D room w hV hlen hsm hD hD1 hr0 hr1;replace IH:=ax IH;replace hV:=ax hV;replace hsm:=ax hsm;replace hsz:=ax hsz;obtain ⟨n,hn⟩:∃ n,n=L.len:=⟨_,rfl⟩;obtain ⟨T,hT⟩:∃ T,T=cvN L d room:=⟨_,rfl⟩;obtain ⟨R,hR⟩:∃ R,R=cvB L d room:=⟨_,rfl⟩;have hno:R=false→T=0:=fun h=>by rw[hT];exact cvN_false (by rw[←hR];exact h)
  have hyes:R=true→T=L.sz:=fun h=>by rw[hT];exact cvN_true (by rw[←hR];exact h)
  rw[←hn,←hR,←hT];rw[←hn] at hlen;replace hn:=ax hn;replace hR:=ax hR;replace hno:=ax hno;replace hyes:=ax hyes;replace hD:=ax hD;clear hT;by_cases q1:room<n
  ·have e0:R=false:=by
    rw[hR.o,cvB,Bool.and_eq_false_iff];right;have:=Cms.len_sz L;have h2:=hn.o;simp;omega
   rw[e0,hno.o e0];(go_enter Tryz.func157,Tryz.ntmps157);(go_wp2_with fail);go_ret2;exact ⟨rfl,bel⟩
  by_cases q2:0<n
  case' neg=>
   obtain rfl:n=0:=by omega
   have e1:L=.nil:=by
    have:=hn.o
    cases L with
    | nil=>rfl
    | cons=>simp[Cms.len] at this
  case' pos=>
   by_cases q3:4<D
   ·have e0:R=false:=by
     rw[hR.o,cvB,Bool.and_eq_false_iff];left;obtain ⟨k,a,b,t,i,body,els,r,eL⟩:=Cms.cons_of_len (L:=L) (by rw[←hn.o];exact q2);obtain rfl:d=0:=by have:=hD.o;omega
     rw[eL];rfl
    rw[e0,hno.o e0];(go_enter Tryz.func157,Tryz.ntmps157);(go_wp2_with fail);go_ret2;exact ⟨rfl,bel⟩
   have hd1:aJ (1≤d):=by have:=hD.o;show 1≤d;omega
  case neg=>
   have e0:R=true:=by rw[hR.o,e1];simp[cvB,Cms.shape,Cms.sz,hr0]
   have e2:T=0:=by rw[hyes.o e0,e1];rfl
   rw[e0,e2];clear e1 e0 e2;(go_enter Tryz.func157,Tryz.ntmps157);(go_wp2_with fail)
   go_loopw [8,32] (fun m x wr=>m=.int .i64 0∧x=.int .i64 0∧Below w.heap.size w wr) (fun _ _ _=>0)
   case atStart=>exact ⟨rfl,rfl,bel⟩
   case round=>
    obtain ⟨rfl,rfl,hB⟩:=hrel;(go_wp2_with fail);go_ret2;exact ⟨rfl,hB⟩
  (go_enter Tryz.func157,Tryz.ntmps157);(go_wp2_with fail)
  go_loopw [8,32] (fun y x wr=>∃ j m:Nat,j≤n∧x=.int .i64 j∧y=.int .i64 m∧(m:Int)≤room∧aJ (m+(L.drop j).sz=L.sz+(L.drop j).len)∧aJ (L.shape d=(L.drop j).shape d)∧Below w.heap.size w wr) (fun _ x _=>n - (intOf x).toNat)
  case atStart=>exact ⟨0,n,Nat.zero_le _,rfl,rfl,by omega,ax (by have:=hn.o;show n+L.sz=L.sz+L.len;omega),ax rfl,bel⟩
  case round=>
   obtain ⟨j,m,hj,rfl,rfl,hm,HZ,HR,hB⟩:=hrel;by_cases hlt:j<n
   ·have hpos:0<(L.drop j).len:=by rw[Cms.drop_len,←hn.o];omega
    obtain ⟨k,a,b,t,i,body,els,r,eL⟩:=Cms.cons_of_len hpos;obtain ⟨bl,o,rfl,-,-,hAt⟩:=(hV.o.bz hB) (by rw[←hn.o];omega);have hDr:=hAt.drop j;have hS:=Cms.small_drop j hsm.o;have hZ:=Cms.sz_drop j L;have hDs:=Cms.drop_succ j L eL;have HR':=HR.o;have HZ':=HZ.o;rw[eL] at hDr hS hZ HR' HZ';obtain ⟨⟨p0,p1,p2,p3,p4,p5⟩,⟨A6,c6,p6,g6⟩,⟨A7,c7,p7,g7⟩,⟨A8,c8,p8,g8⟩,⟨A9,c9,p9,g9⟩,-⟩:=hDr;obtain ⟨s1,s2,s3,s4,s5,s6,-⟩:=hS;simp only[Cms.sz] at hZ;simp only[Cms.sz,Cms.len] at HZ';have hbs:body.sz<N:=by have:=hsz.o;omega
    have hes:els.sz<N:=by have:=hsz.o;omega
    have hrl:=Cms.len_sz r;have gA:AsnV wr lo hi (.agg #[.slice A6 i.facts.length c6,.slice A7 i.atoms.length c7]) i:=⟨_,_,_,_,rfl,⟨g6,s1⟩,⟨g7,s2⟩⟩;have gB:aJ (CmsV wr lo hi A8 body):=g8;have gE:aJ (CmsV wr lo hi A9 els):=g9;obtain ⟨e,rfl⟩:∃ e,d=e+1:=⟨d - 1,by have:=hd1.o;omega⟩;rw[Cms.shape.eq_2,decide_eq_true (by omega),Bool.true_and,Nat.add_sub_cancel,←hDs] at HR';obtain ⟨F,hF⟩:∃ F,F=fvalB k a b t i body els:=⟨_,rfl⟩;rw[←hF] at HR';have f1:F=false→R=false:=fun h=>by rw[hR.o,cvB,HR',h];rfl
    have f2:cvB body e (room - m)=false→R=false:=fun h=>by
     rw[cvB,Bool.and_eq_false_iff] at h;rw[hR.o,cvB,Bool.and_eq_false_iff];rcases h with h|h
     ·left;rw[HR',h];simp
     ·right;simp at h ⊢;omega
    have f3:cvB els e (room - ((m+body.sz:Nat):Int))=false→R=false:=fun h=>by
     rw[cvB,Bool.and_eq_false_iff] at h;rw[hR.o,cvB,Bool.and_eq_false_iff];rcases h with h|h
     ·left;rw[HR',h];simp
     ·right;simp at h ⊢;omega
    have t2:cvB body e (room - m)=true→body.shape e=true∧(body.sz:Int)≤room - m:=fun h=>by simpa[cvB] using h
    have t3:cvB els e (room - ((m+body.sz:Nat):Int))=true→els.shape e=true∧(els.sz:Int)≤room - ((m+body.sz:Nat):Int):=fun h=>by simpa[cvB] using h
    replace f1:=ax f1;replace f2:=ax f2;replace f3:=ax f3;replace t2:=ax t2;replace t3:=ax t3;replace HR':=ax HR';replace HZ':=ax HZ';replace hbs:=ax hbs;replace hes:=ax hes;replace s5:=ax s5;replace s6:=ax s6;replace gA:=ax gA;replace hF:=ax hF;replace hDs:=ax hDs;replace hrl:=ax hrl;clear hZ hpos hAt g6 g7 g8 g9 HR HZ eL;(go_wp2_with fail);refine (c_impl_fieldsValid k a b t i A6 A7 A8 A9 c6 c7 c8 c9 body els _ (gA.o.bz bel) s3 s4).mono ?_;rintro e' w1 ⟨rfl,hBx⟩;rw[←hF.o];have hB2:Below w.heap.size w w1:=bgo (bbox hB _) hBx;have hW:Below wr.heap.size wr w1:=bgo (bbox (Below.refl _ _) _) hBx;have k0:Blk w1 wr.heap.size tC #[.int .i64 k,.int .i64 a,.int .i64 b,.bool t.eq,.int .i64 t.a,.int .i64 t.b,.slice A6 i.facts.length c6,.slice A7 i.atoms.length c7,.slice A8 body.len c8,.slice A9 els.len c9]:=Blk.nz blks hBx;have q0:=k0.cell;have l0:=k0.lt;clear hBx gA p0 p1 p2 p3 p4 p5 p6 p7 p8 p9 k0;cases F
    ·have e0:=ax (f1.o (by simp));(go_wp2_with fail);go_ret2;exact ⟨by rw[e0.o,hno.o e0.o];rfl,hB2⟩
    have gB:=ax (gB.o.bz hW);have gE:=ax (gE.o.bz hW);clear hW hB;(go_wp2_with fail);clear q0 l0
    go_loopw [8,44] (fun y x wx=>∃ (q:Int) (m2:Nat),x=.int .i64 q∧y=.int .i64 m2∧(m2:Int)≤room∧aJ ((q=0∧m2=m)∨(q=1∧m2=m+body.sz∧body.shape e=true)∨(q=2∧m2=m+body.sz+els.sz∧body.shape e=true∧els.shape e=true))∧Below w1.heap.size w1 wx) (fun _ x _=>2 - (intOf x).toNat)
    case atStart=>exact ⟨0,m,rfl,rfl,hm,ax (.inl ⟨rfl,rfl⟩),Below.refl _ _⟩
    case round=>
     obtain ⟨q,m2,rfl,rfl,hm2,HQ,hBi⟩:=hrel;obtain ⟨hi0,hi1⟩:=idx2 A8 A9 body.len els.len c8 c9 wr;rcases HQ.o with ⟨rfl,rfl⟩|⟨rfl,rfl,y1⟩|⟨rfl,rfl,y1,y2⟩
     ·clear HQ;(go_wp2_with fail);refine (IH.o body hbs.o A8 c8 e lo hi (D+1) (room - m2) _ (gB.o.bz hBi) s3 s5.o (by have:=hD.o;omega) (by omega) (by omega) (by omega)).mono ?_;rintro e' w2 ⟨rfl,hBx⟩;have hB3:=bgo hB2 (bgo hBi hBx);have hB4:=bgo hBi hBx;clear hBx;obtain ⟨T1,hT1⟩:∃ x,x=cvN body e (room - m2):=⟨_,rfl⟩;obtain ⟨x1,hx1⟩:∃ x,x=cvB body e (room - m2):=⟨_,rfl⟩;have g1:x1=true→T1=body.sz:=fun h=>by rw[hT1];exact cvN_true (by rw[←hx1];exact h)
      rw[←hT1,←hx1];replace hx1:=ax hx1;replace g1:=ax g1;clear hT1;cases x1
      ·have e0:=ax (f2.o hx1.o.symm);(go_wp2_with fail);go_ret2;exact ⟨by rw[e0.o,hno.o e0.o];rfl,hB3⟩
      ·have T2:=t2.o hx1.o.symm;obtain rfl:=g1.o (by simp);have T2a:=ax T2.1;have T2b:=T2.2;clear T2;(go_wp2_with fail)
       go_round
       case rel=>exact ⟨1,m2+body.sz,by go_num,by push_cast;rfl,by push_cast;omega,ax (.inr (.inl ⟨rfl,rfl,T2a.o⟩)),hB4⟩
       case measure=>simp[intOf]
     ·clear HQ;replace y1:=ax y1;(go_wp2_with fail);refine (IH.o els hes.o A9 c9 e lo hi (D+1) (room - ((m+body.sz:Nat):Int)) _ (gE.o.bz hBi) s4 s6.o (by have:=hD.o;omega) (by omega) (by omega) (by omega)).mono ?_;rintro e' w2 ⟨rfl,hBx⟩;have hB3:=bgo hB2 (bgo hBi hBx);have hB4:=bgo hBi hBx;clear hBx;obtain ⟨T1,hT1⟩:∃ x,x=cvN els e (room - ((m+body.sz:Nat):Int)):=⟨_,rfl⟩;obtain ⟨x1,hx1⟩:∃ x,x=cvB els e (room - ((m+body.sz:Nat):Int)):=⟨_,rfl⟩;have g1:x1=true→T1=els.sz:=fun h=>by rw[hT1];exact cvN_true (by rw[←hx1];exact h)
      rw[←hT1,←hx1];replace hx1:=ax hx1;replace g1:=ax g1;clear hT1;cases x1
      ·have e0:=ax (f3.o hx1.o.symm);(go_wp2_with fail);go_ret2;exact ⟨by rw[e0.o,hno.o e0.o];rfl,hB3⟩
      ·have T2:=t3.o hx1.o.symm;obtain rfl:=g1.o (by simp);have T2a:=ax T2.1;have T2b:=T2.2;clear T2;(go_wp2_with fail)
       go_round
       case rel=>exact ⟨2,m+body.sz+els.sz,by go_num,by push_cast;rfl,by push_cast at T2b ⊢;omega,ax (.inr (.inr ⟨rfl,rfl,y1.o,T2a.o⟩)),hB4⟩
       case measure=>simp[intOf]
     ·clear HQ;replace y1:=ax y1;replace y2:=ax y2;have hB3:=bgo hB2 hBi;(go_wp2_with fail)
      go_round
      case rel=>
       refine ⟨j+1,m+body.sz+els.sz,by omega,by go_num,rfl,hm2,ax ?_,ax ?_,hB3⟩
       ·rw[hDs.o];have:=HZ'.o;omega
       ·rw[HR'.o,y1.o,y2.o];simp
      case measure=>simp[intOf];omega
   ·(go_wp2_with fail);go_ret2;obtain rfl:j=n:=by omega
    have e1:L.drop j=.nil:=by rw[hn.o];exact Cms.drop_all L
    have h2:=HR.o;have h3:=HZ.o;rw[e1] at h2 h3;simp only[Cms.sz,Cms.len,Nat.add_zero] at h3;have e0:R=true:=by rw[hR.o,cvB,h2];simp[Cms.shape];omega
    refine ⟨?_,hB⟩;rw[hyes.o e0,e0,←h3];rfl
theorem c_impl_ProgramValid {lo hi:Nat} (L:Cms) (A:Option Addr) (c:Nat) (w:World) (hV:CmsV w lo hi A L) (hlen:L.len≤1049600) (hsm:L.small 1049600) :
  Calls Tryz.prog 93 #[.slice A L.len c] w fun e w'=>e=.returned (.bool L.prog)∧Below w.heap.size w w':=by
 have hR:cvB L 4 16=L.prog:=by
  unfold cvB Cms.prog
  congr 1
  rw[decide_eq_decide];omega
 replace hR:=ax hR;replace hV:=ax hV;replace hsm:=ax hsm;(go_enter Tryz.func93,Tryz.ntmps93);(go_wp2_with fail);refine (countValid_go _ L (Nat.lt_succ_self _) A c 4 lo hi 1 16 w hV.o hlen hsm.o (by omega) (by omega) (by omega) (by omega)).mono ?_;rintro e w1 ⟨rfl,hB1⟩;rw[hR.o];(go_wp2_with fail);go_ret;exact ⟨rfl,hB1⟩
end
section
open Go Go.RowKit Go.Proofs
attribute [local go_sem ↓] Go.wp_at_zero Go.wp_at_succ
def wo (xs:List Atm) (i k:Int):Nat→List Atm
 | 0=>[]
 | j+1=>if (j:Int)=i∨(j:Int)=k then wo xs i k j else wo xs i k j++(xs[j]?).toList
end
section
open Go Go.RowKit Go.Proofs
end
section
open Go Go.RowKit Go.Proofs
attribute [local go_sem ↓] Go.wp_at_zero Go.wp_at_succ
theorem AsnO.parts {w:World} {b:Nat} {f g:Value} {a:Asn} (h:AsnO w b (.agg #[f,g]) a):FactsO w b f a.facts∧AtomsO w b g a.atoms:=by
 obtain ⟨_,_,e,h1,h2⟩:=h;injection e with e;injection e with e;injection e with e1 e2;injection e2 with e2 e3;subst e1 e2;exact ⟨h1,h2⟩
section
variable {ops:Array Oper} {o:Oper} {a:Act} {K:Act→World→Prop} {Q:Exit→Act→World→Prop} {E:Prop} {w:World} {base lo hi c n m:Nat} {v:Value} {A:Option Addr}
end
section
variable {ops:Array Oper} {rest:List Oper} {o:Oper} {a:Act} {Q:Exit→Act→World→Prop} {w w0:World} {base mid:Nat} {v v2:Value} {vs vs2:List Value} {ss ss2:List Asn}
theorem appA2 (hgd:o.guard=none) (s x:Operand) (ho:o.op=.call { callee:=.builtin .append,args:=#[s,x],argTypes:=#[83,83] })
  (hs:a.eval s=v) (h0:A2O w0 base v vs ss) (hb0:Below w0.heap.size w0 w) (hbase:base≤w0.heap.size) (h2:A2O w mid v2 vs2 ss2) (hm:w0.heap.size≤mid) (hx:a.eval x=v2) (hl:ss.length+ss2.length≤1049600)
  (h:∀ A' c' w',A2O w' base (.slice A' (ss.length+ss2.length) c') (vs++vs2) (ss++ss2)→w.grownBy w' v.ownBlock→Below base w w'→wpList Tryz.prog ops Q rest (a.put o.dst (.slice A' (ss.length+ss2.length) c')) w'):wpList Tryz.prog ops Q (o :: rest) a w:=by
 obtain ⟨A,c,rfl⟩:=h2.form;refine wpList_appL (base:=base) hgd s x 83 ho Tryz.underlying83 infoAs2 rfl (by decide) (by decide) hs (own_below h0.row hb0) hx h2.rd.raw h2.els.one_cell hl (Nat.le_trans hbase hb0.size) ?_;intro v' w' hO hg hB;have hC:=h0.cat hb0 h2 (Nat.le_trans hbase hm) hm hl hg hO;obtain ⟨A',d,rfl,-⟩:=own_reads hO hl;exact h A' d w' hC hg hB
end
end
section
open Go
section
variable {M:Int→Int} {F G H:List Atm}
/-! coverings compose -/
end
end
section
open Go Go.RowKit Go.Proofs
end
section
open Go Go.RowKit
/-! states -/
/-! the laws -/
section
variable {M N:Int→Int} {T:Int→Prop} {F G:List Atm}
end
section
variable {M:Int→Int} {a b c:Asn}
end
/-! truth in states -/
def cellsOf (s:Ste) (x:Atm):List Int:=(atomCells s x).getD []
section
variable {M:Int→Int} {F G G':List Atm} {a:Asn} {x:Atm} {i:Nat} {t m:Int}
end
end
section
open Go Go.RowKit Go.Proofs
attribute [local go_sem ↓] Go.wp_at_zero Go.wp_at_succ
def okC (k A B:Int) (t:Fct) (i:Asn) (body els:Cms):Bool:=plainB t i body els&&fieldsB k A B
theorem okC_term {k A B:Int} {t:Fct} {i:Asn} {body els:Cms} (h:okC k A B t i body els=true):jq A=true∧jq B=true∧(1≤k∧k≤5):=by
 unfold okC fieldsB at h;rw[Bool.and_eq_true] at h;have hp:∀ x,isProgB x=true→jq x=true:=fun x hx=>by simp[isProgB] at hx;simp[jq];omega
 have h0:jq 0=true:=by decide
 have h2:=h.2
 split at h2
 ·rw[Bool.and_eq_true] at h2;exact ⟨hp _ h2.1,h2.2,by omega⟩
 ·split at h2
  ·rw[Bool.and_eq_true] at h2;exact ⟨h2.1,h2.2,by omega⟩
  ·split at h2
   ·rw[Bool.and_eq_true,decide_eq_true_eq] at h2;exact ⟨hp _ h2.1,by rw[h2.2];exact h0,by omega⟩
   ·split at h2
    ·rw[Bool.and_eq_true,decide_eq_true_eq] at h2;exact ⟨h2.1,by rw[h2.2];exact h0,by omega⟩
    ·cases h2
end
section
open Go Go.RowKit Go.Proofs
def Fct.neg (f:Fct):Fct:=⟨!f.eq,f.a,f.b⟩
def stepX (C:Asn→Int×List Asn):List Asn→List Asn→Int×List Asn
 | [],acc=>(0,acc)
 | a :: xs,acc=>if (C a).1≠0 then ((C a).1,[]) else if 24<acc.length+(C a).2.length then (1,[]) else stepX C xs (acc++(C a).2)
def wayX (a:Asn) (f:Fct) (B:List Asn→Int×List Asn) (acc:List Asn):Int×List Asn:=
 if (addF a f).valid then (if consB (addF a f) then (if (B [addF a f]).1≠0 then ((B [addF a f]).1,[]) else (0,acc++(B [addF a f]).2)) else (0,acc)) else (1,[])
def ifX (a:Asn) (t:Fct) (B E:List Asn→Int×List Asn):Int×List Asn:=if (wayX a t B []).1≠0 then wayX a t B [] else wayX a t.neg E (wayX a t B []).2
def keepsX (i:Asn) (t:Fct) (B:List Asn→Int×List Asn):Bool:=
 (addF i t).valid&&(!consB (addF i t) || (decide ((B [addF i t]).1=0)&&(B [addF i t]).2.all fun p=>entF p i))
def freeX2 (C:Nat) (g:Fct):Bool:=!C.testBit g.a.toNat && !C.testBit g.b.toNat
def outX (a i:Asn) (t:Fct) (C:Nat) (f:Asn):Asn:=⟨(a.facts.filter (freeX2 C)++i.facts)++[t.neg],i.atoms++f.atoms⟩
def loopX (a i:Asn) (t:Fct) (C:Nat) (B:List Asn→Int×List Asn):Int×Asn:=
 match frameF a i with
 | none=>(3,⟨[],[]⟩)
 | some f=>if tset (mz f) &&& C≠0 then (3,⟨[],[]⟩) else if keepsX i t B then (if (outX a i t C f).valid then (0,outX a i t C f) else (1,⟨[],[]⟩)) else (4,⟨[],[]⟩)
def basX (K:Nat) (k A B:Int) (a:Asn):Int×List Asn:=
 match symB a k A B (keepK K A B) with
 | none=>(1,[])
 | some l=>(0,l.map (tidyF K))
def whileX (lp:Bool) (K:Nat) (a i:Asn) (t:Fct) (C:Nat) (B:List Asn→Int×List Asn):Int×List Asn:=
 if lp then (if (loopX a i t C B).1≠0 then ((loopX a i t C B).1,[]) else (0,[tidyF K (loopX a i t C B).2])) else (1,[])
def cmdX (lp:Bool) (K:Nat) (k A B:Int) (t:Fct) (i:Asn) (C:Nat) (BX EX:List Asn→Int×List Asn) (a:Asn):Int×List Asn:=
 if k=6 then ifX a t BX EX else if k=7 then whileX lp K a i t C BX else basX K k A B a
def Cms.exe (lp:Bool) (K:Nat):Cms→List Asn→Int×List Asn
 | .nil,now=>(0,now)
 | .cons k a b t i body els r,now=>
  if (stepX (cmdX lp K k a b t i (body.fold chF 0) (body.exe lp K) (els.exe lp K)) now []).1≠0 then (stepX (cmdX lp K k a b t i (body.fold chF 0) (body.exe lp K) (els.exe lp K)) now [])
  else r.exe lp K (stepX (cmdX lp K k a b t i (body.fold chF 0) (body.exe lp K) (els.exe lp K)) now []).2
structure ResX (n:Nat) (q:Int×List Asn):Prop where
 code:0≤q.1∧q.1≤4
 nil:q.1≠0→q.2=[]
 len:q.2.length≤n
 ok:∀ b∈q.2,b.valid=true
theorem ResX.err {n:Nat} {c:Int} (h:0≤c∧c≤4):ResX n (c,[]):=⟨h,fun _=>rfl,Nat.zero_le _,fun _ h=>by cases h⟩
theorem ResX.mono {n m:Nat} {q:Int×List Asn} (h:ResX n q) (e:n≤m):ResX m q:=⟨h.code,h.nil,Nat.le_trans h.len e,h.ok⟩
theorem stepX_ok {C:Asn→Int×List Asn} (hC:∀ a:Asn,a.valid=true→ResX 128 (C a)):∀ (xs acc:List Asn),(∀ a∈xs,a.valid=true)→(∀ a∈acc,a.valid=true)→acc.length≤24→ResX 24 (stepX C xs acc)
 | [],acc,_,h2,h3=>⟨by simp[stepX],fun _=>by simp[stepX] at *,h3,h2⟩
 | a :: xs,acc,h1,h2,h3=>by
  have hc:=hC a (h1 a List.mem_cons_self);unfold stepX
  split
  ·exact ResX.err hc.code
  split
  ·exact ResX.err (by decide)
  ·refine stepX_ok hC xs _ (fun b hb=>h1 b (List.mem_cons_of_mem _ hb)) (fun b hb=>?_) (by simp;omega);rcases List.mem_append.1 hb with hb|hb
   ·exact h2 b hb
   ·exact hc.ok b hb
theorem wayX_ok {a:Asn} {f:Fct} {B:List Asn→Int×List Asn} {acc:List Asn} {n:Nat} (hB:∀ x:Asn,x.valid=true→ResX 24 (B [x])) (h2:∀ b∈acc,b.valid=true) (hl:acc.length≤n):ResX (n+24) (wayX a f B acc):=by
 unfold wayX
 split
 ·rename_i hv;have hb:=hB _ hv
  split
  ·split
   ·exact ResX.err hb.code
   ·refine ⟨by simp,fun h=>absurd rfl h,by simp;have:=hb.len;omega,fun x hx=>?_⟩;rcases List.mem_append.1 hx with hx|hx
    ·exact h2 x hx
    ·exact hb.ok x hx
  ·exact ⟨by simp,fun h=>absurd rfl h,by simp;omega,h2⟩
 ·exact ResX.err (by decide)
theorem ifX_ok {a:Asn} {t:Fct} {B E:List Asn→Int×List Asn} (hB:∀ x:Asn,x.valid=true→ResX 24 (B [x])) (hE:∀ x:Asn,x.valid=true→ResX 24 (E [x])):ResX 48 (ifX a t B E):=by
 have h1:=wayX_ok (a:=a) (f:=t) (acc:=[]) (n:=0) hB (fun _ h=>by cases h) (Nat.le_refl _);unfold ifX
 split
 ·exact h1.mono (by omega)
 ·exact wayX_ok (n:=24) hE h1.ok (by have:=h1.len;omega)
theorem loopX_ok {a i:Asn} {t:Fct} {C:Nat} {B:List Asn→Int×List Asn}:(0≤(loopX a i t C B).1∧(loopX a i t C B).1≤4)∧((loopX a i t C B).1=0→(loopX a i t C B).2.valid=true)∧((loopX a i t C B).1≠0→(loopX a i t C B).2=⟨[],[]⟩):=by
 unfold loopX
 split
 ·exact ⟨by simp,by simp,by simp⟩
 ·split
  ·exact ⟨by simp,by simp,by simp⟩
  ·split
   ·split
    ·rename_i h;exact ⟨by simp,fun _=>h,by simp⟩
    ·exact ⟨by simp,by simp,by simp⟩
   ·exact ⟨by simp,by simp,by simp⟩
theorem basX_ok {K:Nat} {k A B:Int} {a:Asn} (hv:a.valid=true) (hB:k=3→jq B=true):ResX 128 (basX K k A B a):=by
 unfold basX
 split
 ·exact ResX.err (by decide)
 ·rename_i l h;obtain ⟨h1,h2⟩:=symB_ok hv hB h;refine ⟨by simp,fun h=>absurd rfl h,by simpa using h1,fun b hb=>?_⟩;obtain ⟨c,hc,rfl⟩:=List.mem_map.1 hb;exact tidy_valid (h2 c hc)
theorem cmdX_ok {lp:Bool} {K:Nat} {k A B:Int} {t:Fct} {i:Asn} {C:Nat} {BX EX:List Asn→Int×List Asn} (hB:∀ x:Asn,x.valid=true→ResX 24 (BX [x])) (hE:∀ x:Asn,x.valid=true→ResX 24 (EX [x])) (hk:k=3→jq B=true) {a:Asn} (hv:a.valid=true):ResX 128 (cmdX lp K k A B t i C BX EX a):=by
 unfold cmdX
 split
 ·exact (ifX_ok hB hE).mono (by omega)
 split
 ·unfold whileX;obtain ⟨h1,h2,-⟩:=loopX_ok (a:=a) (i:=i) (t:=t) (C:=C) (B:=BX)
  split
  ·split
   ·exact ResX.err h1
   ·rename_i hq;refine ⟨by simp,fun h=>absurd rfl h,by simp,fun b hb=>?_⟩;obtain rfl:=List.mem_singleton.1 hb;exact tidy_valid (h2 (by omega))
  ·exact ResX.err (by decide)
 ·exact basX_ok hv hk
theorem fvalB_store {k a b:Int} {t:Fct} {i:Asn} {body els:Cms} (h:fvalB k a b t i body els=true) (hk:k=3):jq b=true:=by
 subst hk;rw[fvalB_basic (by decide) (by decide)] at h;have hok:okC 3 a b t i body els=true:=h;exact (okC_term hok).2.1
theorem Cms.exe_ok {lp:Bool} {K:Nat}:∀ (L:Cms) (d:Nat) (now:List Asn),L.shape d=true→(∀ a∈now,a.valid=true)→now.length≤24→ResX 24 (L.exe lp K now)
 | .nil,_,now,_,h1,h2=>⟨by simp[Cms.exe],fun h=>by simp[Cms.exe] at h,h2,h1⟩
 | .cons k a b t i body els r,d,now,hs,h1,h2=>by
  simp only[Cms.shape,Bool.and_eq_true,decide_eq_true_eq] at hs;obtain ⟨-,hf,hb,he,hr⟩:=hs;have hB:∀ x:Asn,x.valid=true→ResX 24 (body.exe lp K [x]):=fun x hx=>Cms.exe_ok body _ [x] hb (fun y hy=>by obtain rfl:=List.mem_singleton.1 hy;exact hx) (by simp);have hE:∀ x:Asn,x.valid=true→ResX 24 (els.exe lp K [x]):=fun x hx=>Cms.exe_ok els _ [x] he (fun y hy=>by obtain rfl:=List.mem_singleton.1 hy;exact hx) (by simp);have h3:=stepX_ok (C:=cmdX lp K k a b t i (body.fold chF 0) (body.exe lp K) (els.exe lp K)) (fun x hx=>cmdX_ok hB hE (fvalB_store hf) hx) now [] h1 (fun _ h=>by cases h) (by simp);simp only[Cms.exe]
  split
  ·exact h3
  ·exact Cms.exe_ok r d _ hr h3.ok h3.len
theorem Cms.exe_one {lp:Bool} {K:Nat} {L:Cms} {d:Nat} (hs:L.shape d=true) {x:Asn} (hx:x.valid=true):ResX 24 (L.exe lp K [x]):=Cms.exe_ok L d [x] hs (fun y hy=>by obtain rfl:=List.mem_singleton.1 hy;exact hx) (by simp)
end
section
open Go Go.RowKit
/-! the filled atoms stay the same -/
/-! separated atoms describe themselves -/
/-! no further terms -/
def atermsL (a:Asn):List Int:=if a.valid then ((List.range 9).filter fun n=>(tset (mz a)).testBit n).map fun n:Nat=>(n:Int) else []
end
section
open Go Go.RowKit Go.Proofs
end
section
open Go Go.RowKit Go.Proofs
attribute [local go_sem ↓] Go.wp_at_zero Go.wp_at_succ
theorem c_impl_AssertionTerms {lo hi:Nat} (v:Value) (a:Asn) (w:World) (h:AsnV w lo hi v a) :
  Calls Tryz.prog 50 #[v] w fun e w'=>∃ r,e=.returned r∧IntsO w' w.heap.size r (atermsL a)∧Below w.heap.size w w':=by
 have hV:=ax h;obtain ⟨A1,c1,A2,c2,rfl,-,-⟩:=h;(go_enter Tryz.func50,Tryz.ntmps50);have k0:Blk (w.alloc (.cells #[.slice A1 a.facts.length c1,.slice A2 a.atoms.length c2] tAs)) w.heap.size tAs #[.slice A1 a.facts.length c1,.slice A2 a.atoms.length c2]:=blks;(go_wp2_with fail);refine (jz _ a _ (hV.o.bz bel)).mono ?_;rintro e w1 ⟨rfl,hB1⟩;have hB:Below w.heap.size w w1:=bgo (w:=w) bel hB1;replace k0:=k0.nz hB1;(replace qk0:=k0.z);clear hB1;have hz:=hB.size;cases ha:a.valid
 ·have E:aJ (atermsL a=[]):=by show _=_;simp[atermsL,ha]
  clear ha;(go_wp2_with fail);go_ret;exact ⟨_,rfl,by rw[E.o];exact IntsO.nil _ _,bel⟩
 ·have E:aJ (atermsL a=tlistL (tset (mz a)) 9):=by show _=_;simp[atermsL,ha,tlistL]
  clear ha;(go_wp2_with fail);refine (c_impl_termsIn _ a _ (hV.o.bz hB)).mono ?_;rintro e w2 ⟨rfl,hB2⟩;replace hB:=bgo hB hB2;replace k0:=k0.nz hB2;clear hB2;(go_wp2_with fail);refine (c_impl_termList (tset (mz a)) _ (tset_lt _)).mono ?_;rintro e w3 ⟨r,rfl,o3,hB3⟩;have O3:=ax (o3.bq hB.size);replace hB:=bgo hB hB3;clear hB3 o3 k0 qk0;(go_wp2_with fail);go_ret;exact ⟨r,rfl,by rw[E.o];exact O3.o,hB⟩
end
section
open Go Go.RowKit Go.Proofs
def Cms.marks:Cms→Nat
 | .nil=>0
 | .cons _ _ _ _ i body els r=>6+3 * i.facts.length+3 * i.atoms.length+body.marks+els.marks+r.marks
end
section
open Go Go.RowKit Go.Proofs Go.ChangeShapes Go.WideShapes Go.ChangeAt Go.Deep
section
variable {H:Type} {enc:TypeId×Value→H} {w:World} {base:Nat} {spare:Nat→Bool} {held:Bool}
end
end
section
open Go Go.RowKit Go.Proofs
section
variable {w w':World} {lo hi lo' hi' a b:Nat} {v:Value} {A:Option Addr} {L:Cms}
end
section
variable {w w':World} {lo hi lo' hi' a b:Nat} {v:Value} {A:Option Addr} {L:Cms}
end
end
section
open Go Go.RowKit Go.Proofs
attribute [local go_sem ↓] Go.wp_at_zero Go.wp_at_succ
structure Cm1 where
 k:Int
 a:Int
 b:Int
 t:Fct
 i:Asn
 body:Cms
 els:Cms
def Cm1.cost (x:Cm1):Nat:=cost1 x.i x.body x.els
def Cm1.marks (x:Cm1):Nat:=3 * x.i.facts.length+3 * x.i.atoms.length+x.body.marks+x.els.marks
section
variable {w w':World} {lo hi lo' hi' a b:Nat} {v:Value} {x:Cm1}
end
end
section
open Go Go.RowKit Go.Proofs
def keepE (a:Asn) (L:Cms) (ks:List Int):Nat:=(tset ks|||logS (tset (mz a)))|||logS (L.fold loF 0)
def strongP (a:Asn) (L:Cms) (ks:List Int):Int×List Asn:=if a.valid&&L.prog then L.exe true (keepE a L ks) [a] else (5,[])
def verP (a:Asn) (L:Cms) (b:Asn):Int:=if b.valid then (if (strongP a L (atermsL b)).1≠0 then (strongP a L (atermsL b)).1 else if (strongP a L (atermsL b)).2.all fun p=>entF p b then 0 else 2) else 5
def Cm1.one (x:Cm1):Cms:=.cons x.k x.a x.b x.t x.i x.body x.els .nil
theorem keepE_lt (a:Asn) (L:Cms) (ks:List Int):keepE a L ks<512:=
 Nat.or_lt_two_pow (n:=9) (Nat.or_lt_two_pow (n:=9) (tset_lt _) (logS_lt (tset_lt _))) (logS_lt (Cms.fold_lt (fun S k a b t i h=>loF_lt h k a b t i) L (by decide)))
theorem prog_sh {L:Cms} (h:L.prog=true):L.shape 4=true∧L.sz≤16:=by
 unfold Cms.prog at h;rw[Bool.and_eq_true,decide_eq_true_eq] at h;exact h
theorem exe_res {lp:Bool} {a:Asn} {L:Cms} {K:Nat} (hv:a.valid=true) (hp:L.prog=true):ResX 24 (L.exe lp K [a]):=Cms.exe_one (prog_sh hp).1 hv
theorem strongP_res (a:Asn) (L:Cms) (ks:List Int):(0≤(strongP a L ks).1∧(strongP a L ks).1≤5)∧((strongP a L ks).1≠0→(strongP a L ks).2=[])∧(strongP a L ks).2.length≤24∧∀ b∈(strongP a L ks).2,b.valid=true:=by
 unfold strongP
 split
 ·rename_i h;rw[Bool.and_eq_true] at h;have:=exe_res (lp:=true) (K:=keepE a L ks) h.1 h.2;exact ⟨⟨this.code.1,by have:=this.code.2;omega⟩,this.nil,this.len,this.ok⟩
 ·exact ⟨by simp,fun _=>rfl,Nat.zero_le _,fun _ h=>by cases h⟩
end
section
open Go Go.RowKit Go.Proofs
attribute [local go_sem ↓] Go.wp_at_zero Go.wp_at_succ
def NowV (w:World) (A:Option Addr) (ss:List Asn):Prop:=∀ (k:Nat) (_:k<ss.length),∃ b o B c D d,A=some ⟨b,o,none⟩∧b<w.heap.size∧w.cell? ⟨b,o+k*2,none⟩=some (.slice B ss[k].facts.length c)∧w.cell? ⟨b,o+k*2+1,none⟩=some (.slice D ss[k].atoms.length d)∧AsnC w 0 w.heap.size (.agg #[.slice B ss[k].facts.length c,.slice D ss[k].atoms.length d]) ss[k]
theorem AsnC.mono0 {w:World} {lo hi:Nat} {v:Value} {a:Asn} (h:AsnC w lo hi v a) (hh:hi≤w.heap.size):AsnC w 0 w.heap.size v a:=by
 obtain ⟨A1,c1,A2,c2,e,h1,h2,h3⟩:=h;exact ⟨A1,c1,A2,c2,e,h1.mono (Nat.zero_le _) hh,h2.mono (Nat.zero_le _) hh,h3⟩
theorem NowV.bz {w w':World} {A:Option Addr} {ss:List Asn} (h:NowV w A ss) (hb:Below w.heap.size w w'):NowV w' A ss:=fun k hk=>by
 obtain ⟨b,o,B,c,D,d,e,lb,g0,g1,hC⟩:=h k hk;exact ⟨b,o,B,c,D,d,e,Nat.lt_of_lt_of_le lb hb.size,(hb.cell (p:=⟨b,_,none⟩) lb).trans g0,(hb.cell (p:=⟨b,_,none⟩) lb).trans g1,(hC.bz hb).mono0 hb.size⟩
theorem A2O.now {w:World} {base n c:Nat} {A:Option Addr} {vs:List Value} {ss:List Asn} (h:A2O w base (.slice A n c) vs ss):NowV w A ss:=fun k hk=>by
 obtain ⟨b,o,B,c,D,d,e,lb,g0,g1,hC⟩:=h.atC hk;exact ⟨b,o,B,c,D,d,e,lb,g0,g1,hC.mono0 (Nat.le_refl _)⟩
theorem NowV.one {w:World} {g:Nat} {s1 s2:Value} {s:Asn} (hk:Blk w g tAs #[s1,s2]) (h:AsnC w 0 w.heap.size (.agg #[s1,s2]) s):NowV w (some ⟨g,0,none⟩) [s]:=fun k hk1=>by
 have e:k=0:=by simp at hk1;exact hk1
 subst e;have h':=h;obtain ⟨A1,c1,A2,c2,ev,-⟩:=h';injection ev with ev;injection ev with ev;injection ev with ev1 ev2;injection ev2 with ev2;subst ev1;subst ev2;exact ⟨g,0,A1,c1,A2,c2,rfl,hk.lt,by rw[hk.cell];rfl,by rw[hk.cell];rfl,h⟩
theorem rowsA_set:∀ (ss:List Asn) (j:Nat) (s:Asn),j<ss.length→rowsA (ss.set j s)=((rowsA ss).set (j*2) (.inl s.facts)).set (j*2+1) (.inr s.atoms)
 | x :: ss,0,s,_=>by simp[rowsA]
 | x :: ss,j+1,s,h=>by
  have ih:=rowsA_set ss j s (by simpa using h);have e1:rowsA (x :: ss)=.inl x.facts :: .inr x.atoms :: rowsA ss:=rfl;have e2:rowsA ((x :: ss).set (j+1) s)=.inl x.facts :: .inr x.atoms :: rowsA (ss.set j s):=rfl;rw[e1,e2,ih,show (j+1)*2=j*2+1+1 by omega];rfl
theorem A2O.put {w:World} {base n c j:Nat} {A:Option Addr} {vs:List Value} {ss:List Asn} (h:A2O w base (.slice A n c) vs ss) (hj:j<ss.length):∃ g,A=some ⟨g,0,none⟩∧base≤g∧(∃ cur,Blk w g tAs cur∧j*2+1<cur.size)∧
  ∀ (s1 s2:Value) (s:Asn) (mid:Nat),AsnO w mid (.agg #[s1,s2]) s→base≤mid→(∀ (k:Nat) (hk:k<vs.length),Und vs[k] mid)→A2O ((w.setCell ⟨g,j*2,none⟩ s1).setCell ⟨g,j*2+1,none⟩ s2) base (.slice A n c) ((vs.set (j*2) s1).set (j*2+1) s2) (ss.set j s):=by
 have hlen:=h.els.len;have hrl:=rowsA_len ss;obtain ⟨hl,h2⟩:=h.row;rcases h2 with ⟨e,hn⟩|⟨g,cap,cur,e,hb,hh,hn,hm,hs,ht⟩
 ·omega
 ·injection e with e1 e2 e3;subst e1 e2 e3;have hK:Blk w g tAs cur:=hh
  have hP:Pre cur vs (ss.length * 2):=by
   intro i hi;rw[←ht,List.getElem?_take,if_pos hi];simp
  have hsz:ss.length * 2≤cur.size:=by rw[hs];exact Nat.mul_le_mul hn (Nat.le_refl _)
  refine ⟨g,rfl,hb,⟨cur,hK,by omega⟩,fun s1 s2 s mid hS hbm hU=>?_⟩;have ers:=rowsA_set ss j s hj;have hK1:=hK.set_ (j*2) s1;refine ⟨?_,by rw[List.length_set];exact h.lim,⟨?_,fun k k1 k2=>?_,fun i k hi hk hik x hx1 hx2=>?_⟩⟩
  ·rw[List.length_set];refine own_of_blk (hK1.set_ (j*2+1) s2) hb (by simp[hl]) ?_ hn hm (by simpa using hs);have hP1:=hP.setL (j*2) s1 hsz (by omega);exact hP1.setL (j*2+1) s2 (by simpa using hsz) (by simp;omega)
  ·rw[ers];simp[hlen]
  ·obtain ⟨_,_,e,n1,n2⟩:=hS;injection e with e;injection e with e;injection e with e1 e2;injection e2 with e2 e3;subst e1 e2;have n1':RowO w base s1 (.inl s.facts):=RowO.bq (show RowO w mid s1 (.inl s.facts) from n1) hbm;have n2':RowO w base s2 (.inr s.atoms):=RowO.bq (show RowO w mid s2 (.inr s.atoms) from n2) hbm;have up:∀ {u:Value} {r:RowT},RowO w base u r→RowO ((w.setCell ⟨g,j*2,none⟩ s1).setCell ⟨g,j*2+1,none⟩ s2) base u r:=fun hu=>(hu.setT hK (by decide) (by decide) _ _).setT hK1 (by decide) (by decide) _ _;simp only[List.length_set] at k1;have k2':k<(rowsA ss).length:=by omega
   generalize (w.setCell ⟨g,j*2,none⟩ s1).setCell ⟨g,j*2+1,none⟩ s2=W' at up ⊢
   have key:∀ (r:RowT),(rowsA (ss.set j s))[k]? = some r→RowO W' base (((vs.set (j*2) s1).set (j*2+1) s2)[k]'(by simpa using k1)) r:=fun r hr=>by
    rw[ers] at hr;by_cases c2:k=j*2+1
    ·subst c2;rw[List.getElem?_set_self (by simpa using k2')] at hr;obtain rfl:=Option.some.inj hr;rw[List.getElem_set_self];exact up n2'
    ·rw[List.getElem?_set_ne (by omega)] at hr;rw[List.getElem_set_ne (by omega)];by_cases c1:k=j*2
     ·subst c1;rw[List.getElem?_set_self (by simpa using k2')] at hr;obtain rfl:=Option.some.inj hr;rw[List.getElem_set_self];exact up n1'
     ·rw[List.getElem?_set_ne (by omega),List.getElem?_eq_getElem k2'] at hr;rw[List.getElem_set_ne (by omega)];obtain rfl:=Option.some.inj hr;exact up (h.els.at_ k k1 k2')
   exact key _ (List.getElem?_eq_getElem k2)
  ·obtain ⟨_,_,e,n1,n2⟩:=hS;injection e with e;injection e with e;injection e with e1 e2;injection e2 with e2 e3;subst e1 e2;have t1:∀ y,s1.ownBlock=some y→mid≤y:=fun y hy=>(n1.1.lt y hy).1;have t2:∀ y,s2.ownBlock=some y→mid≤y:=fun y hy=>(n2.1.lt y hy).1;simp only[List.length_set] at hi hk;rw[List.getElem_set,List.getElem_set] at hx1 hx2
   have cl:∀ (q:Nat) (hq:q<vs.length),(if j*2+1=q then s2 else if j*2=q then s1 else vs[q]).ownBlock=some x→(q=j*2+1∧s2.ownBlock=some x)∨(q=j*2∧s1.ownBlock=some x)∨((q≠j*2+1∧q≠j*2)∧vs[q].ownBlock=some x):=fun q hq hh=>by
    by_cases d2:j*2+1=q
    ·rw[if_pos d2] at hh;exact .inl ⟨d2.symm,hh⟩
    ·rw[if_neg d2] at hh;by_cases d1:j*2=q
     ·rw[if_pos d1] at hh;exact .inr (.inl ⟨d1.symm,hh⟩)
     ·rw[if_neg d1] at hh;exact .inr (.inr ⟨⟨fun e=>d2 e.symm,fun e=>d1 e.symm⟩,hh⟩)
   rcases cl i hi (by simpa only[List.getElem_set] using hx1) with ⟨a1,b1⟩|⟨a1,b1⟩|⟨a1,b1⟩<;>rcases cl k hk (by simpa only[List.getElem_set] using hx2) with ⟨a2,b2⟩|⟨a2,b2⟩|⟨a2,b2⟩
   ·omega
   ·omega
   ·have:=hU k hk x b2;have:=t2 x b1;omega
   ·exact own_ne n1.1 n2.1 (by decide) x b1 b2
   ·omega
   ·have:=hU k hk x b2;have:=t1 x b1;omega
   ·have:=hU i hi x b1;have:=t2 x b2;omega
   ·have:=hU i hi x b1;have:=t1 x b2;omega
   ·exact h.els.apart i k hi hk hik x b1 b2
theorem c_copyAsns (A:Option Addr) (c:Nat) (ss:List Asn) (w:World) (h:NowV w A ss) (hl:ss.length≤1000) :
  Calls Tryz.prog 179 #[.slice A ss.length c] w fun e w'=>∃ r vs,e=.returned r∧A2O w' w.heap.size r vs ss∧Below w.heap.size w w':=by
 have hmk:=mkAs0 ss.length (by unfold Lim;omega);have hO0:=madeAs w ss.length (by omega);have HO0:aJ (A2O (w.alloc (.cells (madeCells #[.slice none 0 0,.slice none 0 0] (ss.length * 2)) tAs)) w.heap.size (.slice (some ⟨w.heap.size,0,none⟩) 0 ss.length) [] []):=ax ⟨hO0,by simp[Lim],AEls.nil _ _⟩;have H:=ax h;clear h hO0;(go_enter Tryz.func179,Tryz.ntmps179);(go_wp2_with fail)
 go_loopw [3,11] (fun rs i wr=>∃ (j:Nat) (R:Option Addr) (r:Nat) (us:List Value),j≤ss.length∧i=.int .i64 j∧rs=.slice R j r∧aJ (A2O wr w.heap.size (.slice R j r) us (ss.take j))∧aJ (Below w.heap.size w wr)) (fun _ i _=>ss.length - (intOf i).toNat)
 case atStart=>exact ⟨0,some ⟨w.heap.size,0,none⟩,ss.length,[],Nat.zero_le _,rfl,rfl,by rw[List.take_zero];exact HO0,bbox (Below.refl _ _) _⟩
 case round=>
  obtain ⟨j,R,r,us,hj,rfl,rfl,HO,HB⟩:=hrel;have hzr:=HB.o.size;by_cases hlt:j<ss.length
  ·obtain ⟨b,o,P,p,Q,q,rfl,lb,g0,g1,hC⟩:=H.o.bz HB.o j hlt;have HT:aJ (ss.take (j+1)=ss.take j++[ss[j]]):=ax (List.take_succ_eq_append_getElem hlt);obtain ⟨s,hs⟩:∃ s,s=ss[j]:=⟨_,rfl⟩;rw[←hs] at g0 g1 hC HT;have HC:=ax hC;have hji:(j:Int)<(ss.length:Int):=by omega
   have HL:aJ ((ss.take j).length=j):=ax (by rw[List.length_take];omega);clear hs hC;(go_wp2_with fail);refine (c_impl_copyAssertion _ s _ (HC.o.V.bz (bbox (Below.refl _ _) _))).mono ?_;rintro e w2 ⟨r2,rfl,oS,hB2⟩;obtain ⟨F,f,G,g,rfl⟩:=oS.I.form;have OS:=ax oS;have hbx:Below wr.heap.size wr (wr.alloc (.cells #[.slice P s.facts.length p,.slice Q s.atoms.length q] tAs)):=bbox (Below.refl _ _) _;have HB2:=ax (hbx.trans (hB2.mono hbx.size));have hz2:=HB2.o.size;have HO2:aJ (A2O wr w.heap.size (.slice R j r) us (ss.take j)):=HO;have hjl:aJ ((ss.take j).length+1≤1049600):=ax (by rw[HL.o];omega);clear oS hB2 hbx g0 g1 HO;(go_wp2_with (at_builtin;refine appA2 (w0:=wr) (base:=w.heap.size) (mid:=wr.heap.size) (ss2:=[s]) rfl _ _ rfl rfl HO2.o (bbox HB2.o _) hzr (A2O.one (g:=w2.heap.size) (Blk.newE (by simp)) (by omega) (AsnO.bz (AsnO.bq OS.o (by simp)) (bbox (Below.refl _ _) _))) (Nat.le_refl _) rfl hjl.o ?_;intro A3 c3 w3 hO3 hg3 hB3;have O3:=ax hO3;have HB3:=ax (((HB.o.trans (HB2.o.mono hzr)).trans (Below.mono (bbox (Below.refl _ _) (.cells #[.slice F s.facts.length f,.slice G s.atoms.length g] tAs)) (by omega))).trans hB3);clear hO3 hg3 hB3;rw[←HT.o] at O3;simp only[List.length_cons,List.length_nil,Nat.zero_add] at O3 ⊢;rw[HL.o] at O3 ⊢))
   go_round
   case rel=>exact ⟨j+1,A3,c3,_,by omega,by go_num,rfl,O3.o,HB3.o⟩
   case measure=>simp[intOf];omega
  ·obtain rfl:j=ss.length:=by omega
   have HO2:aJ (A2O wr w.heap.size (.slice R ss.length r) us ss):=ax (by have:=HO.o;rwa [List.take_length] at this);clear HO;(go_wp2_with fail);go_ret;exact ⟨_,us,rfl,HO2.o,HB.o⟩
end
end Go.Proofs.YtjaohekkmlkinaaGreat
