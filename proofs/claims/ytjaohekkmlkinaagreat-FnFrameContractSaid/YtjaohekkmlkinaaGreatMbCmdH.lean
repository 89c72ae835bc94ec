/- Programs: the plain data and the words for memory. Plain; no program. -/
import Derived.Test.YtjaohekkmlkinaaGreatMbKit
set_option linter.unusedSimpArgs false
set_option linter.unusedVariables false
set_option maxRecDepth 100000
set_option maxHeartbeats 25600000
namespace Go.Proofs.YtjaohekkmlkinaaGreat
section
open Go Go.RowKit
inductive Cms where
 | nil:Cms
 | cons (kind a b:Int) (test:Fct) (inv:Asn) (body els rest:Cms):Cms
deriving DecidableEq,Inhabited
def Cms.len:Cms→Nat
 | .nil=>0
 | .cons _ _ _ _ _ _ _ r=>r.len+1
def Cms.cost:Cms→Nat
 | .nil=>0
 | .cons _ _ _ _ i body els r=>i.facts.length+i.atoms.length+(body.len+body.cost)+(els.len+els.cost)+r.cost
def Cms.small (n:Nat):Cms→Prop
 | .nil=>True
 | .cons _ _ _ _ i body els r=>i.facts.length≤n∧i.atoms.length≤n∧body.len≤n∧els.len≤n∧body.small n∧els.small n∧r.small n
theorem Cms.cost_small {n:Nat}:∀ {L:Cms},L.cost≤n→L.small n
 | .nil,_=>trivial
 | .cons k a b t i body els r,h=>by
  simp only[Cms.cost] at h;exact ⟨by omega,by omega,by omega,by omega,Cms.cost_small (by omega),Cms.cost_small (by omega),Cms.cost_small (by omega)⟩
def Cms.drop:Nat→Cms→Cms
 | 0,L=>L
 | _+1,.nil=>.nil
 | n+1,.cons _ _ _ _ _ _ _ r=>r.drop n
theorem Cms.drop_len:∀ (n:Nat) (L:Cms),(L.drop n).len=L.len - n
 | 0,L=>rfl
 | n+1,.nil=>by simp[Cms.drop,Cms.len]
 | n+1,.cons _ _ _ _ _ _ _ r=>by simp only[Cms.drop,Cms.len];rw[Cms.drop_len n r];omega
theorem Cms.drop_all:∀ (L:Cms),L.drop L.len=.nil
 | .nil=>rfl
 | .cons k a b t i body els r=>by simp only[Cms.len,Cms.drop];exact Cms.drop_all r
theorem Cms.drop_succ:∀ (n:Nat) (L:Cms) {k a b:Int} {t:Fct} {i:Asn} {body els r:Cms},L.drop n=.cons k a b t i body els r→L.drop (n+1)=r
 | 0,.cons _ _ _ _ _ _ _ r,_,_,_,_,_,_,_,_,h=>by simp only[Cms.drop] at h ⊢;injection h
 | 0,.nil,_,_,_,_,_,_,_,_,h=>by cases h
 | n+1,.nil,_,_,_,_,_,_,_,_,h=>by cases h
 | n+1,.cons _ _ _ _ _ _ _ r,_,_,_,_,_,_,_,_,h=>Cms.drop_succ n r h
theorem Cms.cons_of_len:∀ {L:Cms},0<L.len→∃ k a b t i body els r,L=.cons k a b t i body els r
 | .nil,h=>by simp[Cms.len] at h
 | .cons k a b t i body els r,_=>⟨k,a,b,t,i,body,els,r,rfl⟩
def CmsAt (w:World) (lo hi:Nat):Cms→Nat→Nat→Prop
 | .nil,_,_=>True
 | .cons k a b t i body els r,bl,o=>
  (w.cell? ⟨bl,o,none⟩=some (.int .i64 k)∧w.cell? ⟨bl,o+1,none⟩=some (.int .i64 a)∧w.cell? ⟨bl,o+2,none⟩=some (.int .i64 b)∧
   w.cell? ⟨bl,o+3,none⟩=some (.bool t.eq)∧w.cell? ⟨bl,o+4,none⟩=some (.int .i64 t.a)∧w.cell? ⟨bl,o+5,none⟩=some (.int .i64 t.b))∧
  (∃ A c,w.cell? ⟨bl,o+6,none⟩=some (.slice A i.facts.length c)∧Rw w lo hi 3 A i.facts.length (encF i.facts))∧
  (∃ A c,w.cell? ⟨bl,o+7,none⟩=some (.slice A i.atoms.length c)∧Rw w lo hi 3 A i.atoms.length (encA i.atoms))∧
  (∃ A c,w.cell? ⟨bl,o+8,none⟩=some (.slice A body.len c)∧(0<body.len→∃ b' o',A=some ⟨b',o',none⟩∧lo≤b'∧b'<hi∧CmsAt w lo hi body b' o'))∧
  (∃ A c,w.cell? ⟨bl,o+9,none⟩=some (.slice A els.len c)∧(0<els.len→∃ b' o',A=some ⟨b',o',none⟩∧lo≤b'∧b'<hi∧CmsAt w lo hi els b' o'))∧
  CmsAt w lo hi r bl (o+10)
def CmsV (w:World) (lo hi:Nat) (A:Option Addr) (L:Cms):Prop:=0<L.len→∃ b o,A=some ⟨b,o,none⟩∧lo≤b∧b<hi∧CmsAt w lo hi L b o
section
variable {w w':World} {lo hi lo' hi':Nat}
theorem CmsAt.bz (hb:Below w.heap.size w w'):∀ {L:Cms} {bl o:Nat},CmsAt w lo hi L bl o→CmsAt w' lo hi L bl o
 | .nil,_,_,_=>trivial
 | .cons k a b t i body els r,bl,o,h=>by
  obtain ⟨⟨h0,h1,h2,h3,h4,h5⟩,⟨A6,c6,h6,g6⟩,⟨A7,c7,h7,g7⟩,⟨A8,c8,h8,g8⟩,⟨A9,c9,h9,g9⟩,hr⟩:=h;have hlt:bl<w.heap.size:=block_lt_of_cell h0;have hc:∀ j,w'.cell? ⟨bl,j,none⟩=w.cell? ⟨bl,j,none⟩:=fun j=>hb.cell (p:=⟨bl,j,none⟩) hlt;refine ⟨⟨(hc _).trans h0,(hc _).trans h1,(hc _).trans h2,(hc _).trans h3,(hc _).trans h4,(hc _).trans h5⟩,⟨A6,c6,(hc _).trans h6,g6.bz hb⟩,⟨A7,c7,(hc _).trans h7,g7.bz hb⟩,⟨A8,c8,(hc _).trans h8,fun hl=>?_⟩,⟨A9,c9,(hc _).trans h9,fun hl=>?_⟩,CmsAt.bz hb hr⟩
  ·obtain ⟨b',o',e,p1,p2,p3⟩:=g8 hl;exact ⟨b',o',e,p1,p2,CmsAt.bz hb p3⟩
  ·obtain ⟨b',o',e,p1,p2,p3⟩:=g9 hl;exact ⟨b',o',e,p1,p2,CmsAt.bz hb p3⟩
theorem CmsAt.mono (e1:lo'≤lo) (e2:hi≤hi'):∀ {L:Cms} {bl o:Nat},CmsAt w lo hi L bl o→CmsAt w lo' hi' L bl o
 | .nil,_,_,_=>trivial
 | .cons k a b t i body els r,bl,o,h=>by
  obtain ⟨h0,⟨A6,c6,h6,g6⟩,⟨A7,c7,h7,g7⟩,⟨A8,c8,h8,g8⟩,⟨A9,c9,h9,g9⟩,hr⟩:=h;refine ⟨h0,⟨A6,c6,h6,g6.mono e1 e2⟩,⟨A7,c7,h7,g7.mono e1 e2⟩,⟨A8,c8,h8,fun hl=>?_⟩,⟨A9,c9,h9,fun hl=>?_⟩,CmsAt.mono e1 e2 hr⟩
  ·obtain ⟨b',o',e,p1,p2,p3⟩:=g8 hl;exact ⟨b',o',e,by omega,by omega,CmsAt.mono e1 e2 p3⟩
  ·obtain ⟨b',o',e,p1,p2,p3⟩:=g9 hl;exact ⟨b',o',e,by omega,by omega,CmsAt.mono e1 e2 p3⟩
theorem CmsV.bz {A:Option Addr} {L:Cms} (h:CmsV w lo hi A L) (hb:Below w.heap.size w w'):CmsV w' lo hi A L:=fun hl=>by
 obtain ⟨b,o,e,p1,p2,p3⟩:=h hl;exact ⟨b,o,e,p1,p2,p3.bz hb⟩
theorem CmsV.mono {A:Option Addr} {L:Cms} (h:CmsV w lo hi A L) (e1:lo'≤lo) (e2:hi≤hi'):CmsV w lo' hi' A L:=fun hl=>by
 obtain ⟨b,o,e,p1,p2,p3⟩:=h hl;exact ⟨b,o,e,by omega,by omega,p3.mono e1 e2⟩
theorem CmsAt.drop:∀ (n:Nat) {L:Cms} {bl o:Nat},CmsAt w lo hi L bl o→CmsAt w lo hi (L.drop n) bl (o+n * 10)
 | 0,L,bl,o,h=>by simpa[Cms.drop] using h
 | n+1,.nil,bl,o,h=>trivial
 | n+1,.cons k a b t i body els r,bl,o,h=>by
  have:=CmsAt.drop n h.2.2.2.2.2
  rwa [show o+10+n * 10=o+(n+1) * 10 from by omega] at this
end
theorem Cms.small_drop {m:Nat}:∀ (n:Nat) {L:Cms},L.small m→(L.drop n).small m
 | 0,L,h=>h
 | n+1,.nil,h=>trivial
 | n+1,.cons k a b t i body els r,h=>Cms.small_drop n h.2.2.2.2.2.2
end
section
open Go Go.RowKit Go.Proofs
def Cms.sz:Cms→Nat
 | .nil=>0
 | .cons _ _ _ _ _ body els r=>body.sz+els.sz+r.sz+1
theorem Cms.sz_drop:∀ (n:Nat) (L:Cms),(L.drop n).sz≤L.sz
 | 0,L=>Nat.le_refl _
 | n+1,.nil=>Nat.le_refl _
 | n+1,.cons _ _ _ _ _ _ _ r=>by simp only[Cms.drop,Cms.sz];have:=Cms.sz_drop n r;omega
abbrev tC:Nat:=44
theorem infoC:(Tryz.prog.info? tC).map (fun i=>(i.zero,i.size,i.bytes))=some (some (.agg #[.int .i64 0,.int .i64 0,.int .i64 0,.bool false,.int .i64 0,.int .i64 0,.slice none 0 0,.slice none 0 0,.slice none 0 0,.slice none 0 0]),10,144):=by kernel_rfl
section
variable {w w':World} {lo hi lo' hi':Nat}
variable {v:Value} {L:Cms}
end
def Cms.take:Nat→Cms→Cms
 | 0,_=>.nil
 | _+1,.nil=>.nil
 | n+1,.cons k a b t i body els r=>.cons k a b t i body els (r.take n)
section
variable {w w':World}
end
theorem wp_appX {P:Program} {o:Oper} {a:Act} {K:Act→World→Prop} {Q:Exit→Act→World→Prop} {w:World} (s x:Operand) (t:TypeId)
  (ho:o.op=.call { callee:=.builtin .append,args:=#[s,x],argTypes:=#[t,t] })
  {base:Nat} {e:TypeId} {z:Value} {size bytes:Nat} (ht:P.underlying t=some (.slice e)) (hinfo:(P.info? e).map (fun i=>(i.zero,i.size,i.bytes))=some (some z,size,bytes)) (hzs:z.cells.size=size) (hsz:0<size) (hby:bytes≤200)
  {v:Value} {n:Nat} {xs:List Value} (hs:a.eval s=v) (hown:w.ownsRow base e size v n xs)
  {ad:Addr} {m c:Nat} {news:List Value} (hx:a.eval x=.slice (some ad) m c) (hl:news.length=m * size) (hnews:∀ j u,news[j]? = some u→w.cell? (ad.add j)=some u) (h1:∀ u∈news,u.oneCell'=true)
  (hn:n+m≤1049600) (hb:base≤w.heap.size)
  (h:∀ v' w',w'.ownsRow base e size v' (n+m) (xs++news)→w.grownBy w' v.ownBlock→Below base w w'→(v'.ownBlock=v.ownBlock∨v'.ownBlock=some w.heap.size)→K (a.put o.dst v') w'):Oper.wp P o a w K Q:=by
 obtain ⟨i,hi',hz,hsize,hbytes⟩:=info_parts hinfo;obtain ⟨v',w',hr,h2,h3,h4,h5⟩:=run_append_own_at (P:=P) w base t o.type e i z size bytes ht hi' hz hsize hbytes hzs hsz v n xs hown ad m c news hl hnews h1 (by unfold maxLen;omega) (Nat.le_trans (Nat.mul_le_mul hn hby) (by omega)) hb;unfold Oper.wp execOp;simp only[ho,resolve,invoke,builtin,Sem.run_bind,Sem.run_pure,Result.andThen_ok,List.map_toArray,List.map_cons,List.map_nil,hs,hx,hr];exact h v' w' h2 h3 (own_row_below hown h3 hb) h5
section
variable {ops:Array Oper} {rest:List Oper} {o:Oper} {a:Act} {K:Act→World→Prop} {Q:Exit→Act→World→Prop} {E:Prop} {w:World} {base:Nat} {v:Value}
end
theorem wp_appLX {P:Program} {o:Oper} {a:Act} {K:Act→World→Prop} {Q:Exit→Act→World→Prop} {w:World} (s x:Operand) (t:TypeId)
  (ho:o.op=.call { callee:=.builtin .append,args:=#[s,x],argTypes:=#[t,t] })
  {base:Nat} {e:TypeId} {z:Value} {size bytes:Nat} (ht:P.underlying t=some (.slice e)) (hinfo:(P.info? e).map (fun i=>(i.zero,i.size,i.bytes))=some (some z,size,bytes)) (hzs:z.cells.size=size) (hsz:0<size) (hby:bytes≤200)
  {v:Value} {n:Nat} {xs:List Value} (hs:a.eval s=v) (hown:w.ownsRow base e size v n xs)
  {A:Option Addr} {m c lo hi:Nat} {news:List Value} (hx:a.eval x=.slice A m c) (hR:Rw w lo hi size A m news) (h1:∀ u∈news,u.oneCell'=true)
  (hn:n+m≤1049600) (hb:base≤w.heap.size)
  (h:∀ v' w',w'.ownsRow base e size v' (n+m) (xs++news)→w.grownBy w' v.ownBlock→Below base w w'→(v'.ownBlock=v.ownBlock∨v'.ownBlock=some w.heap.size)→K (a.put o.dst v') w'):Oper.wp P o a w K Q:=by
 obtain ⟨i,hi',hz,hsize,hbytes⟩:=info_parts hinfo
 have key:∀ (ad:Addr),A=some ad→(∀ j u,news[j]? = some u→w.cell? (ad.add j)=some u)→Oper.wp P o a w K Q:=by
  rintro ad rfl hnews;obtain ⟨v',w',hr,h2,h3,h4,h5⟩:=run_append_own_at (P:=P) w base t o.type e i z size bytes ht hi' hz hsize hbytes hzs hsz v n xs hown ad m c news hR.1 hnews h1 (by unfold maxLen;omega) (Nat.le_trans (Nat.mul_le_mul hn hby) (by omega)) hb;unfold Oper.wp execOp;simp only[ho,resolve,invoke,builtin,Sem.run_bind,Sem.run_pure,Result.andThen_ok,List.map_toArray,List.map_cons,List.map_nil,hs,hx,hr];exact h v' w' h2 h3 (own_row_below hown h3 hb) h5
 by_cases hm:m=0
 ·subst hm;have hnil:news=[]:=List.eq_nil_of_length_eq_zero (by simpa using hR.1);subst hnil
  cases A with
  | some ad=>exact key ad rfl (by simp)
  | none=>
   have hrun:=run_append_none (P:=P) t o.type i ht hi' v n c xs hown;unfold Oper.wp execOp;simp only[ho,resolve,invoke,builtin,Sem.run_bind,Sem.run_pure,Result.andThen_ok,List.map_toArray,List.map_cons,List.map_nil,hs,hx,hrun];exact h v w (by simpa using hown) (World.grownBy.refl _ _) (Below.refl _ _) (Or.inl rfl)
 ·have h0:0<m * size:=Nat.mul_pos (by omega) hsz;obtain ⟨b,off,rfl,_,_,hc⟩:=hR.2 h0;exact key _ rfl fun j u hu=>by rw[show (⟨b,off,none⟩:Addr).add j=⟨b,off+j,none⟩ from by unfold Addr.add;split<;>simp_all];exact hc j u hu
theorem wp_appIY {o:Oper} {a:Act} {K:Act→World→Prop} {Q:Exit→Act→World→Prop} {w:World} {base lo hi c:Nat} {v:Value} {A:Option Addr} (s x:Operand) (ho:o.op=.call { callee:=.builtin .append,args:=#[s,x],argTypes:=#[31,31] })
  {xs ys:List Int} (hs:a.eval s=v) (hown:IntsO w base v xs) (hx:a.eval x=.slice A ys.length c) (hR:IntsV w lo hi A ys) (hn:xs.length+ys.length≤1049600) (hb:base≤w.heap.size)
  (h:∀ A' c' w',IntsO w' base (.slice A' (xs++ys).length c') (xs++ys)→w.grownBy w' v.ownBlock→Below base w w'→((Value.slice A' (xs++ys).length c').ownBlock=v.ownBlock∨(Value.slice A' (xs++ys).length c').ownBlock=some w.heap.size)→K (a.put o.dst (.slice A' (xs++ys).length c')) w'):Oper.wp Tryz.prog o a w K Q:=by
 refine wp_appLX s x 31 ho Tryz.underlying31 infoI rfl (by decide) (by decide) hs hown.1 hx hR.raw (encI_one _) hn hb ?_;intro v' w' h1 h2 h3 h4;have hO:IntsO w' base v' (xs++ys):=⟨by rw[List.length_append,show encI (xs++ys)=encI xs++encI ys from List.map_append];exact h1,by simp[Lim];omega⟩;obtain ⟨A',c',rfl,-⟩:=hO.rj;exact h A' c' w' hO h2 h3 h4
theorem IntsO.grown {w w':World} {b:Nat} {v v':Value} {xs:List Int} (h:IntsO w b v' xs) (hg:w.grownBy w' v.ownBlock) (hne:∀ g,v'.ownBlock=some g→v.ownBlock≠some g):IntsO w' b v' xs:=by
 obtain ⟨⟨h1,h2⟩,h3⟩:=h;refine ⟨⟨h1,?_⟩,h3⟩;rcases h2 with h2|⟨k,cap,cur,hv,hk,hh,r⟩
 ·exact Or.inl h2
 ·exact Or.inr ⟨k,cap,cur,hv,hk,Blk.grown hh hg (fun e=>hne k (by rw[hv];rfl) e.symm),r⟩
def RwX (w:World) (X:Nat→Prop) (size:Nat) (A:Option Addr) (n:Nat) (xs:List Value):Prop:=
 xs.length=n * size∧(0<n * size→∃ b o,A=some ⟨b,o,none⟩∧X b∧∀ j u,xs[j]? = some u→w.cell? ⟨b,o+j,none⟩=some u)
def CmsX (w:World) (X:Nat→Prop):Cms→Nat→Nat→Prop
 | .nil,_,_=>True
 | .cons k a b t i body els r,bl,o=>
  (w.cell? ⟨bl,o,none⟩=some (.int .i64 k)∧w.cell? ⟨bl,o+1,none⟩=some (.int .i64 a)∧w.cell? ⟨bl,o+2,none⟩=some (.int .i64 b)∧
   w.cell? ⟨bl,o+3,none⟩=some (.bool t.eq)∧w.cell? ⟨bl,o+4,none⟩=some (.int .i64 t.a)∧w.cell? ⟨bl,o+5,none⟩=some (.int .i64 t.b))∧
  (∃ A c,w.cell? ⟨bl,o+6,none⟩=some (.slice A i.facts.length c)∧RwX w X 3 A i.facts.length (encF i.facts))∧
  (∃ A c,w.cell? ⟨bl,o+7,none⟩=some (.slice A i.atoms.length c)∧RwX w X 3 A i.atoms.length (encA i.atoms))∧
  (∃ A c,w.cell? ⟨bl,o+8,none⟩=some (.slice A body.len c)∧(0<body.len→∃ b' o',A=some ⟨b',o',none⟩∧X b'∧CmsX w X body b' o'))∧
  (∃ A c,w.cell? ⟨bl,o+9,none⟩=some (.slice A els.len c)∧(0<els.len→∃ b' o',A=some ⟨b',o',none⟩∧X b'∧CmsX w X els b' o'))∧
  CmsX w X r bl (o+10)
def PartX (w:World) (X:Nat→Prop) (A:Option Addr) (L:Cms):Prop:=0<L.len→∃ b o,A=some ⟨b,o,none⟩∧X b∧CmsX w X L b o
section
variable {w w':World} {X Y:Nat→Prop} {lo hi base:Nat}
theorem RwX.keep {size n:Nat} {A:Option Addr} {xs:List Value} (h:RwX w X size A n xs) (hk:∀ b,X b→b<w.heap.size→w'.heap[b]? = w.heap[b]?):RwX w' X size A n xs:=
 ⟨h.1,fun hn=>by
  obtain ⟨b,o,e,h1,hc⟩:=h.2 hn;have h0:=h.1;have hx:xs[0]? = some (xs[0]'(by omega)):=List.getElem?_eq_getElem (by omega);have hlt:b<w.heap.size:=block_lt_of_cell (hc 0 _ hx)
  exact ⟨b,o,e,h1,fun j u hu=>(World.cell?_of_block (a:=⟨b,o+j,none⟩) (hk b h1 hlt)).trans (hc j u hu)⟩⟩
theorem RwX.mono {size n:Nat} {A:Option Addr} {xs:List Value} (h:RwX w X size A n xs) (hXY:∀ b,X b→b<w.heap.size→Y b):RwX w Y size A n xs:=
 ⟨h.1,fun hn=>by
  obtain ⟨b,o,e,h1,hc⟩:=h.2 hn;have h0:=h.1;have hx:xs[0]? = some (xs[0]'(by omega)):=List.getElem?_eq_getElem (by omega);have hlt:b<w.heap.size:=block_lt_of_cell (hc 0 _ hx)
  exact ⟨b,o,e,hXY b h1 hlt,hc⟩⟩
theorem RwX.rw_ {size n:Nat} {A:Option Addr} {xs:List Value} (h:RwX w X size A n xs) (hX:∀ b,X b→lo≤b):Rw w lo w.heap.size size A n xs:=
 ⟨h.1,fun hn=>by
  obtain ⟨b,o,e,h1,hc⟩:=h.2 hn;have h0:=h.1;have hx:xs[0]? = some (xs[0]'(by omega)):=List.getElem?_eq_getElem (by omega)
  exact ⟨b,o,e,hX b h1,block_lt_of_cell (hc 0 _ hx),hc⟩⟩
theorem Rw.x {size n:Nat} {A:Option Addr} {xs:List Value} (h:Rw w lo hi size A n xs) (hX:∀ b,lo≤b→b<hi→X b):RwX w X size A n xs:=
 ⟨h.1,fun hn=>by
  obtain ⟨b,o,e,h1,h2,hc⟩:=h.2 hn
  exact ⟨b,o,e,hX b h1 h2,hc⟩⟩
theorem CmsX.lt {k a b:Int} {t:Fct} {i:Asn} {body els r:Cms} {bl o:Nat} (h:CmsX w X (.cons k a b t i body els r) bl o):bl<w.heap.size:=block_lt_of_cell h.1.1
theorem CmsX.lt_:∀ {L:Cms} {bl o:Nat},0<L.len→CmsX w X L bl o→bl<w.heap.size
 | .nil,_,_,h,_=>by simp[Cms.len] at h
 | .cons ..,_,_,_,h=>h.lt
theorem CmsX.keep (hk:∀ b,X b→b<w.heap.size→w'.heap[b]? = w.heap[b]?):∀ {L:Cms} {bl o:Nat},w'.heap[bl]? = w.heap[bl]?→CmsX w X L bl o→CmsX w' X L bl o
 | .nil,_,_,_,_=>trivial
 | .cons k a b t i body els r,bl,o,e1,h=>by
  obtain ⟨⟨h0,h1,h2,h3,h4,h5⟩,⟨A6,c6,h6,g6⟩,⟨A7,c7,h7,g7⟩,⟨A8,c8,h8,g8⟩,⟨A9,c9,h9,g9⟩,hr⟩:=h;have hc:∀ j,w'.cell? ⟨bl,j,none⟩=w.cell? ⟨bl,j,none⟩:=fun j=>World.cell?_of_block (a:=⟨bl,j,none⟩) e1;refine ⟨⟨(hc _).trans h0,(hc _).trans h1,(hc _).trans h2,(hc _).trans h3,(hc _).trans h4,(hc _).trans h5⟩,⟨A6,c6,(hc _).trans h6,g6.keep hk⟩,⟨A7,c7,(hc _).trans h7,g7.keep hk⟩,⟨A8,c8,(hc _).trans h8,fun hl=>?_⟩,⟨A9,c9,(hc _).trans h9,fun hl=>?_⟩,CmsX.keep hk e1 hr⟩
  ·obtain ⟨b',o',e,p1,p3⟩:=g8 hl;exact ⟨b',o',e,p1,CmsX.keep hk (hk b' p1 (CmsX.lt_ hl p3)) p3⟩
  ·obtain ⟨b',o',e,p1,p3⟩:=g9 hl;exact ⟨b',o',e,p1,CmsX.keep hk (hk b' p1 (CmsX.lt_ hl p3)) p3⟩
theorem CmsX.mono (hXY:∀ b,X b→b<w.heap.size→Y b):∀ {L:Cms} {bl o:Nat},CmsX w X L bl o→CmsX w Y L bl o
 | .nil,_,_,_=>trivial
 | .cons k a b t i body els r,bl,o,h=>by
  obtain ⟨h0,⟨A6,c6,h6,g6⟩,⟨A7,c7,h7,g7⟩,⟨A8,c8,h8,g8⟩,⟨A9,c9,h9,g9⟩,hr⟩:=h;refine ⟨h0,⟨A6,c6,h6,g6.mono hXY⟩,⟨A7,c7,h7,g7.mono hXY⟩,⟨A8,c8,h8,fun hl=>?_⟩,⟨A9,c9,h9,fun hl=>?_⟩,CmsX.mono hXY hr⟩
  ·obtain ⟨b',o',e,p1,p3⟩:=g8 hl;exact ⟨b',o',e,hXY b' p1 (CmsX.lt_ hl p3),CmsX.mono hXY p3⟩
  ·obtain ⟨b',o',e,p1,p3⟩:=g9 hl;exact ⟨b',o',e,hXY b' p1 (CmsX.lt_ hl p3),CmsX.mono hXY p3⟩
theorem CmsX.at_ (hX:∀ b,X b→lo≤b):∀ {L:Cms} {bl o:Nat},CmsX w X L bl o→CmsAt w lo w.heap.size L bl o
 | .nil,_,_,_=>trivial
 | .cons k a b t i body els r,bl,o,h=>by
  obtain ⟨h0,⟨A6,c6,h6,g6⟩,⟨A7,c7,h7,g7⟩,⟨A8,c8,h8,g8⟩,⟨A9,c9,h9,g9⟩,hr⟩:=h;refine ⟨h0,⟨A6,c6,h6,g6.rw_ hX⟩,⟨A7,c7,h7,g7.rw_ hX⟩,⟨A8,c8,h8,fun hl=>?_⟩,⟨A9,c9,h9,fun hl=>?_⟩,CmsX.at_ hX hr⟩
  ·obtain ⟨b',o',e,p1,p3⟩:=g8 hl;exact ⟨b',o',e,hX b' p1,CmsX.lt_ hl p3,CmsX.at_ hX p3⟩
  ·obtain ⟨b',o',e,p1,p3⟩:=g9 hl;exact ⟨b',o',e,hX b' p1,CmsX.lt_ hl p3,CmsX.at_ hX p3⟩
theorem PartX.keep {A:Option Addr} {L:Cms} (h:PartX w X A L) (hk:∀ b,X b→b<w.heap.size→w'.heap[b]? = w.heap[b]?):PartX w' X A L:=fun hl=>by
 obtain ⟨b,o,e,p1,p2⟩:=h hl;exact ⟨b,o,e,p1,p2.keep hk (hk b p1 (CmsX.lt_ hl p2))⟩
theorem PartX.mono {A:Option Addr} {L:Cms} (h:PartX w X A L) (hXY:∀ b,X b→b<w.heap.size→Y b):PartX w Y A L:=fun hl=>by
 obtain ⟨b,o,e,p1,p2⟩:=h hl;exact ⟨b,o,e,hXY b p1 (CmsX.lt_ hl p2),p2.mono hXY⟩
theorem PartX.v {A:Option Addr} {L:Cms} (h:PartX w X A L) (hX:∀ b,X b→lo≤b):CmsV w lo w.heap.size A L:=fun hl=>by
 obtain ⟨b,o,e,p1,p2⟩:=h hl;exact ⟨b,o,e,hX b p1,CmsX.lt_ hl p2,p2.at_ hX⟩
theorem PartX.nil (A:Option Addr):PartX w X A .nil:=fun h=>by simp[Cms.len] at h
end
def Cms.app:Cms→Cms→Cms
 | .nil,M=>M
 | .cons k a b t i body els r,M=>.cons k a b t i body els (r.app M)
theorem Cms.len_app:∀ (L M:Cms),(L.app M).len=L.len+M.len
 | .nil,M=>by simp[Cms.app,Cms.len]
 | .cons k a b t i body els r,M=>by simp only[Cms.app,Cms.len,Cms.len_app r M];omega
theorem Cms.cost_app:∀ (L M:Cms),(L.app M).cost=L.cost+M.cost
 | .nil,M=>by simp[Cms.app,Cms.cost]
 | .cons k a b t i body els r,M=>by simp only[Cms.app,Cms.cost,Cms.cost_app r M];omega
def tenL (k a b:Int) (t:Fct) (vF vA vB vE:Value):List Value:=[.int .i64 k,.int .i64 a,.int .i64 b,.bool t.eq,.int .i64 t.a,.int .i64 t.b,vF,vA,vB,vE]
def CmsT (w:World) (X:Nat→Prop):Cms→List Value→Prop
 | .nil,cs=>cs=[]
 | .cons k a b t i body els r,cs=>∃ AF cF AA cA AB cB AE cE rest,cs=tenL k a b t (.slice AF i.facts.length cF) (.slice AA i.atoms.length cA) (.slice AB body.len cB) (.slice AE els.len cE)++rest∧
   RwX w X 3 AF i.facts.length (encF i.facts)∧RwX w X 3 AA i.atoms.length (encA i.atoms)∧PartX w X AB body∧PartX w X AE els∧CmsT w X r rest
section
variable {w w':World} {X Y:Nat→Prop} {lo hi base:Nat}
theorem CmsT.len:∀ {L:Cms} {cs:List Value},CmsT w X L cs→cs.length=L.len * 10
 | .nil,cs,h=>by simp[CmsT] at h;simp[h,Cms.len]
 | .cons k a b t i body els r,cs,h=>by
  obtain ⟨AF,cF,AA,cA,AB,cB,AE,cE,rest,rfl,-,-,-,-,hr⟩:=h;simp only[List.length_append,tenL,List.length_cons,List.length_nil,CmsT.len hr,Cms.len];omega
theorem CmsT.keep (hk:∀ b,X b→b<w.heap.size→w'.heap[b]? = w.heap[b]?):∀ {L:Cms} {cs:List Value},CmsT w X L cs→CmsT w' X L cs
 | .nil,cs,h=>h
 | .cons k a b t i body els r,cs,h=>by
  obtain ⟨AF,cF,AA,cA,AB,cB,AE,cE,rest,e,h1,h2,h3,h4,hr⟩:=h;exact ⟨AF,cF,AA,cA,AB,cB,AE,cE,rest,e,h1.keep hk,h2.keep hk,h3.keep hk,h4.keep hk,CmsT.keep hk hr⟩
theorem CmsT.mono (hXY:∀ b,X b→b<w.heap.size→Y b):∀ {L:Cms} {cs:List Value},CmsT w X L cs→CmsT w Y L cs
 | .nil,cs,h=>h
 | .cons k a b t i body els r,cs,h=>by
  obtain ⟨AF,cF,AA,cA,AB,cB,AE,cE,rest,e,h1,h2,h3,h4,hr⟩:=h;exact ⟨AF,cF,AA,cA,AB,cB,AE,cE,rest,e,h1.mono hXY,h2.mono hXY,h3.mono hXY,h4.mono hXY,CmsT.mono hXY hr⟩
theorem CmsT.x {g:Nat}:∀ {L:Cms} {cs:List Value} {o:Nat},CmsT w X L cs→(∀ j u,cs[j]? = some u→w.cell? ⟨g,o+j,none⟩=some u)→CmsX w X L g o
 | .nil,cs,_,_,_=>trivial
 | .cons k a b t i body els r,cs,o,h,hc=>by
  obtain ⟨AF,cF,AA,cA,AB,cB,AE,cE,rest,rfl,h1,h2,h3,h4,hr⟩:=h;refine ⟨⟨hc 0 _ rfl,hc 1 _ rfl,hc 2 _ rfl,hc 3 _ rfl,hc 4 _ rfl,hc 5 _ rfl⟩,⟨AF,cF,hc 6 _ rfl,h1⟩,⟨AA,cA,hc 7 _ rfl,h2⟩,⟨AB,cB,hc 8 _ rfl,h3⟩,⟨AE,cE,hc 9 _ rfl,h4⟩,CmsT.x hr fun j u hu=>?_⟩;have:=hc (10+j) u (by rw[List.getElem?_append_right (by simp[tenL]),show 10+j - (tenL k a b t (.slice AF i.facts.length cF) (.slice AA i.atoms.length cA) (.slice AB body.len cB) (.slice AE els.len cE)).length=j by simp[tenL]];exact hu)
  rwa [show o+(10+j)=o+10+j by omega] at this
theorem CmsT.app:∀ {L M:Cms} {cs ds:List Value},CmsT w X L cs→CmsT w X M ds→CmsT w X (L.app M) (cs++ds)
 | .nil,M,cs,ds,h,h'=>by simp only[CmsT] at h;subst h;exact h'
 | .cons k a b t i body els r,M,cs,ds,h,h'=>by
  obtain ⟨AF,cF,AA,cA,AB,cB,AE,cE,rest,rfl,h1,h2,h3,h4,hr⟩:=h;exact ⟨AF,cF,AA,cA,AB,cB,AE,cE,rest++ds,List.append_assoc ..,h1,h2,h3,h4,CmsT.app hr h'⟩
end
def CmsN (w:World) (base:Nat) (v:Value) (L:Cms):Prop:=∃ cs,w.ownsRow base tC 10 v L.len cs∧CmsT w (fun b=>base≤b∧v.ownBlock≠some b) L cs∧L.len≤1049600
section
variable {w w':World} {base base':Nat} {v:Value} {L:Cms}
theorem CmsN.bz (h:CmsN w base v L) (hb:Below w.heap.size w w'):CmsN w' base v L:=by
 obtain ⟨cs,h1,h2,h3⟩:=h;exact ⟨cs,own_below h1 hb,h2.keep fun b _ hl=>hb.block b hl,h3⟩
theorem CmsN.fr {g:Nat} (h:CmsN w base v L) (hf:Fr g w w') (hg:g<base):CmsN w' base v L:=by
 obtain ⟨cs,h1,h2,h3⟩:=h;exact ⟨cs,own_fr h1 hf hg,h2.keep fun b hb hl=>hf.block b hl (by omega),h3⟩
theorem CmsN.bq (h:CmsN w base v L) (hb:base'≤base):CmsN w base' v L:=by
 obtain ⟨cs,h1,h2,h3⟩:=h;exact ⟨cs,own_lower h1 hb,h2.mono fun b hx _=>⟨by omega,hx.2⟩,h3⟩
theorem CmsN.rj (h:CmsN w base v L):∃ A c,v=.slice A L.len c∧CmsV w base w.heap.size A L:=by
 obtain ⟨cs,⟨hl,h2⟩,h3,h4⟩:=h;rcases h2 with ⟨rfl,hn⟩|⟨g,cap,cur,rfl,hb,hg,hn,hm,hs,ht⟩
 ·exact ⟨none,0,by rw[hn],fun hp=>by omega⟩
 ·refine ⟨_,_,rfl,fun hp=>⟨g,0,rfl,hb,Blk.lt hg,CmsX.at_ (fun b hx=>hx.1) (CmsT.x h3 fun j u hu=>?_)⟩⟩;rw[Nat.zero_add,cell_of_row w g j cur tC (0,0) hg];rw[←ht,List.getElem?_take] at hu
  split at hu
  ·simpa using hu
  ·cases hu
theorem CmsN.nil (w:World) (base:Nat):CmsN w base (.slice none 0 0) .nil:=⟨[],World.ownsRow_nil _ _ _ _,rfl,by simp[Cms.len]⟩
theorem CmsN.empty (w:World) {base:Nat} (hb:base≤w.heap.size):CmsN (w.alloc (.cells #[] tC)) base (.slice (some ⟨w.heap.size,0,none⟩) 0 0) .nil:=
 ⟨[],own_lower (own_empty w _ _) hb,rfl,by simp[Cms.len]⟩
theorem CmsN.lim (h:CmsN w base v L):L.len≤1049600:=by obtain ⟨_,_,_,h⟩:=h;exact h
end
theorem CmsN.grow {w w':World} {base:Nat} {v v':Value} {L:Cms} {k a b:Int} {t:Fct} {i:Asn} {body els:Cms} {AF AA AB AE:Option Addr} {cF cA cB cE:Nat} {cs:List Value}
  (hT:CmsT w (fun b=>base≤b∧v.ownBlock≠some b) L cs) (hl:L.len+1≤1049600)
  (h1:RwX w (fun b=>base≤b∧v.ownBlock≠some b) 3 AF i.facts.length (encF i.facts)) (h2:RwX w (fun b=>base≤b∧v.ownBlock≠some b) 3 AA i.atoms.length (encA i.atoms))
  (h3:PartX w (fun b=>base≤b∧v.ownBlock≠some b) AB body) (h4:PartX w (fun b=>base≤b∧v.ownBlock≠some b) AE els)
  (ho:w'.ownsRow base tC 10 v' (L.len+1) (cs++tenL k a b t (.slice AF i.facts.length cF) (.slice AA i.atoms.length cA) (.slice AB body.len cB) (.slice AE els.len cE)))
  (hg:w.grownBy w' v.ownBlock) (hv:v'.ownBlock=v.ownBlock∨v'.ownBlock=some w.heap.size):CmsN w' base v' (L.app (.cons k a b t i body els .nil)):=by
 have hk:∀ b,(base≤b∧v.ownBlock≠some b)→b<w.heap.size→w'.heap[b]? = w.heap[b]?:=fun b hb hlt=>hg.block b hlt (fun e=>hb.2 e.symm);have hlen:(L.app (.cons k a b t i body els .nil)).len=L.len+1:=by rw[Cms.len_app];rfl
 refine ⟨cs++tenL k a b t (.slice AF i.facts.length cF) (.slice AA i.atoms.length cA) (.slice AB body.len cB) (.slice AE els.len cE),by rw[hlen];exact ho,?_,by omega⟩
 have hT2:CmsT w (fun b=>base≤b∧v.ownBlock≠some b) (L.app (.cons k a b t i body els .nil)) (cs++tenL k a b t (.slice AF i.facts.length cF) (.slice AA i.atoms.length cA) (.slice AB body.len cB) (.slice AE els.len cE)):=
  hT.app ⟨AF,cF,AA,cA,AB,cB,AE,cE,[],by rw[List.append_nil],h1,h2,h3,h4,rfl⟩
 have hT3:=(hT2.mono (Y:=fun b=>(base≤b∧v.ownBlock≠some b)∧b<w.heap.size) fun b hb hlt=>⟨hb,hlt⟩).keep (w':=w') fun b hb hlt=>hk b hb.1 hlt;refine hT3.mono fun b hb _=>⟨hb.1.1,fun e=>?_⟩;rcases hv with hv|hv
 ·exact hb.1.2 (hv.symm.trans e)
 ·rw[hv] at e;injection e with e;omega
def noAsn (i:Asn):Bool:=decide (i.facts.length=0)&&decide (i.atoms.length=0)
def noFct (t:Fct):Bool:=decide (t=⟨false,0,0⟩)
theorem c_spec_l8NoInv (A1 A2:Option Addr) (c1 c2:Nat) (i:Asn) (w:World) (h1:i.facts.length≤1049600) (h2:i.atoms.length≤1049600):Calls Tryz.prog 182 #[.agg #[.slice A1 i.facts.length c1,.slice A2 i.atoms.length c2]] w fun e w'=>e=.returned (.bool (noAsn i))∧Below w.heap.size w w':=by
 obtain ⟨R,hR⟩:∃ R,R=noAsn i:=⟨_,rfl⟩;rw[←hR];unfold noAsn at hR;replace hR:=ax hR;by_cases q1:i.facts.length=0
 all_goals by_cases q2:i.atoms.length=0
 all_goals
  (go_enter Tryz.func182,Tryz.ntmps182);go_wp2;go_ret;exact ⟨zjD (by rw[hR.o];simp_all),bel⟩
theorem c_spec_l8NoFact (t:Fct) (w:World):Calls Tryz.prog 236 #[t.val] w fun e w'=>e=.returned (.bool (noFct t))∧Below w.heap.size w w':=by
 obtain ⟨q,a,b⟩:=t;(go_enter Tryz.func236,Tryz.ntmps236);go_wp2
 all_goals
  go_ret;exact ⟨zjD (by simp_all [noFct]),bel⟩
def plainB (t:Fct) (i:Asn) (body els:Cms):Bool:=noFct t&&(noAsn i&&(decide (body.len=0)&&decide (els.len=0)))
def fieldsB (k a b:Int):Bool:=
 if k=1∨k=2 then isProgB a&&jq b else if k=3 then jq a&&jq b else if k=4 then isProgB a&&decide (b=0) else if k=5 then jq a&&decide (b=0) else false
theorem c_spec_l8Basic_no (k a b:Int) (t:Fct) (i:Asn) (A1 A2 A3 A4:Option Addr) (c1 c2 c3 c4:Nat) (body els:Cms) (w:World) (h1:i.facts.length≤1049600) (h2:i.atoms.length≤1049600) (h3:body.len≤1049600) (h4:els.len≤1049600) (hn:plainB t i body els=false) :
  Calls Tryz.prog 183 #[.agg #[.int .i64 k,.int .i64 a,.int .i64 b,.bool t.eq,.int .i64 t.a,.int .i64 t.b,.slice A1 i.facts.length c1,.slice A2 i.atoms.length c2,.slice A3 body.len c3,.slice A4 els.len c4]] w fun e w'=>e=.returned (.bool false)∧Below w.heap.size w w':=by
 obtain ⟨x,hx⟩:∃ x,x=noFct t:=⟨_,rfl⟩;obtain ⟨y,hy⟩:∃ y,y=noAsn i:=⟨_,rfl⟩;unfold plainB at hn;rw[←hx,←hy] at hn;replace hx:=ax hx;replace hy:=ax hy;replace hn:=ax hn;(go_enter Tryz.func183,Tryz.ntmps183);(go_wp2_with fail);refine (c_spec_l8NoFact t _).mono ?_;rintro e w1 ⟨rfl,hB1⟩;rw[←hx.o];have hB:=bgo (w:=w) bel hB1;have K0:=(Blk.nz (g:=w.heap.size) (Blk.new w _ _) hB1);have q0:=K0.cell;have l0:=K0.lt;cases x
 ·(go_wp2_with fail);go_ret;exact ⟨zjD rfl,hB⟩
 (go_wp2_with fail);refine (c_spec_l8NoInv A1 A2 c1 c2 i _ h1 h2).mono ?_;rintro e w2 ⟨rfl,hB2⟩;rw[←hy.o];have hBB:=bgo hB hB2;have K1:=K0.nz hB2;clear q0 l0;have q0:=K1.cell;have l0:=K1.lt;cases y
 ·(go_wp2_with fail);go_ret;exact ⟨zjD rfl,hBB⟩
 by_cases z1:body.len=0
 case neg=>
  have z1':0<body.len:=by omega
  (go_wp2_with fail);go_ret;exact ⟨zjD rfl,hBB⟩
 by_cases z2:els.len=0
 case neg=>
  have z2':0<els.len:=by omega
  (go_wp2_with fail);go_ret;exact ⟨zjD rfl,hBB⟩
 exact absurd hn.o (by simp[z1,z2])
theorem c_spec_l8Basic_yes (k a b:Int) (t:Fct) (i:Asn) (A1 A2 A3 A4:Option Addr) (c1 c2 c3 c4:Nat) (body els:Cms) (w:World) (h1:i.facts.length≤1049600) (h2:i.atoms.length≤1049600) (hn:plainB t i body els=true) :
  Calls Tryz.prog 183 #[.agg #[.int .i64 k,.int .i64 a,.int .i64 b,.bool t.eq,.int .i64 t.a,.int .i64 t.b,.slice A1 i.facts.length c1,.slice A2 i.atoms.length c2,.slice A3 body.len c3,.slice A4 els.len c4]] w fun e w'=>e=.returned (.bool (fieldsB k a b))∧Below w.heap.size w w':=by
 have hn':noFct t=true∧noAsn i=true∧body.len=0∧els.len=0:=by simpa[plainB] using hn
 obtain ⟨e1,e2,e3,e4⟩:=hn';rw[e3,e4];clear hn e3 e4;replace e1:=ax e1;replace e2:=ax e2;obtain ⟨R,hR⟩:∃ R,R=fieldsB k a b:=⟨_,rfl⟩;rw[←hR];unfold fieldsB at hR;obtain ⟨pa,hpa⟩:∃ pa,pa=isProgB a:=⟨_,rfl⟩;obtain ⟨ta,hta⟩:∃ ta,ta=jq a:=⟨_,rfl⟩;obtain ⟨tb,htb⟩:∃ tb,tb=jq b:=⟨_,rfl⟩;rw[←hpa,←hta,←htb] at hR;replace hpa:=ax hpa;replace hta:=ax hta;replace htb:=ax htb;replace hR:=ax hR;(go_enter Tryz.func183,Tryz.ntmps183);(go_wp2_with fail);refine (c_spec_l8NoFact t _).mono ?_;rintro e w1 ⟨rfl,hB1⟩;rw[e1.o];have hB:=bgo (w:=w) bel hB1;have K0:=(Blk.nz (g:=w.heap.size) (Blk.new w _ _) hB1);have q0:=K0.cell;have l0:=K0.lt;(go_wp2_with fail);refine (c_spec_l8NoInv A1 A2 c1 c2 i _ h1 h2).mono ?_;rintro e w2 ⟨rfl,hB2⟩;rw[e2.o];have hBB:=bgo hB hB2;have K1:=K0.nz hB2;clear q0 l0;have q0:=K1.cell;have l0:=K1.lt;by_cases k1:k=1∨k=2
 ·have hR2:=ax (show R=(pa&&tb) from by rw[hR.o,if_pos k1]);clear hR;rcases k1 with rfl|rfl
  all_goals
   cases pa
   all_goals
    cases tb
    all_goals
     (go_wp2_with (first|(go_at_call 173;refine (c_spec_l8Prog a _).mono ?_;rintro e w' ⟨rfl,rfl⟩;rw[←hpa.o])|(go_at_call 174;refine (c_spec_l1Is b _).mono ?_;rintro e w' ⟨rfl,rfl⟩;rw[←htb.o])));go_ret;exact ⟨zjD (by rw[hR2.o];rfl),hBB⟩
 by_cases k3:k=3
 ·have hR2:=ax (show R=(ta&&tb) from by rw[hR.o,if_neg k1,if_pos k3]);clear hR;subst k3;clear k1;cases ta
  all_goals
   cases tb
   all_goals
    (go_wp2_with (first|(go_at_call 174;refine (c_spec_l1Is a _).mono ?_;rintro e w' ⟨rfl,rfl⟩;rw[←hta.o])|(go_at_call 174;refine (c_spec_l1Is b _).mono ?_;rintro e w' ⟨rfl,rfl⟩;rw[←htb.o])));go_ret;exact ⟨zjD (by rw[hR2.o];rfl),hBB⟩
 by_cases k4:k=4
 ·have hR2:=ax (show R=(pa&&decide (b=0)) from by rw[hR.o,if_neg k1,if_neg k3,if_pos k4]);clear hR;subst k4;clear k1 k3;cases pa
  all_goals
   by_cases b0:b=0
   all_goals
    have hb0:=ax b0;(go_wp2_with (go_at_call 173;refine (c_spec_l8Prog a _).mono ?_;rintro e w' ⟨rfl,rfl⟩;rw[←hpa.o]));go_ret;exact ⟨zjD (by rw[hR2.o];first|rfl|(simp_all)),hBB⟩
 by_cases k5:k=5
 ·have hR2:=ax (show R=(ta&&decide (b=0)) from by rw[hR.o,if_neg k1,if_neg k3,if_neg k4,if_pos k5]);clear hR;subst k5;clear k1 k3 k4;cases ta
  all_goals
   by_cases b0:b=0
   all_goals
    have hb0:=ax b0;(go_wp2_with (go_at_call 174;refine (c_spec_l1Is a _).mono ?_;rintro e w' ⟨rfl,rfl⟩;rw[←hta.o]));go_ret;exact ⟨zjD (by rw[hR2.o];first|rfl|(simp_all)),hBB⟩
 ·have hR2:=ax (show R=false from by rw[hR.o,if_neg k1,if_neg k3,if_neg k4,if_neg k5]);clear hR;have ka:k≠1:=fun e=>k1 (.inl e);have kb:k≠2:=fun e=>k1 (.inr e);clear k1;(go_wp2_with fail);go_ret;exact ⟨zjD (by rw[hR2.o]),hBB⟩
end
end Go.Proofs.YtjaohekkmlkinaaGreat
