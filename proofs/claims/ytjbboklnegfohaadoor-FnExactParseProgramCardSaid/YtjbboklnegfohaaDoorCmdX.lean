/- Programs in blocks of any kind: rows of our own whose parts lie in other blocks. -/
import Derived.Test.YtjbboklnegfohaaDoorMAlloc
import Derived.Test.YtjbboklnegfohaaDoorMPrsI
import Derived.Test.YtjbboklnegfohaaDoorDraw
set_option linter.unusedSimpArgs false
set_option linter.unusedVariables false
namespace Go.Proofs.YtjbboklnegfohaaDoor
open Go Go.RowKit Go.Proofs
def RwX (w:World) (X:Nat→Prop) (size:Nat) (A:Option Addr) (n:Nat) (xs:List Value):Prop:=
 xs.length=n * size∧(0<n * size→∃ b o,A=some ⟨b,o,none⟩∧X b∧∀ j u,xs[j]? = some u→w.cell? ⟨b,o+j,none⟩=some u)
def CmsX (w:World) (X:Nat→Prop):Cms→Nat→Nat→Prop
 | .nil,_,_=>True
 | .cons k a b t i body els r,bl,o=>
  (w.cell? ⟨bl,o,none⟩=some (.int .i64 k)∧w.cell? ⟨bl,o+1,none⟩=some (.int .i64 a)∧w.cell? ⟨bl,o+2,none⟩=some (.int .i64 b)∧
   w.cell? ⟨bl,o+3,none⟩=some (.bool t.eq)∧w.cell? ⟨bl,o+4,none⟩=some (.int .i64 t.a)∧w.cell? ⟨bl,o+5,none⟩=some (.int .i64 t.b))∧
  (∃ A c,w.cell? ⟨bl,o+6,none⟩=some (.slice A i.facts.length c)∧RwX w X 3 A i.facts.length (encF i.facts))∧
  (∃ A c,w.cell? ⟨bl,o+7,none⟩=some (.slice A i.atoms.length c)∧RwX w X 3 A i.atoms.length (encA i.atoms))∧
  (∃ A c,w.cell? ⟨bl,o+8,none⟩=some (.slice A body.len c)∧(0<body.len→∃ b' o',A=some ⟨b',o',none⟩∧X b'∧CmsX w X body b' o'))∧
  (∃ A c,w.cell? ⟨bl,o+9,none⟩=some (.slice A els.len c)∧(0<els.len→∃ b' o',A=some ⟨b',o',none⟩∧X b'∧CmsX w X els b' o'))∧
  CmsX w X r bl (o+10)
def PartX (w:World) (X:Nat→Prop) (A:Option Addr) (L:Cms):Prop:=0<L.len→∃ b o,A=some ⟨b,o,none⟩∧X b∧CmsX w X L b o
section
variable {w w':World} {X Y:Nat→Prop} {lo hi base:Nat}
theorem RwX.keep {size n:Nat} {A:Option Addr} {xs:List Value} (h:RwX w X size A n xs) (hk:∀ b,X b→b<w.heap.size→w'.heap[b]? = w.heap[b]?):RwX w' X size A n xs:=
 ⟨h.1,fun hn=>by
  obtain ⟨b,o,e,h1,hc⟩:=h.2 hn
  have h0:=h.1
  have hx:xs[0]? = some (xs[0]'(by omega)):=List.getElem?_eq_getElem (by omega)
  have hlt:b<w.heap.size:=block_lt_of_cell (hc 0 _ hx)
  exact ⟨b,o,e,h1,fun j u hu=>(World.cell?_of_block (a:=⟨b,o+j,none⟩) (hk b h1 hlt)).trans (hc j u hu)⟩⟩
theorem RwX.mono {size n:Nat} {A:Option Addr} {xs:List Value} (h:RwX w X size A n xs) (hXY:∀ b,X b→b<w.heap.size→Y b):RwX w Y size A n xs:=
 ⟨h.1,fun hn=>by
  obtain ⟨b,o,e,h1,hc⟩:=h.2 hn
  have h0:=h.1
  have hx:xs[0]? = some (xs[0]'(by omega)):=List.getElem?_eq_getElem (by omega)
  have hlt:b<w.heap.size:=block_lt_of_cell (hc 0 _ hx)
  exact ⟨b,o,e,hXY b h1 hlt,hc⟩⟩
theorem RwX.rw_ {size n:Nat} {A:Option Addr} {xs:List Value} (h:RwX w X size A n xs) (hX:∀ b,X b→lo≤b):Rw w lo w.heap.size size A n xs:=
 ⟨h.1,fun hn=>by
  obtain ⟨b,o,e,h1,hc⟩:=h.2 hn
  have h0:=h.1
  have hx:xs[0]? = some (xs[0]'(by omega)):=List.getElem?_eq_getElem (by omega)
  exact ⟨b,o,e,hX b h1,block_lt_of_cell (hc 0 _ hx),hc⟩⟩
theorem Rw.x {size n:Nat} {A:Option Addr} {xs:List Value} (h:Rw w lo hi size A n xs) (hX:∀ b,lo≤b→b<hi→X b):RwX w X size A n xs:=
 ⟨h.1,fun hn=>by
  obtain ⟨b,o,e,h1,h2,hc⟩:=h.2 hn
  exact ⟨b,o,e,hX b h1 h2,hc⟩⟩
theorem CmsX.lt {k a b:Int} {t:Fct} {i:Asn} {body els r:Cms} {bl o:Nat} (h:CmsX w X (.cons k a b t i body els r) bl o):bl<w.heap.size:=block_lt_of_cell h.1.1
theorem CmsX.lt_:∀ {L:Cms} {bl o:Nat},0<L.len→CmsX w X L bl o→bl<w.heap.size
 | .nil,_,_,h,_=>by simp[Cms.len] at h
 | .cons ..,_,_,_,h=>h.lt
theorem CmsX.keep (hk:∀ b,X b→b<w.heap.size→w'.heap[b]? = w.heap[b]?):∀ {L:Cms} {bl o:Nat},w'.heap[bl]? = w.heap[bl]?→CmsX w X L bl o→CmsX w' X L bl o
 | .nil,_,_,_,_=>trivial
 | .cons k a b t i body els r,bl,o,e1,h=>by
  obtain ⟨⟨h0,h1,h2,h3,h4,h5⟩,⟨A6,c6,h6,g6⟩,⟨A7,c7,h7,g7⟩,⟨A8,c8,h8,g8⟩,⟨A9,c9,h9,g9⟩,hr⟩:=h
  have hc:∀ j,w'.cell? ⟨bl,j,none⟩=w.cell? ⟨bl,j,none⟩:=fun j=>World.cell?_of_block (a:=⟨bl,j,none⟩) e1
  refine ⟨⟨(hc _).trans h0,(hc _).trans h1,(hc _).trans h2,(hc _).trans h3,(hc _).trans h4,(hc _).trans h5⟩,⟨A6,c6,(hc _).trans h6,g6.keep hk⟩,⟨A7,c7,(hc _).trans h7,g7.keep hk⟩,⟨A8,c8,(hc _).trans h8,fun hl=>?_⟩,⟨A9,c9,(hc _).trans h9,fun hl=>?_⟩,CmsX.keep hk e1 hr⟩
  ·obtain ⟨b',o',e,p1,p3⟩:=g8 hl;exact ⟨b',o',e,p1,CmsX.keep hk (hk b' p1 (CmsX.lt_ hl p3)) p3⟩
  ·obtain ⟨b',o',e,p1,p3⟩:=g9 hl;exact ⟨b',o',e,p1,CmsX.keep hk (hk b' p1 (CmsX.lt_ hl p3)) p3⟩
theorem CmsX.mono (hXY:∀ b,X b→b<w.heap.size→Y b):∀ {L:Cms} {bl o:Nat},CmsX w X L bl o→CmsX w Y L bl o
 | .nil,_,_,_=>trivial
 | .cons k a b t i body els r,bl,o,h=>by
  obtain ⟨h0,⟨A6,c6,h6,g6⟩,⟨A7,c7,h7,g7⟩,⟨A8,c8,h8,g8⟩,⟨A9,c9,h9,g9⟩,hr⟩:=h
  refine ⟨h0,⟨A6,c6,h6,g6.mono hXY⟩,⟨A7,c7,h7,g7.mono hXY⟩,⟨A8,c8,h8,fun hl=>?_⟩,⟨A9,c9,h9,fun hl=>?_⟩,CmsX.mono hXY hr⟩
  ·obtain ⟨b',o',e,p1,p3⟩:=g8 hl;exact ⟨b',o',e,hXY b' p1 (CmsX.lt_ hl p3),CmsX.mono hXY p3⟩
  ·obtain ⟨b',o',e,p1,p3⟩:=g9 hl;exact ⟨b',o',e,hXY b' p1 (CmsX.lt_ hl p3),CmsX.mono hXY p3⟩
theorem CmsX.at_ (hX:∀ b,X b→lo≤b):∀ {L:Cms} {bl o:Nat},CmsX w X L bl o→CmsAt w lo w.heap.size L bl o
 | .nil,_,_,_=>trivial
 | .cons k a b t i body els r,bl,o,h=>by
  obtain ⟨h0,⟨A6,c6,h6,g6⟩,⟨A7,c7,h7,g7⟩,⟨A8,c8,h8,g8⟩,⟨A9,c9,h9,g9⟩,hr⟩:=h
  refine ⟨h0,⟨A6,c6,h6,g6.rw_ hX⟩,⟨A7,c7,h7,g7.rw_ hX⟩,⟨A8,c8,h8,fun hl=>?_⟩,⟨A9,c9,h9,fun hl=>?_⟩,CmsX.at_ hX hr⟩
  ·obtain ⟨b',o',e,p1,p3⟩:=g8 hl;exact ⟨b',o',e,hX b' p1,CmsX.lt_ hl p3,CmsX.at_ hX p3⟩
  ·obtain ⟨b',o',e,p1,p3⟩:=g9 hl;exact ⟨b',o',e,hX b' p1,CmsX.lt_ hl p3,CmsX.at_ hX p3⟩
theorem PartX.keep {A:Option Addr} {L:Cms} (h:PartX w X A L) (hk:∀ b,X b→b<w.heap.size→w'.heap[b]? = w.heap[b]?):PartX w' X A L:=fun hl=>by
 obtain ⟨b,o,e,p1,p2⟩:=h hl;exact ⟨b,o,e,p1,p2.keep hk (hk b p1 (CmsX.lt_ hl p2))⟩
theorem PartX.mono {A:Option Addr} {L:Cms} (h:PartX w X A L) (hXY:∀ b,X b→b<w.heap.size→Y b):PartX w Y A L:=fun hl=>by
 obtain ⟨b,o,e,p1,p2⟩:=h hl;exact ⟨b,o,e,hXY b p1 (CmsX.lt_ hl p2),p2.mono hXY⟩
theorem PartX.v {A:Option Addr} {L:Cms} (h:PartX w X A L) (hX:∀ b,X b→lo≤b):CmsV w lo w.heap.size A L:=fun hl=>by
 obtain ⟨b,o,e,p1,p2⟩:=h hl;exact ⟨b,o,e,hX b p1,CmsX.lt_ hl p2,p2.at_ hX⟩
theorem PartX.nil (A:Option Addr):PartX w X A .nil:=fun h=>by simp[Cms.len] at h
end
def Cms.app:Cms→Cms→Cms
 | .nil,M=>M
 | .cons k a b t i body els r,M=>.cons k a b t i body els (r.app M)
theorem Cms.len_app:∀ (L M:Cms),(L.app M).len=L.len+M.len
 | .nil,M=>by simp[Cms.app,Cms.len]
 | .cons k a b t i body els r,M=>by simp only[Cms.app,Cms.len,Cms.len_app r M];omega
def tenL (k a b:Int) (t:Fct) (vF vA vB vE:Value):List Value:=[.int .i64 k,.int .i64 a,.int .i64 b,.bool t.eq,.int .i64 t.a,.int .i64 t.b,vF,vA,vB,vE]
def CmsT (w:World) (X:Nat→Prop):Cms→List Value→Prop
 | .nil,cs=>cs=[]
 | .cons k a b t i body els r,cs=>∃ AF cF AA cA AB cB AE cE rest,cs=tenL k a b t (.slice AF i.facts.length cF) (.slice AA i.atoms.length cA) (.slice AB body.len cB) (.slice AE els.len cE)++rest∧
   RwX w X 3 AF i.facts.length (encF i.facts)∧RwX w X 3 AA i.atoms.length (encA i.atoms)∧PartX w X AB body∧PartX w X AE els∧CmsT w X r rest
section
variable {w w':World} {X Y:Nat→Prop} {lo hi base:Nat}
theorem CmsT.len:∀ {L:Cms} {cs:List Value},CmsT w X L cs→cs.length=L.len * 10
 | .nil,cs,h=>by simp[CmsT] at h;simp[h,Cms.len]
 | .cons k a b t i body els r,cs,h=>by
  obtain ⟨AF,cF,AA,cA,AB,cB,AE,cE,rest,rfl,-,-,-,-,hr⟩:=h
  simp only[List.length_append,tenL,List.length_cons,List.length_nil,CmsT.len hr,Cms.len];omega
theorem CmsT.keep (hk:∀ b,X b→b<w.heap.size→w'.heap[b]? = w.heap[b]?):∀ {L:Cms} {cs:List Value},CmsT w X L cs→CmsT w' X L cs
 | .nil,cs,h=>h
 | .cons k a b t i body els r,cs,h=>by
  obtain ⟨AF,cF,AA,cA,AB,cB,AE,cE,rest,e,h1,h2,h3,h4,hr⟩:=h
  exact ⟨AF,cF,AA,cA,AB,cB,AE,cE,rest,e,h1.keep hk,h2.keep hk,h3.keep hk,h4.keep hk,CmsT.keep hk hr⟩
theorem CmsT.mono (hXY:∀ b,X b→b<w.heap.size→Y b):∀ {L:Cms} {cs:List Value},CmsT w X L cs→CmsT w Y L cs
 | .nil,cs,h=>h
 | .cons k a b t i body els r,cs,h=>by
  obtain ⟨AF,cF,AA,cA,AB,cB,AE,cE,rest,e,h1,h2,h3,h4,hr⟩:=h
  exact ⟨AF,cF,AA,cA,AB,cB,AE,cE,rest,e,h1.mono hXY,h2.mono hXY,h3.mono hXY,h4.mono hXY,CmsT.mono hXY hr⟩
theorem CmsT.x {g:Nat}:∀ {L:Cms} {cs:List Value} {o:Nat},CmsT w X L cs→(∀ j u,cs[j]? = some u→w.cell? ⟨g,o+j,none⟩=some u)→CmsX w X L g o
 | .nil,cs,_,_,_=>trivial
 | .cons k a b t i body els r,cs,o,h,hc=>by
  obtain ⟨AF,cF,AA,cA,AB,cB,AE,cE,rest,rfl,h1,h2,h3,h4,hr⟩:=h
  refine ⟨⟨hc 0 _ rfl,hc 1 _ rfl,hc 2 _ rfl,hc 3 _ rfl,hc 4 _ rfl,hc 5 _ rfl⟩,⟨AF,cF,hc 6 _ rfl,h1⟩,⟨AA,cA,hc 7 _ rfl,h2⟩,⟨AB,cB,hc 8 _ rfl,h3⟩,⟨AE,cE,hc 9 _ rfl,h4⟩,CmsT.x hr fun j u hu=>?_⟩
  have:=hc (10+j) u (by rw[List.getElem?_append_right (by simp[tenL]),show 10+j - (tenL k a b t (.slice AF i.facts.length cF) (.slice AA i.atoms.length cA) (.slice AB body.len cB) (.slice AE els.len cE)).length=j by simp[tenL]];exact hu)
  rwa [show o+(10+j)=o+10+j by omega] at this
theorem CmsT.app:∀ {L M:Cms} {cs ds:List Value},CmsT w X L cs→CmsT w X M ds→CmsT w X (L.app M) (cs++ds)
 | .nil,M,cs,ds,h,h'=>by simp only[CmsT] at h;subst h;exact h'
 | .cons k a b t i body els r,M,cs,ds,h,h'=>by
  obtain ⟨AF,cF,AA,cA,AB,cB,AE,cE,rest,rfl,h1,h2,h3,h4,hr⟩:=h
  exact ⟨AF,cF,AA,cA,AB,cB,AE,cE,rest++ds,List.append_assoc ..,h1,h2,h3,h4,CmsT.app hr h'⟩
end
def CmsN (w:World) (base:Nat) (v:Value) (L:Cms):Prop:=∃ cs,w.ownsRow base tC 10 v L.len cs∧CmsT w (fun b=>base≤b∧v.ownBlock≠some b) L cs∧L.len≤1049600
section
variable {w w':World} {base base':Nat} {v:Value} {L:Cms}
theorem CmsN.below (h:CmsN w base v L) (hb:Below w.heap.size w w'):CmsN w' base v L:=by
 obtain ⟨cs,h1,h2,h3⟩:=h
 exact ⟨cs,own_below h1 hb,h2.keep fun b _ hl=>hb.block b hl,h3⟩
theorem CmsN.fr {g:Nat} (h:CmsN w base v L) (hf:Fr g w w') (hg:g<base):CmsN w' base v L:=by
 obtain ⟨cs,h1,h2,h3⟩:=h
 exact ⟨cs,own_fr h1 hf hg,h2.keep fun b hb hl=>hf.block b hl (by omega),h3⟩
theorem CmsN.lower (h:CmsN w base v L) (hb:base'≤base):CmsN w base' v L:=by
 obtain ⟨cs,h1,h2,h3⟩:=h
 exact ⟨cs,own_lower h1 hb,h2.mono fun b hx _=>⟨by omega,hx.2⟩,h3⟩
theorem CmsN.reads (h:CmsN w base v L):∃ A c,v=.slice A L.len c∧CmsV w base w.heap.size A L:=by
 obtain ⟨cs,⟨hl,h2⟩,h3,h4⟩:=h
 rcases h2 with ⟨rfl,hn⟩|⟨g,cap,cur,rfl,hb,hg,hn,hm,hs,ht⟩
 ·exact ⟨none,0,by rw[hn],fun hp=>by omega⟩
 ·refine ⟨_,_,rfl,fun hp=>⟨g,0,rfl,hb,Blk.lt hg,CmsX.at_ (fun b hx=>hx.1) (CmsT.x h3 fun j u hu=>?_)⟩⟩
  rw[Nat.zero_add,cell_of_row w g j cur tC (0,0) hg]
  rw[←ht,List.getElem?_take] at hu
  split at hu
  ·simpa using hu
  ·cases hu
theorem CmsN.nil (w:World) (base:Nat):CmsN w base (.slice none 0 0) .nil:=⟨[],World.ownsRow_nil _ _ _ _,rfl,by simp[Cms.len]⟩
theorem CmsN.empty (w:World) {base:Nat} (hb:base≤w.heap.size):CmsN (w.alloc (.cells #[] tC)) base (.slice (some ⟨w.heap.size,0,none⟩) 0 0) .nil:=
 ⟨[],own_lower (own_empty w _ _) hb,rfl,by simp[Cms.len]⟩
theorem CmsN.lim (h:CmsN w base v L):L.len≤1049600:=by obtain ⟨_,_,_,h⟩:=h;exact h
end
theorem CmsN.grow {w w':World} {base:Nat} {v v':Value} {L:Cms} {k a b:Int} {t:Fct} {i:Asn} {body els:Cms} {AF AA AB AE:Option Addr} {cF cA cB cE:Nat} {cs:List Value}
  (hT:CmsT w (fun b=>base≤b∧v.ownBlock≠some b) L cs) (hl:L.len+1≤1049600)
  (h1:RwX w (fun b=>base≤b∧v.ownBlock≠some b) 3 AF i.facts.length (encF i.facts)) (h2:RwX w (fun b=>base≤b∧v.ownBlock≠some b) 3 AA i.atoms.length (encA i.atoms))
  (h3:PartX w (fun b=>base≤b∧v.ownBlock≠some b) AB body) (h4:PartX w (fun b=>base≤b∧v.ownBlock≠some b) AE els)
  (ho:w'.ownsRow base tC 10 v' (L.len+1) (cs++tenL k a b t (.slice AF i.facts.length cF) (.slice AA i.atoms.length cA) (.slice AB body.len cB) (.slice AE els.len cE)))
  (hg:w.grownBy w' v.ownBlock) (hv:v'.ownBlock=v.ownBlock∨v'.ownBlock=some w.heap.size):CmsN w' base v' (L.app (.cons k a b t i body els .nil)):=by
 have hk:∀ b,(base≤b∧v.ownBlock≠some b)→b<w.heap.size→w'.heap[b]? = w.heap[b]?:=fun b hb hlt=>hg.block b hlt (fun e=>hb.2 e.symm)
 have hlen:(L.app (.cons k a b t i body els .nil)).len=L.len+1:=by rw[Cms.len_app];rfl
 refine ⟨cs++tenL k a b t (.slice AF i.facts.length cF) (.slice AA i.atoms.length cA) (.slice AB body.len cB) (.slice AE els.len cE),by rw[hlen];exact ho,?_,by omega⟩
 have hT2:CmsT w (fun b=>base≤b∧v.ownBlock≠some b) (L.app (.cons k a b t i body els .nil)) (cs++tenL k a b t (.slice AF i.facts.length cF) (.slice AA i.atoms.length cA) (.slice AB body.len cB) (.slice AE els.len cE)):=
  hT.app ⟨AF,cF,AA,cA,AB,cB,AE,cE,[],by rw[List.append_nil],h1,h2,h3,h4,rfl⟩
 have hT3:=(hT2.mono (Y:=fun b=>(base≤b∧v.ownBlock≠some b)∧b<w.heap.size) fun b hb hlt=>⟨hb,hlt⟩).keep (w':=w') fun b hb hlt=>hk b hb.1 hlt
 refine hT3.mono fun b hb _=>⟨hb.1.1,fun e=>?_⟩
 rcases hv with hv|hv
 ·exact hb.1.2 (hv.symm.trans e)
 ·rw[hv] at e
  injection e with e
  omega
end Go.Proofs.YtjbboklnegfohaaDoor
