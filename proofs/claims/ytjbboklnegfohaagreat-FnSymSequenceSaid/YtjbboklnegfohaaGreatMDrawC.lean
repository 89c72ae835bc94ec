/- Words for memory: slices that read as lists of cells, whole blocks, prefixes. Plain lemmas; no program. -/
import Derived.WalkKit
import Derived.Lib.Hide
import Derived.BigQuiet
import Derived.Deep.QuietTactic
import Derived.Deep.AppendLies
import Derived.Deep.Draws
import Derived.Deep.RegionHeld
import Derived.Deep.RegionHeld3
import Derived.OwnWalk
import Derived.StillTailTactics
import Derived.Test.YtjbboklnegfohaaGreatProg
import Derived.ProofKit
import Derived.OpenShut
import Derived.Deep.Slices
import Derived.ChangeSame
import Derived.Laws.BitsAllLaws
import Derived.Laws.BitsLemmas
import Derived.Maps.AppendAt
import Derived.StillTail
import Derived.Deep.DrawnRows
set_option linter.unusedSimpArgs false
set_option linter.unusedVariables false
set_option maxRecDepth 100000
set_option maxHeartbeats 25600000
namespace Go.Proofs.YtjbboklnegfohaaGreat
open List (all_nil cons_append dropLast drop_length flatMap_append flatMap_cons foldl_append getElem_mem getLast length_append length_cons length_nil length_singleton map_cons map_nil nil_append range)
section
open Go Go.RowKit
def aJ(p:Prop):Prop:=p
theorem bn{n:Nat}:n<=n:=Nat.le_refl n
theorem dJ{n:Nat}:0<=n:=Nat.zero_le n
theorem aU{n:Nat}{w:World}:Below n w w:=Below.refl n w
theorem aJ.o{p:Prop}(h:aJ p):p:=h
theorem ax{p:Prop}(h:p):aJ p:=h
abbrev il(n:Nat):Prop:=n<=1049600
theorem dz{a b:Bool}(h:a=b):Ending.returned (.bool a)=.returned (.bool b):=by rw[h]
theorem sJ{k:IntKind}{a b:Int}(h:a=b):Ending.returned (.int k a)=.returned (.int k b):=by rw[h]
def Rw(w:World)(lo hi size:Nat)(A:Option Addr)(n:Nat)(xs:List Value):Prop:=
 xs.length=n * size/\(0<n * size->∃b o,A=some ⟨b,o,none⟩/\lo<=b/\b<hi/\∀j u,xs[j]? = some u->w.cell? ⟨b,o+j,none⟩=some u)
structure Rd (w:World) (lo hi size:Nat) (A:Option Addr) (n:Nat) (xs:List Value):Prop where
 raw:Rw w lo hi size A n xs
 lim:il n
section
variable{w w':World}{lo hi bJ hi' size n:Nat}{A:Option Addr}{xs:List Value}
theorem Rw.keep(h:Rw w lo hi size A n xs)(hk:∀b,lo<=b->b<hi->w'.heap[b]? = w.heap[b]?):Rw w' lo hi size A n xs:=
 ⟨h.1,fun hn=>by
  obtain⟨b,o,e,h1,h2,hc⟩:=h.2 hn
  exact⟨b,o,e,h1,h2,fun j u hu=>(World.cell?_of_block (a:=⟨b,o+j,none⟩) (hk b h1 h2)).trans (hc j u hu)⟩⟩
theorem Rw.mono(h:Rw w lo hi size A n xs)(h1:bJ<=lo)(h2:hi<=hi'):Rw w bJ hi' size A n xs:=
 ⟨h.1,fun hn=>by
  obtain⟨b,o,e,g1,g2,hc⟩:=h.2 hn
  exact⟨b,o,e,by omega,by omega,hc⟩⟩
theorem Rd.keep(h:Rd w lo hi size A n xs)(hk:∀b,lo<=b->b<hi->w'.heap[b]? = w.heap[b]?):Rd w' lo hi size A n xs:=⟨h.raw.keep hk,h.lim⟩
theorem Rd.mono(h:Rd w lo hi size A n xs)(h1:bJ<=lo)(h2:hi<=hi'):Rd w bJ hi' size A n xs:=⟨h.raw.mono h1 h2,h.lim⟩
theorem Rd.le(h:Rd w lo hi size A n xs):n<=1049600:=h.lim
theorem Rd.nil(w:World)(lo hi size:Nat)(A:Option Addr):Rd w lo hi size A 0 []:=⟨⟨by simp,fun h=>absurd h (by omega)⟩,by simp[il]⟩
theorem Rw.at1(h:Rw w lo hi 1 A n xs){k:Nat}(hk:k<n):∃b o u,A=some ⟨b,o,none⟩/\lo<=b/\b<hi/\xs[k]? = some u/\w.cell? ⟨b,o+k,none⟩=some u:=by
 obtain⟨b,o,e,h1,h2,hc⟩:=h.2 (by omega);have hl:k<xs.length:=by have:=h.1;omega
 exact⟨b,o,xs[k],e,h1,h2,List.getElem?_eq_getElem hl,hc k _ (List.getElem?_eq_getElem hl)⟩
theorem Rw.form(h:Rw w lo hi size A n xs)(hn:0<n * size):∃b o,A=some ⟨b,o,none⟩/\lo<=b/\b<hi/\∀j u,xs[j]? = some u->w.cell? ⟨b,o+j,none⟩=some u:=h.2 hn
end
def ae(w:World)(g:Nat)(t:TypeId)(cs:Array Value):Prop:=w.heap[g]? = some (.cells cs t (0,0))
section
variable{w w':World}{g:Nat}{t:TypeId}{cs:Array Value}
theorem ae.lt(h:ae w g t cs):g<w.heap.size:=by
 rcases Nat.lt_or_ge g w.heap.size with hlt|hge
 ·exact hlt
 ·unfold ae at h;rw[Array.getElem?_eq_none hge] at h;cases h
theorem ae.cell(h:ae w g t cs)(i:Nat):w.cell? ⟨g,i,none⟩=cs[i]?:=cell_of_row w g i cs t (0,0) h
theorem ae.frozen(h:ae w g t cs)(i:Nat):w.frozen? ⟨g,i,none⟩=false:=by
 unfold ae at h;simp[World.frozen?,h]
theorem ae.z(h:ae w g t cs):(∀i:Nat,w.cell? ⟨g,i,none⟩=cs[i]?)/\(∀i:Nat,w.frozen? ⟨g,i,none⟩=false)/\g<w.heap.size:=⟨h.cell,h.frozen,h.lt⟩
theorem ae.new(w:World)(t:TypeId)(cs:Array Value):ae (w.alloc (.cells cs t)) w.heap.size t cs:=heap_alloc_new w _
theorem ae.dA{w:World}{g:Nat}{t:TypeId}{cs:Array Value}(hg:g=w.heap.size):ae (w.alloc (.cells cs t)) g t cs:=by subst hg;exact ae.new w t cs
theorem ae.drew(h:ae w g t cs):ae w.drew g t cs:=h
theorem ae.drewN(h:ae w g t cs)(n:Nat):ae (w.drewN n) g t cs:=h
theorem ae.alloc(h:ae w g t cs)(o:Obj):ae (w.alloc o) g t cs:=(Below.heap_alloc w o g h.lt).trans h
theorem ae.ag(h:ae w g t cs)(i:Nat)(u:Value):ae (w.setCell ⟨g,i,none⟩ u) g t (cs.setIfInBounds i u):=by
 unfold ae at h⊢;simp[World.setCell,Array.getElem?_modify,h]
theorem ae.far(h:ae w g t cs){p:Addr}(hp:g≠p.block)(u:Value):ae (w.setCell p u) g t cs:=(Below.heap_setCell w p u g hp).trans h
theorem ae.bz{B:Nat}(h:ae w g t cs)(hb:Below B w w')(hg:g<B):ae w' g t cs:=(hb.block g hg).trans h
theorem ae.grown{row:Option Nat}(h:ae w g t cs)(hb:w.grownBy w' row)(hg:some g≠row):ae w' g t cs:=(hb.block g h.lt hg).trans h
theorem ae.Bq{g2:Nat}{t2:TypeId}{cs2:Array Value}(h:ae w g t cs)(h2:ae w g2 t2 cs2)(ht:t≠t2):g≠g2:=by
 rintro rfl;unfold ae at h h2;rw[h] at h2;injection h2 with h2;injection h2 with _ h3;exact ht h3
end
def Pre(cs:Array Value)(L:List Value)(m:Nat):Prop:=∀j,j<m->cs[j]? = L[j]?
theorem Pre.zero(cs:Array Value)(L:List Value):Pre cs L 0:=fun j h=>absurd h (by omega)
theorem Pre.take{cs:Array Value}{L:List Value}(h:Pre cs L L.length):cs.toList.take L.length=L:=by
 apply List.ext_getElem?;intro j;rw[List.getElem?_take];by_cases hj:j<L.length
 ·rw[if_pos hj];simpa using h j hj
 ·rw[if_neg hj];simp;omega
theorem ed{w:World}{g base n size cap:Nat}{t:TypeId}{cs:Array Value}{L:List Value}(h:ae w g t cs)(hb:base<=g)(hL:L.length=n * size)(hp:Pre cs L (n * size))(hnc:n<=cap)(hc:cap<=maxLen)(hs:cs.size=cap * size) :
  w.ownsRow base t size (.slice (some ⟨g,0,none⟩) n cap) n L:=by
 refine⟨hL,.inr ⟨g,cap,cs,rfl,hb,h,hnc,hc,hs,?_⟩⟩;rw[<-hL] at hp⊢;exact hp.take
theorem bZ{w:World}{base:Nat}{e:TypeId}{size:Nat}{v:Value}{n:Nat}{xs:List Value}(h:w.ownsRow base e size v n xs)(hl:il n):∃A c,v=.slice A n c/\Rd w base w.heap.size size A n xs:=by
 obtain⟨h1,h2⟩:=h;rcases h2 with ⟨rfl,rfl⟩|⟨g,cap,cur,rfl,hb,hg,hn,hm,hs,ht⟩
 ·exact⟨none,0,rfl,⟨⟨h1,fun hn=>absurd hn (by omega)⟩,hl⟩⟩
 ·refine⟨_,_,rfl,⟨⟨h1,fun hn0=>⟨g,0,rfl,hb,ae.lt hg,fun j u hu=>?_⟩⟩,hl⟩⟩;rw[Nat.zero_add,cell_of_row w g j cur e (0,0) hg];rw[<-ht,List.getElem?_take] at hu
  split at hu
  ·simpa using hu
  ·cases hu
theorem own_below{w w':World}{base:Nat}{e:TypeId}{size:Nat}{v:Value}{n:Nat}{xs:List Value}(h:w.ownsRow base e size v n xs)(hb:Below w.heap.size w w'):w'.ownsRow base e size v n xs:=by
 obtain⟨h1,h2⟩:=h;refine⟨h1,?_⟩;rcases h2 with h2|⟨g,cap,cur,hv,hg,hh,r⟩
 ·exact Or.inl h2
 ·exact Or.inr ⟨g,cap,cur,hv,hg,(hb.block g (ae.lt hh)).trans hh,r⟩
theorem fu{w:World}{base base':Nat}{e:TypeId}{size:Nat}{v:Value}{n:Nat}{xs:List Value}(h:w.ownsRow base e size v n xs)(hb:base'<=base):w.ownsRow base' e size v n xs:=by
 obtain⟨h1,h2⟩:=h;refine⟨h1,?_⟩;rcases h2 with h2|⟨g,cap,cur,hv,hg,r⟩
 ·exact Or.inl h2
 ·exact Or.inr ⟨g,cap,cur,hv,by omega,r⟩
theorem below_drewN{B:Nat}{a w:World}(h:Below B a w)(n:Nat):Below B a (w.drewN n):=⟨h.os,h.tape,h.output,h.size,h.block⟩
theorem OZ{w w':World}{B:Nat}(h:Below w.heap.size w w')(hB:B<=w.heap.size):Below B w w':=h.mono hB
theorem aP{w a b:World}(h:Below w.heap.size w a)(h2:Below a.heap.size a b):Below w.heap.size w b:=h.trans (h2.mono h.size)
theorem ai{w a:World}(h:Below w.heap.size w a)(o:Obj):Below w.heap.size w (a.alloc o):=h.alloc h.size o
theorem Rw.bz{w w':World}{lo hi size n:Nat}{A:Option Addr}{xs:List Value}(h:Rw w lo hi size A n xs)(hb:Below w.heap.size w w'):Rw w' lo hi size A n xs:=
 ⟨h.1,fun hn=>by
  obtain⟨b,o,e,h1,h2,hc⟩:=h.2 hn;have h0:=h.1;have hx:xs[0]? = some (xs[0]'(by omega)):=List.getElem?_eq_getElem (by omega);have hlt:b<w.heap.size:=block_lt_of_cell (hc 0 _ hx)
  exact⟨b,o,e,h1,h2,fun j u hu=>(World.cell?_of_block (a:=⟨b,o+j,none⟩) (hb.block b hlt)).trans (hc j u hu)⟩⟩
theorem Rd.bz{w w':World}{lo hi size n:Nat}{A:Option Addr}{xs:List Value}(h:Rd w lo hi size A n xs)(hb:Below w.heap.size w w'):Rd w' lo hi size A n xs:=⟨h.raw.bz hb,h.lim⟩
theorem Rd.kM{w:World}{lo hi size n:Nat}{A:Option Addr}{xs:List Value}(h:Rd w lo hi size A n xs){p:Addr}(hp:p.block<lo\/hi<=p.block)(u:Value):Rd (w.setCell p u) lo hi size A n xs:=
 h.keep fun b h1 h2=>Below.heap_setCell w p u b (by omega)
theorem ae.nz{w w':World}{g:Nat}{t:TypeId}{cs:Array Value}(h:ae w g t cs)(hb:Below w.heap.size w w'):ae w' g t cs:=h.bz hb h.lt
structure uK (lo:Nat) (w w':World):Prop where
 size:w.heap.size<=w'.heap.size
 block:∀k,lo<=k->k<w.heap.size->w'.heap[k]? = w.heap[k]?
theorem uK.refl(lo:Nat)(w:World):uK lo w w:=⟨Nat.le_refl _,fun _ _ _=>rfl⟩
theorem uK.trans{lo:Nat}{a b c:World}(h:uK lo a b)(k:uK lo b c):uK lo a c:=
 ⟨Nat.le_trans h.size k.size,fun i h1 h2=>(k.block i h1 (Nat.lt_of_lt_of_le h2 h.size)).trans (h.block i h1 h2)⟩
theorem uK.setCell{lo:Nat}{a b:World}(h:uK lo a b){p:Addr}(hp:p.block<lo)(u:Value):uK lo a (b.setCell p u):=
 h.trans ⟨by simp,fun k h1 _=>Below.heap_setCell b p u k (by omega)⟩
theorem uK.alloc{lo:Nat}{a b:World}(h:uK lo a b)(o:Obj):uK lo a (b.alloc o):=
 h.trans ⟨by simp,fun k _ h2=>Below.heap_alloc b o k h2⟩
theorem uK.nz{lo:Nat}{a b c:World}(h:uK lo a b)(hb:Below b.heap.size b c):uK lo a c:=
 h.trans ⟨hb.size,fun k _ h2=>hb.block k h2⟩
theorem Rw.GR{w w':World}{lo hi bJ size n:Nat}{A:Option Addr}{xs:List Value}(h:Rw w lo hi size A n xs)(hb:uK bJ w w')(hl:bJ<=lo):Rw w' lo hi size A n xs:=
 ⟨h.1,fun hn=>by
  obtain⟨b,o,e,h1,h2,hc⟩:=h.2 hn;have h0:=h.1;have hx:xs[0]? = some (xs[0]'(by omega)):=List.getElem?_eq_getElem (by omega);have hlt:b<w.heap.size:=block_lt_of_cell (hc 0 _ hx)
  exact⟨b,o,e,h1,h2,fun j u hu=>(World.cell?_of_block (a:=⟨b,o+j,none⟩) (hb.block b (by omega) hlt)).trans (hc j u hu)⟩⟩
theorem Rd.GR{w w':World}{lo hi bJ size n:Nat}{A:Option Addr}{xs:List Value}(h:Rd w lo hi size A n xs)(hb:uK bJ w w')(hl:bJ<=lo):Rd w' lo hi size A n xs:=⟨h.raw.GR hb hl,h.lim⟩
theorem uL{w w':World}{base lo:Nat}{e:TypeId}{size:Nat}{v:Value}{n:Nat}{xs:List Value}(h:w.ownsRow base e size v n xs)(hb:uK lo w w')(hl:lo<=base):w'.ownsRow base e size v n xs:=by
 obtain⟨h1,h2⟩:=h;refine⟨h1,?_⟩;rcases h2 with h2|⟨g,cap,cur,hv,hg,hh,r⟩
 ·exact Or.inl h2
 ·exact Or.inr ⟨g,cap,cur,hv,hg,(hb.block g (by omega) (ae.lt hh)).trans hh,r⟩
theorem kD{W w1:World}(hb:Below W.heap.size W w1):(∀b o,b<W.heap.size->w1.cell? ⟨b,o,none⟩=W.cell? ⟨b,o,none⟩)/\(∀b o,b<W.heap.size->w1.frozen? ⟨b,o,none⟩=W.frozen? ⟨b,o,none⟩):=
 ⟨fun b o h=>hb.cell (p:=⟨b,o,none⟩) h,fun b o h=>hb.frozen (p:=⟨b,o,none⟩) h⟩
theorem aj{B:Nat}{a w:World}(h:Below B a w:=by repeat (first|(with_reducible exact Below.refl _ _)|(with_reducible assumption)|(with_reducible apply ai)|((with_reducible apply Below.setCell);(case hp=>(first|exact Nat.le_refl _|(simp;done)|(simp;omega)|(simp only;omega)|omega)))|(with_reducible apply Below.drew)|(with_reducible apply below_drewN))):Below B a w:=h
theorem az{w:World}{g:Nat}{t:TypeId}{cs:Array Value}(h:ae w g t cs:=by repeat (first|(with_reducible assumption)|(with_reducible exact ae.new _ _ _)|((with_reducible apply ae.far);(case hp=>(first|exact Nat.le_refl _|(simp;done)|(simp;omega)|(simp only;omega)|omega)))|(with_reducible apply ae.ag)|((with_reducible refine ae.dA ?_);(simp;done))|(with_reducible apply ae.alloc)|(with_reducible apply ae.drew)|(with_reducible apply ae.drewN))):ae w g t cs:=h
/-! shorter words for the moves through a drawn region -/
theorem zA{α:Type}{xs:List α}{i:Nat}(h:i<xs.toArray.size):xs.toArray[i]=xs[i]'(by simpa using h):=List.getElem_toArray h
theorem zB{α:Type}{a:α}{ls:List α}(h:0<(a :: ls).length):(a :: ls)[0]=a:=rfl
theorem zC{α:Type}{a:α}{ls:List α}{i:Nat}(h:i+1<(a :: ls).length):(a :: ls)[i+1]=ls[i]'(Nat.lt_of_succ_lt_succ h):=rfl
theorem zD{α:Type}{xs:List α}{i:Nat}{v:α}:xs.toArray.setIfInBounds i v=(xs.set i v).toArray:=List.setIfInBounds_toArray _ _ _
theorem zE{α:Type}{a b:α}{ls:List α}:(a :: ls).set 0 b=b :: ls:=rfl
theorem zF{α:Type}{a b:α}{ls:List α}{i:Nat}:(a :: ls).set (i+1) b=a :: ls.set i b:=rfl
/-! boxes made at the beginning -/
theorem bx1{w:World}{F:World->Prop}{t1:TypeId}{c1:Array Value}(h:∀W,ae W w.heap.size t1 c1->Below w.heap.size w W->W.heap.size=w.heap.size+1->F W):F (w.alloc (.cells c1 t1)):=
 h _ (ae.new _ _ _) ((Below.refl _ _).alloc (Nat.le_refl _) _) (by simp)
theorem TR{w:World}{F:World->Prop}{t1 t2:TypeId}{c1 c2:Array Value}(h:∀W,ae W w.heap.size t1 c1->ae W (w.heap.size+1) t2 c2->Below w.heap.size w W->W.heap.size=w.heap.size+2->F W):F ((w.alloc (.cells c1 t1)).alloc (.cells c2 t2)):=
 h _ ((ae.new _ _ _).alloc _) (by have:=ae.new (w.alloc (.cells c1 t1)) t2 c2;rwa [World.size_alloc] at this) (((Below.refl _ _).alloc (Nat.le_refl _) _).alloc (by simp) _) (by simp)
theorem Ro{w:World}{F:World->Prop}{t1 t2 t3:TypeId}{c1 c2 c3:Array Value}(h:∀W,ae W w.heap.size t1 c1->ae W (w.heap.size+1) t2 c2->ae W (w.heap.size+1+1) t3 c3->Below w.heap.size w W->W.heap.size=w.heap.size+3->F W):F (((w.alloc (.cells c1 t1)).alloc (.cells c2 t2)).alloc (.cells c3 t3)):=
 h _ (((ae.new _ _ _).alloc _).alloc _) ((by have:=ae.new (w.alloc (.cells c1 t1)) t2 c2;rwa [World.size_alloc] at this:ae _ (w.heap.size+1) t2 c2).alloc _) (by have:=ae.new ((w.alloc (.cells c1 t1)).alloc (.cells c2 t2)) t3 c3;rwa [World.size_alloc,World.size_alloc] at this) ((((Below.refl _ _).alloc (Nat.le_refl _) _).alloc (by simp) _).alloc (by simp;omega) _) (by simp)
theorem zz:(∀ {α:Type} {xs:List α} {i:Nat} (h:i<xs.toArray.size),xs.toArray[i]=xs[i]'(by simpa using h))/\(∀ {α:Type} {a:α} {ls:List α} (_:0<(a :: ls).length),(a :: ls)[0]=a)/\(∀ {α:Type} {a:α} {ls:List α} {i:Nat} (h:i+1<(a :: ls).length),(a :: ls)[i+1]=ls[i]'(Nat.lt_of_succ_lt_succ h))/\
  (∀ {α:Type} {xs:List α} {i:Nat} {v:α},xs.toArray.setIfInBounds i v=(xs.set i v).toArray)/\(∀ {α:Type} {a b:α} {ls:List α},(a :: ls).set 0 b=b :: ls)/\(∀ {α:Type} {a b:α} {ls:List α} {i:Nat},(a :: ls).set (i+1) b=a :: ls.set i b)/\
  (∀(a:Act) (d:Tmp) (v:Value),a.put (some d) v = { a with tmps:=a.tmps.setIfInBounds d v })/\(∀(a:Act) (v:Value),a.put none v=a):=
 ⟨fun h=>zA h,fun h=>zB h,fun h=>zC h,zD,zE,zF,fun _ _ _=>rfl,fun _ _=>rfl⟩
theorem lS{P:Program}{id:Nat}{ops:Array Oper}{Q:Exit->Act->World->Prop}{a:Act}{w:World}{S:World->Prop}(hS:S w.drew)(h:S w.drew->wpAnyH P .any ops (NoPanic Q) S ops.size (Array.replicate ops.size false) a w.drew)(hm:P.follows .mixedOrders=true:=by kernel_rfl):(Code.region id ops true).wp P Q a w:=wp_region_noPanic (wp_region_held_drew hm hS h)
theorem bF{w a b:World}(h:aJ (Below w.heap.size w a))(h2:Below a.heap.size a b):aJ (Below w.heap.size w b):=ax (aP h.o h2)
theorem iq{B:Nat}{a w:World}(h:Below B a w)(x j:Nat)(u:Value)(hp:B<=x:=by omega):Below B a (w.setCell ⟨x,j,none⟩ u):=h.setCell (p:=⟨x,j,none⟩) hp u
theorem ae.fz{w:World}{g:Nat}{t:TypeId}{cs:Array Value}(h:ae w g t cs)(x j:Nat)(u:Value)(hp:g≠x:=by omega):ae (w.setCell ⟨x,j,none⟩ u) g t cs:=h.far (p:=⟨x,j,none⟩) hp u
section
variable{P:Program}{md:Region.Mode}{ops:Array Oper}{S:World->Prop}{Q:Exit->Act->World->Prop}{fuel:Nat}{listed:Array Bool}{a:Act}{w:World}
theorem tk(i:Nat)(v:Value){o:Oper}(hi:ops[i]? = some o)(hy:∀w,S w->(execOp a.eval o).run P w=.ok (.value v) w)(hS:S w)(h:wpAnyH P md ops Q S fuel (listed.setIfInBounds i true) (a.put o.dst v) w)
  (hn:Region.wanted o (yielded ops a.tmps)=true:=by rfl) (hs:Region.noSelect ops=true:=by kernel_rfl) (hf:Region.free md ops listed i=true:=by kernel_rfl) (hr:(Region.ready md ops listed).contains i=true:=by kernel_rfl) (hQ:∀c a w,Q (.panic c) (a.put o.dst v) w->Q (.panic c) a w:=by exact fun _ _ _ h=>h):wpAnyH P md ops Q S (fuel+1) listed a w:=
 wpAnyH_take hi hs hf hr hQ (Or.inl ⟨hn,hy⟩) hS h
theorem jP{Q:Exit->Act->World->Prop}{b:Act}(h:Q .normal b w)(hr:Region.ready md ops listed=[]:=by kernel_rfl)(ha:a=b:=by(try simp only[zz]);exact rfl):wpAnyH P md ops (NoPanic Q) S fuel listed a w:=by subst ha;exact wpAnyH_done hr (NoPanic.normal h) _
def Mv(P:Program)(md:Region.Mode)(ops:Array Oper)(Q:Exit->Act->World->Prop)(S:World->Prop)(l:Array Bool)(a:Act)(i:Nat)(o:Oper)(v:Value):Prop:=∀(f:Nat) (w:World),S w->wpAnyH P md ops Q S f (l.setIfInBounds i true) (a.put o.dst v) w->wpAnyH P md ops Q S (f+1) l a w
theorem mv{i:Nat}{v:Value}{o:Oper}(hi:ops[i]? = some o:=by rfl)(hy:∀w,S w->(execOp a.eval o).run P w=.ok (.value v) w:=by(intro w hSw;(try dsimp only at hSw);go_split_ands;(try simp only[zz]);go_simp;(try with_reducible rfl)))(hn:Region.wanted o (yielded ops a.tmps)=true:=by rfl)(hs:Region.noSelect ops=true:=by kernel_rfl)(hf:Region.free md ops listed i=true:=by kernel_rfl)(hr:(Region.ready md ops listed).contains i=true:=by kernel_rfl)(hQ:∀c a w,Q (.panic c) (a.put o.dst v) w->Q (.panic c) a w:=by exact fun _ _ _ h=>h):Mv P md ops Q S listed a i o v:=fun _ _ hS h=>tk i v hi hy hS h hn hs hf hr hQ
theorem jh(i1:Nat){o1:Oper}{v1:Value}{l:Array Bool}{b:Act}(h:wpAnyH P md ops Q S fuel l b w)(m1:Mv P md ops Q S listed a i1 o1 v1:=by exact mv)(hl:(listed.setIfInBounds i1 true)=l:=by(try simp only[zz]);exact rfl)(ha:(a.put o1.dst v1)=b:=by(try simp only[zz]);exact rfl)(hS:S w:=by first|exact aH|assumption):wpAnyH P md ops Q S (fuel+1) listed a w:=by subst hl ha;exact m1 _ _ hS h
theorem uM(i1 i2:Nat){o1 o2:Oper}{v1 v2:Value}{l:Array Bool}{b:Act}(h:wpAnyH P md ops Q S fuel l b w)(m1:Mv P md ops Q S listed a i1 o1 v1:=by exact mv)(m2:Mv P md ops Q S (listed.setIfInBounds i1 true) (a.put o1.dst v1) i2 o2 v2:=by exact mv)(hl:((listed.setIfInBounds i1 true).setIfInBounds i2 true)=l:=by(try simp only[zz]);exact rfl)(ha:((a.put o1.dst v1).put o2.dst v2)=b:=by(try simp only[zz]);exact rfl)(hS:S w:=by first|exact aH|assumption):wpAnyH P md ops Q S (fuel+2) listed a w:=by subst hl ha;exact m1 _ _ hS (m2 _ _ hS h)
theorem yU(i1 i2 i3:Nat){o1 o2 o3:Oper}{v1 v2 v3:Value}{l:Array Bool}{b:Act}(h:wpAnyH P md ops Q S fuel l b w)(m1:Mv P md ops Q S listed a i1 o1 v1:=by exact mv)(m2:Mv P md ops Q S (listed.setIfInBounds i1 true) (a.put o1.dst v1) i2 o2 v2:=by exact mv)(m3:Mv P md ops Q S ((listed.setIfInBounds i1 true).setIfInBounds i2 true) ((a.put o1.dst v1).put o2.dst v2) i3 o3 v3:=by exact mv)(hl:(((listed.setIfInBounds i1 true).setIfInBounds i2 true).setIfInBounds i3 true)=l:=by(try simp only[zz]);exact rfl)(ha:(((a.put o1.dst v1).put o2.dst v2).put o3.dst v3)=b:=by(try simp only[zz]);exact rfl)(hS:S w:=by first|exact aH|assumption):wpAnyH P md ops Q S (fuel+3) listed a w:=by subst hl ha;exact m1 _ _ hS (m2 _ _ hS (m3 _ _ hS h))
theorem O7(i1 i2 i3 i4:Nat){o1 o2 o3 o4:Oper}{v1 v2 v3 v4:Value}{l:Array Bool}{b:Act}(h:wpAnyH P md ops Q S fuel l b w)(m1:Mv P md ops Q S listed a i1 o1 v1:=by exact mv)(m2:Mv P md ops Q S (listed.setIfInBounds i1 true) (a.put o1.dst v1) i2 o2 v2:=by exact mv)(m3:Mv P md ops Q S ((listed.setIfInBounds i1 true).setIfInBounds i2 true) ((a.put o1.dst v1).put o2.dst v2) i3 o3 v3:=by exact mv)(m4:Mv P md ops Q S (((listed.setIfInBounds i1 true).setIfInBounds i2 true).setIfInBounds i3 true) (((a.put o1.dst v1).put o2.dst v2).put o3.dst v3) i4 o4 v4:=by exact mv)(hl:((((listed.setIfInBounds i1 true).setIfInBounds i2 true).setIfInBounds i3 true).setIfInBounds i4 true)=l:=by(try simp only[zz]);exact rfl)(ha:((((a.put o1.dst v1).put o2.dst v2).put o3.dst v3).put o4.dst v4)=b:=by(try simp only[zz]);exact rfl)(hS:S w:=by first|exact aH|assumption):wpAnyH P md ops Q S (fuel+4) listed a w:=by subst hl ha;exact m1 _ _ hS (m2 _ _ hS (m3 _ _ hS (m4 _ _ hS h)))
theorem jQ(i1 i2 i3 i4 i5:Nat){o1 o2 o3 o4 o5:Oper}{v1 v2 v3 v4 v5:Value}{l:Array Bool}{b:Act}(h:wpAnyH P md ops Q S fuel l b w)(m1:Mv P md ops Q S listed a i1 o1 v1:=by exact mv)(m2:Mv P md ops Q S (listed.setIfInBounds i1 true) (a.put o1.dst v1) i2 o2 v2:=by exact mv)(m3:Mv P md ops Q S ((listed.setIfInBounds i1 true).setIfInBounds i2 true) ((a.put o1.dst v1).put o2.dst v2) i3 o3 v3:=by exact mv)(m4:Mv P md ops Q S (((listed.setIfInBounds i1 true).setIfInBounds i2 true).setIfInBounds i3 true) (((a.put o1.dst v1).put o2.dst v2).put o3.dst v3) i4 o4 v4:=by exact mv)(m5:Mv P md ops Q S ((((listed.setIfInBounds i1 true).setIfInBounds i2 true).setIfInBounds i3 true).setIfInBounds i4 true) ((((a.put o1.dst v1).put o2.dst v2).put o3.dst v3).put o4.dst v4) i5 o5 v5:=by exact mv)(hl:(((((listed.setIfInBounds i1 true).setIfInBounds i2 true).setIfInBounds i3 true).setIfInBounds i4 true).setIfInBounds i5 true)=l:=by(try simp only[zz]);exact rfl)(ha:(((((a.put o1.dst v1).put o2.dst v2).put o3.dst v3).put o4.dst v4).put o5.dst v5)=b:=by(try simp only[zz]);exact rfl)(hS:S w:=by first|exact aH|assumption):wpAnyH P md ops Q S (fuel+5) listed a w:=by subst hl ha;exact m1 _ _ hS (m2 _ _ hS (m3 _ _ hS (m4 _ _ hS (m5 _ _ hS h))))
theorem wB(i j:Nat){o o':Oper}(ho:ops[i]? = some o)(ho':ops[j]? = some o')(h:∀K':Act->World->Prop,Shut (∀a w,S w->(S w->wpAnyH P md ops Q S fuel (listed.setIfInBounds i true) a w)->K' a w)->if Region.wanted o (yielded ops a.tmps)=true then Oper.wp P o a w K' Q else K' (a.put o.dst undef) w)
  (h':∀K':Act->World->Prop,Shut (∀a w,S w->(S w->wpAnyH P md ops Q S fuel (listed.setIfInBounds j true) a w)->K' a w)->if Region.wanted o' (yielded ops a.tmps)=true then Oper.wp P o' a w K' Q else K' (a.put o'.dst undef) w)
  (hr:Region.ready md ops listed=[i,j]:=by kernel_rfl):wpAnyH P md ops Q S (fuel+1) listed a w:=wpAnyH_ready hr (by simp) (AllReadyH.cons ho h (AllReadyH.cons ho' h' AllReadyH.nil))
theorem yC(i:Nat){o:Oper}(hi:ops[i]? = some o)(hS:S w)(h:wpAnyH P md ops Q S fuel (listed.setIfInBounds i true) (a.put o.dst undef) w)
  (hn:Region.wanted o (yielded ops a.tmps)=false:=by rfl) (hs:Region.noSelect ops=true:=by kernel_rfl) (hf:Region.free md ops listed i=true:=by kernel_rfl) (hr:(Region.ready md ops listed).contains i=true:=by kernel_rfl) (hQ:∀c a w,Q (.panic c) (a.put o.dst undef) w->Q (.panic c) a w:=by exact fun _ _ _ h=>h):wpAnyH P md ops Q S (fuel+1) listed a w:=
 wpAnyH_take hi hs hf hr hQ (Or.inr ⟨hn,rfl⟩) hS h
theorem aX(i:Nat){o:Oper}(ho:ops[i]? = some o)(h:∀K':Act->World->Prop,Shut (∀a w,S w->(S w->wpAnyH P md ops Q S fuel (listed.setIfInBounds i true) a w)->K' a w)->if Region.wanted o (yielded ops a.tmps)=true then Oper.wp P o a w K' Q else K' (a.put o.dst undef) w)
  (hr:Region.ready md ops listed=[i]:=by kernel_rfl):wpAnyH P md ops Q S (fuel+1) listed a w:=wpAnyH_ready hr (by simp) (AllReadyH.cons ho h AllReadyH.nil)
end
structure aF where
 eq:Bool
 a:Int
 b:Int
deriving DecidableEq,Inhabited
structure aL where
 kind:Int
 a:Int
 b:Int
deriving DecidableEq,Inhabited
structure au where
 facts:List aF
 atoms:List aL
deriving DecidableEq,Inhabited
structure wh where
 values:List Int
 heap:List Int
deriving DecidableEq,Inhabited
def aF.enc(f:aF):List Value:=[.bool f.eq,.int .i64 f.a,.int .i64 f.b]
def aL.enc(x:aL):List Value:=[.int .i64 x.kind,.int .i64 x.a,.int .i64 x.b]
abbrev aF.val(f:aF):Value:=.agg #[.bool f.eq,.int .i64 f.a,.int .i64 f.b]
abbrev aL.val(x:aL):Value:=.agg #[.int .i64 x.kind,.int .i64 x.a,.int .i64 x.b]
theorem flat3{α:Type}(f0 f1 f2:α->Value)(fs:List α)(k:Nat)(hk:k<fs.length) :
  (fs.flatMap fun x=>[f0 x,f1 x,f2 x])[k*3]? = some (f0 fs[k])/\(fs.flatMap fun x=>[f0 x,f1 x,f2 x])[k*3+1]? = some (f1 fs[k])/\(fs.flatMap fun x=>[f0 x,f1 x,f2 x])[k*3+2]? = some (f2 fs[k]):=by
 induction fs generalizing k with
 | nil=>simp at hk
 | cons f fs ih=>
  cases k with
  | zero=>simp
  | succ k=>
   have:=ih k (by simpa using hk);simp only[flatMap_cons,List.getElem_cons_succ,List.getElem?_append,length_cons,length_nil];rw[if_neg (by omega),if_neg (by omega),if_neg (by omega)];have e1:(k+1)*3 - (0+1+1+1)=k*3:=by omega
   have e2:(k+1)*3+1 - (0+1+1+1)=k*3+1:=by omega
   have e3:(k+1)*3+2 - (0+1+1+1)=k*3+2:=by omega
   rw[e1,e2,e3];exact this
theorem Rp{α:Type}(f0 f1 f2:α->Value)(fs:List α):(fs.flatMap fun x=>[f0 x,f1 x,f2 x]).length=fs.length * 3:=by
 induction fs with
 | nil=>rfl
 | cons f fs ih=>simp only[flatMap_cons,length_append,ih,length_cons,length_nil];omega
abbrev iJ(fs:List aF):List Value:=fs.flatMap fun f=>[.bool f.eq,.int .i64 f.a,.int .i64 f.b]
abbrev gK(xs:List aL):List Value:=xs.flatMap fun x=>[.int .i64 x.kind,.int .i64 x.a,.int .i64 x.b]
abbrev encI(xs:List Int):List Value:=xs.map (Value.int .i64)
abbrev dN(xs:List Bool):List Value:=xs.map Value.bool
def bB(w:World)(lo hi:Nat)(A:Option Addr)(xs:List Bool):Prop:=Rd w lo hi 1 A xs.length (dN xs)
def aG(w:World)(lo hi:Nat)(A:Option Addr)(fs:List aF):Prop:=Rd w lo hi 3 A fs.length (iJ fs)
def aB(w:World)(lo hi:Nat)(A:Option Addr)(xs:List aL):Prop:=Rd w lo hi 3 A xs.length (gK xs)
def bG(w:World)(lo hi:Nat)(A:Option Addr)(xs:List Int):Prop:=Rd w lo hi 1 A xs.length (encI xs)
def aM(w:World)(lo hi:Nat)(v:Value)(a:au):Prop:=
 ∃A1 c1 A2 c2,v=.agg #[.slice A1 a.facts.length c1,.slice A2 a.atoms.length c2]/\aG w lo hi A1 a.facts/\aB w lo hi A2 a.atoms
section
variable{w w':World}{lo hi:Nat}{A:Option Addr}
theorem aG.at{fs:List aF}(h:aG w lo hi A fs){k:Nat}(hk:k<fs.length):∃b o,A=some ⟨b,o,none⟩/\w.cell? ⟨b,o+k*3,none⟩=some (.bool fs[k].eq)/\w.cell? ⟨b,o+k*3+1,none⟩=some (.int .i64 fs[k].a)/\w.cell? ⟨b,o+k*3+2,none⟩=some (.int .i64 fs[k].b):=by
 obtain⟨b,o,e,_,hb,hc⟩:=h.raw.2 (by omega);obtain⟨h0,h1,h2⟩:=flat3 (fun f:aF=>.bool f.eq) (fun f=>.int .i64 f.a) (fun f=>.int .i64 f.b) fs k hk;exact⟨b,o,e,hc _ _ h0,hc _ _ h1,hc _ _ h2⟩
theorem aB.at{fs:List aL}(h:aB w lo hi A fs){k:Nat}(hk:k<fs.length):∃b o,A=some ⟨b,o,none⟩/\w.cell? ⟨b,o+k*3,none⟩=some (.int .i64 fs[k].kind)/\w.cell? ⟨b,o+k*3+1,none⟩=some (.int .i64 fs[k].a)/\w.cell? ⟨b,o+k*3+2,none⟩=some (.int .i64 fs[k].b):=by
 obtain⟨b,o,e,_,hb,hc⟩:=h.raw.2 (by omega);obtain⟨h0,h1,h2⟩:=flat3 (fun f:aL=>.int .i64 f.kind) (fun f=>.int .i64 f.a) (fun f=>.int .i64 f.b) fs k hk;exact⟨b,o,e,hc _ _ h0,hc _ _ h1,hc _ _ h2⟩
theorem bG.at{fs:List Int}(h:bG w lo hi A fs){k:Nat}(hk:k<fs.length):∃b o,A=some ⟨b,o,none⟩/\w.cell? ⟨b,o+k,none⟩=some (.int .i64 fs[k]):=by
 obtain⟨b,o,e,_,hb,hc⟩:=h.raw.2 (by omega);exact⟨b,o,e,hc _ _ (by simp[List.getElem?_eq_getElem hk])⟩
theorem bB.at{fs:List Bool}(h:bB w lo hi A fs){k:Nat}(hk:k<fs.length):∃b o,A=some ⟨b,o,none⟩/\w.cell? ⟨b,o+k,none⟩=some (.bool fs[k]):=by
 obtain⟨b,o,e,_,hb,hc⟩:=h.raw.2 (by omega);exact⟨b,o,e,hc _ _ (by simp[List.getElem?_eq_getElem hk])⟩
theorem bB.bz{fs:List Bool}(h:bB w lo hi A fs)(hb:Below w.heap.size w w'):bB w' lo hi A fs:=Rd.bz h hb
theorem bB.cl{b o:Nat}{fs:List Bool}(h:bB w lo hi (some ⟨b,o,none⟩) fs){k:Nat}(hk:k<fs.length):w.cell? ⟨b,o+k,none⟩=some (.bool fs[k]):=by
 obtain⟨b',o',e,hc⟩:=h.at hk;simp only[Option.some.injEq,Addr.mk.injEq,and_true] at e;obtain⟨rfl,rfl⟩:=e;exact hc
theorem bG.cl{b o:Nat}{fs:List Int}(h:bG w lo hi (some ⟨b,o,none⟩) fs){k:Nat}(hk:k<fs.length):w.cell? ⟨b,o+k,none⟩=some (.int .i64 fs[k]):=by
 obtain⟨b',o',e,hc⟩:=h.at hk;simp only[Option.some.injEq,Addr.mk.injEq,and_true] at e;obtain⟨rfl,rfl⟩:=e;exact hc
theorem aG.bz{fs:List aF}(h:aG w lo hi A fs)(hb:Below w.heap.size w w'):aG w' lo hi A fs:=Rd.bz h hb
theorem aB.bz{fs:List aL}(h:aB w lo hi A fs)(hb:Below w.heap.size w w'):aB w' lo hi A fs:=Rd.bz h hb
theorem bG.bz{fs:List Int}(h:bG w lo hi A fs)(hb:Below w.heap.size w w'):bG w' lo hi A fs:=Rd.bz h hb
theorem aM.bz{v:Value}{a:au}(h:aM w lo hi v a)(hb:Below w.heap.size w w'):aM w' lo hi v a:=by
 obtain⟨A1,c1,A2,c2,e,h1,h2⟩:=h;exact⟨A1,c1,A2,c2,e,h1.bz hb,h2.bz hb⟩
theorem aM.kM{v:Value}{a:au}(h:aM w lo hi v a){p:Addr}(hp:p.block<lo\/hi<=p.block)(u:Value):aM (w.setCell p u) lo hi v a:=by
 obtain⟨A1,c1,A2,c2,e,h1,h2⟩:=h;exact⟨A1,c1,A2,c2,e,Rd.kM h1 hp u,Rd.kM h2 hp u⟩
theorem aM.GR{bJ:Nat}{v:Value}{a:au}(h:aM w lo hi v a)(hb:uK bJ w w')(hl:bJ<=lo):aM w' lo hi v a:=by
 obtain⟨A1,c1,A2,c2,e,h1,h2⟩:=h;exact⟨A1,c1,A2,c2,e,Rd.GR h1 hb hl,Rd.GR h2 hb hl⟩
theorem aM.mono{v:Value}{a:au}{bJ hi':Nat}(h:aM w lo hi v a)(e1:bJ<=lo)(e2:hi<=hi'):aM w bJ hi' v a:=by
 obtain⟨A1,c1,A2,c2,e,h1,h2⟩:=h;exact⟨A1,c1,A2,c2,e,Rd.mono h1 e1 e2,Rd.mono h2 e1 e2⟩
theorem bG.mono{fs:List Int}{bJ hi':Nat}(h:bG w lo hi A fs)(e1:bJ<=lo)(e2:hi<=hi'):bG w bJ hi' A fs:=Rd.mono h e1 e2
theorem aG.mono{fs:List aF}{bJ hi':Nat}(h:aG w lo hi A fs)(e1:bJ<=lo)(e2:hi<=hi'):aG w bJ hi' A fs:=Rd.mono h e1 e2
theorem aB.mono{fs:List aL}{bJ hi':Nat}(h:aB w lo hi A fs)(e1:bJ<=lo)(e2:hi<=hi'):aB w bJ hi' A fs:=Rd.mono h e1 e2
end
def jq(n:Int):Bool:=decide (0<=n/\n<=8)
def iF(n:Int):Bool:=decide (1<=n/\n<=4)
def aF.valid(f:aF):Bool:=jq f.a&&jq f.b
def aL.valid(x:aL):Bool:=decide (x.kind=1\/x.kind=2)&&jq x.a&&jq x.b
def aS(fs:List aF):Bool:=decide (fs.length<=12)&&fs.all aF.valid
def au.valid(a:au):Bool:=aS a.facts&&(decide (a.atoms.length<=6)&&a.atoms.all aL.valid)
theorem jm{α:Type}(p:α->Bool)(l:List α)(k:Nat)(hk:k<l.length):(l.drop k).all p=(p l[k]&&(l.drop (k+1)).all p):=by
 rw[List.drop_eq_getElem_cons hk,List.all_cons]
theorem drop_eq{α:Type}[DecidableEq α](l m:List α)(k:Nat)(h1:k<l.length)(h2:k<m.length):decide (l.drop k=m.drop k)=(decide (l[k]=m[k])&&decide (l.drop (k+1)=m.drop (k+1))):=by
 rw[List.drop_eq_getElem_cons h1,List.drop_eq_getElem_cons h2];simp only[List.cons.injEq,Bool.decide_and]
theorem aF.eq_iff(f g:aF):f=g↔f.eq=g.eq/\f.a=g.a/\f.b=g.b:=by cases f;cases g;simp
theorem aL.eq_iff(f g:aL):f=g↔f.kind=g.kind/\f.a=g.a/\f.b=g.b:=by cases f;cases g;simp
theorem au.eq_iff(f g:au):f=g↔f.facts=g.facts/\f.atoms=g.atoms:=by cases f;cases g;simp
end
section
open Go Go.RowKit Go.Proofs Go.ChangeShapes Go.WideShapes Go.ChangeAt Go.Deep
theorem O'{α:Type}(e:α->List Value)(size:Nat)(hs:∀a,(e a).length=size):∀(xs:List α) (j:Nat) (u:Value),(xs.flatMap e)[j]? = some u->∃i r,∃h:i<xs.length,r<size/\j=i * size+r/\(e xs[i])[r]? = some u:=by
 intro xs
 induction xs with
 | nil=>intro j u h;simp at h
 | cons x xs ih=>
  intro j u h;rw[flatMap_cons,List.getElem?_append] at h
  split at h
  ·rename_i hj;exact⟨0,j,by simp,by rw[hs] at hj;exact hj,by omega,h⟩
  ·rename_i hj;rw[hs] at h hj;obtain⟨i,r,hi,hr,he,hx⟩:=ih _ _ h;exact⟨i+1,r,by simp;omega,hr,by rw[Nat.add_mul];omega,by simpa using hx⟩
theorem Mi{α:Type}(e:α->List Value)(size:Nat)(hs:∀a,(e a).length=size)(xs:List α):(xs.flatMap e).length=xs.length * size:=by
 induction xs with
 | nil=>simp
 | cons x xs ih=>rw[flatMap_cons,length_append,ih,hs,length_cons,Nat.add_mul];omega
theorem De{w:World}{a:Addr}{v:Value}(h:w.cell? a=some v):a.spot=none:=by
 unfold World.cell? at h
 split at h
 ·split at h
  ·cases h
  ·rename_i h2;cases hs:a.spot<;>simp_all
 ·cases h
section
variable{H:Type}{enc:TypeId×Value->H}{P:Program}{w:World}{base:Nat}{spare:Nat->Bool}{held:Bool}
theorem Mj{α:Type}[Inhabited α]{t e:TypeId}{fuel:Nat}{cs:List Value}{x:DataW H×List MemPlace}(en:α->List Value)(size:Nat)(hs:∀a,(en a).length=size)(hsz:0<size)(he:P.cellsOf e=size)
  (ht:P.underlying t=some (.slice e)) (hel:∀n cs x,DataW.trod enc P w base spare held n e cs=some x->∃a,cs=en a) (h:DataW.trod enc P w base spare held fuel t cs=some x) :
  ∃(A:Option Addr) (c:Nat) (xs:List α),cs=[.slice A xs.length c]/\xs.length<=9223372036854775807/\Rw w 0 w.heap.size size A xs.length (xs.flatMap en):=by
 rcases open_slice ht h with ⟨rfl,_⟩|⟨a,len,cap,m,n,D,Pl,rfl,hb,hl,hm,hmm,_,hx⟩
 ·exact⟨none,0,[],rfl,by simp,by simp,fun h=>by simp at h⟩
 ·have hlm:len<=m:=by rw[hmm];split<;>omega
  obtain⟨f,hf⟩:=choose_lt (α:=α) (n:=len) (p:=fun i a'=>w.cells? base (a.add (i * size)) size=some (en a')) (fun i hi=>by
   obtain⟨cs',h1,h2⟩:=hx i (by omega);obtain⟨a',rfl⟩:=hel _ _ _ h2;rw[he] at h1
   exact⟨a',h1⟩)
  refine⟨some a,cap,(range len).map f,by simp,by simp;unfold maxLen at hm;omega,?_,fun hn=>?_⟩
  ·rw[Mi en size hs]
  ·have hn':0<len:=by
    rcases Nat.eq_zero_or_pos len with h0|h0
    ·subst h0;simp at hn
    ·exact h0
   have hcell:∀i,i<len->∀j,j<size->w.cell? ((a.add (i * size)).add j)=(en (f i))[j]?:=fun i hi j hj=>(World.cells?_some (hf i hi)).2.2 j hj;have h00:=hcell 0 hn' 0 hsz;have hx0:(en (f 0))[0]? = some ((en (f 0))[0]'(by rw[hs];exact hsz)):=List.getElem?_eq_getElem _;rw[hx0,Nat.zero_mul] at h00;have e0:(a.add 0).add 0=a:=by simp[Addr.add]
   rw[e0] at h00;have hsp:=De h00;obtain⟨b,o,s⟩:=a;simp only at hsp;subst hsp;refine⟨b,o,rfl,Nat.zero_le _,World.block_lt_of_cell? w _ h00,fun j u hu=>?_⟩;obtain⟨i,r,hi,hr,rfl,hu2⟩:=O' en size hs _ _ _ hu;have hi':i<len:=by simpa using hi
   have hc:=hcell i hi' r hr
   have ea:((⟨b,o,none⟩:Addr).add (i * size)).add r=⟨b,o+(i * size+r),none⟩:=by
    rw[Go.Deep.add_add];unfold Addr.add;split
    ·rename_i h0;rw[h0];rfl
    ·rfl
   rw[ea] at hc;rw[hc];simpa using hu2
end
section
variable{H:Type}{enc:TypeId×Value->H}{w:World}{base:Nat}{spare:Nat->Bool}{held:Bool}{fuel:Nat}{cs:List Value}{x:DataW H×List MemPlace}
end
end
section
open Go Go.RowKit Go.Proofs
abbrev tF:Nat:=71
abbrev tA:Nat:=74
abbrev tI:Nat:=3
def ah(w:World)(base:Nat)(v:Value)(fs:List aF):Prop:=w.ownsRow base tF 3 v fs.length (iJ fs)/\il fs.length
def af(w:World)(base:Nat)(v:Value)(xs:List aL):Prop:=w.ownsRow base tA 3 v xs.length (gK xs)/\il xs.length
def aD(w:World)(base:Nat)(v:Value)(xs:List Int):Prop:=w.ownsRow base tI 1 v xs.length (encI xs)/\il xs.length
def aI(w:World)(base:Nat)(v:Value)(a:au):Prop:=∃fv av,v=.agg #[fv,av]/\ah w base fv a.facts/\af w base av a.atoms
section
variable{w w':World}{base base':Nat}{v:Value}
theorem ah.bz{fs:List aF}(h:ah w base v fs)(hb:Below w.heap.size w w'):ah w' base v fs:=⟨own_below h.1 hb,h.2⟩
theorem af.bz{fs:List aL}(h:af w base v fs)(hb:Below w.heap.size w w'):af w' base v fs:=⟨own_below h.1 hb,h.2⟩
theorem aD.bz{fs:List Int}(h:aD w base v fs)(hb:Below w.heap.size w w'):aD w' base v fs:=⟨own_below h.1 hb,h.2⟩
theorem aI.bz{a:au}(h:aI w base v a)(hb:Below w.heap.size w w'):aI w' base v a:=by
 obtain⟨fv,av,e,h1,h2⟩:=h;exact⟨fv,av,e,h1.bz hb,h2.bz hb⟩
theorem ah.kM{fs:List aF}(h:ah w base v fs){a:Addr}(ha:a.block<base)(u:Value):ah (w.setCell a u) base v fs:=⟨ownsRow_setCell_below h.1 ha u,h.2⟩
theorem af.kM{fs:List aL}(h:af w base v fs){a:Addr}(ha:a.block<base)(u:Value):af (w.setCell a u) base v fs:=⟨ownsRow_setCell_below h.1 ha u,h.2⟩
theorem aD.kM{fs:List Int}(h:aD w base v fs){a:Addr}(ha:a.block<base)(u:Value):aD (w.setCell a u) base v fs:=⟨ownsRow_setCell_below h.1 ha u,h.2⟩
theorem aI.kM{a:au}(h:aI w base v a){p:Addr}(ha:p.block<base)(u:Value):aI (w.setCell p u) base v a:=by
 obtain⟨fv,av,e,h1,h2⟩:=h;exact⟨fv,av,e,h1.kM ha u,h2.kM ha u⟩
theorem ah.GR{lo:Nat}{fs:List aF}(h:ah w base v fs)(hb:uK lo w w')(hl:lo<=base):ah w' base v fs:=⟨uL h.1 hb hl,h.2⟩
theorem af.GR{lo:Nat}{fs:List aL}(h:af w base v fs)(hb:uK lo w w')(hl:lo<=base):af w' base v fs:=⟨uL h.1 hb hl,h.2⟩
theorem aD.GR{lo:Nat}{fs:List Int}(h:aD w base v fs)(hb:uK lo w w')(hl:lo<=base):aD w' base v fs:=⟨uL h.1 hb hl,h.2⟩
theorem aI.GR{lo:Nat}{a:au}(h:aI w base v a)(hb:uK lo w w')(hl:lo<=base):aI w' base v a:=by
 obtain⟨fv,av,e,h1,h2⟩:=h;exact⟨fv,av,e,h1.GR hb hl,h2.GR hb hl⟩
theorem ah.bq{fs:List aF}(h:ah w base v fs)(hb:base'<=base:=by omega):ah w base' v fs:=⟨fu h.1 hb,h.2⟩
theorem af.bq{fs:List aL}(h:af w base v fs)(hb:base'<=base:=by omega):af w base' v fs:=⟨fu h.1 hb,h.2⟩
theorem aD.bq{fs:List Int}(h:aD w base v fs)(hb:base'<=base:=by omega):aD w base' v fs:=⟨fu h.1 hb,h.2⟩
theorem aI.bq{a:au}(h:aI w base v a)(hb:base'<=base:=by omega):aI w base' v a:=by
 obtain⟨fv,av,e,h1,h2⟩:=h;exact⟨fv,av,e,h1.bq hb,h2.bq hb⟩
theorem ah.rj{fs:List aF}(h:ah w base v fs):∃A c,v=.slice A fs.length c/\aG w base w.heap.size A fs:=bZ h.1 h.2
theorem af.rj{fs:List aL}(h:af w base v fs):∃A c,v=.slice A fs.length c/\aB w base w.heap.size A fs:=bZ h.1 h.2
theorem aD.rj{fs:List Int}(h:aD w base v fs):∃A c,v=.slice A fs.length c/\bG w base w.heap.size A fs:=bZ h.1 h.2
theorem aD.dG{A:Option Addr}{n c:Nat}{fs:List Int}(h:aD w base (.slice A n c) fs):n=fs.length/\bG w base w.heap.size A fs:=by
 obtain⟨A',c',e,h'⟩:=h.rj;injection e with e1 e2 e3;subst e1;exact⟨e2,h'⟩
theorem ah.dG{A:Option Addr}{n c:Nat}{fs:List aF}(h:ah w base (.slice A n c) fs):n=fs.length/\aG w base w.heap.size A fs:=by
 obtain⟨A',c',e,h'⟩:=h.rj;injection e with e1 e2 e3;subst e1;exact⟨e2,h'⟩
theorem af.dG{A:Option Addr}{n c:Nat}{fs:List aL}(h:af w base (.slice A n c) fs):n=fs.length/\aB w base w.heap.size A fs:=by
 obtain⟨A',c',e,h'⟩:=h.rj;injection e with e1 e2 e3;subst e1;exact⟨e2,h'⟩
theorem aI.rj{a:au}(h:aI w base v a):aM w base w.heap.size v a:=by
 obtain⟨fv,av,e,h1,h2⟩:=h;obtain⟨A1,c1,rfl,g1⟩:=h1.rj;obtain⟨A2,c2,rfl,g2⟩:=h2.rj;exact⟨A1,c1,A2,c2,e,g1,g2⟩
end
theorem Jv:(Tryz.prog.info? tF).map (fun i=>(i.zero,i.size,i.bytes))=some (some (.agg #[.bool false,.int .i64 0,.int .i64 0]),3,24):=by kernel_rfl
theorem Jw:(Tryz.prog.info? tA).map (fun i=>(i.zero,i.size,i.bytes))=some (some (.agg #[.int .i64 0,.int .i64 0,.int .i64 0]),3,24):=by kernel_rfl
theorem Jy:(Tryz.prog.info? tI).map (fun i=>(i.zero,i.size,i.bytes))=some (some (.int .i64 0),1,8):=by kernel_rfl
theorem jo{P:Program}(t e:TypeId)(i:TypeInfo)(z:Value)(ht:P.underlying t=some (.slice e))(hi:P.info? e=some i)(hz:i.zero=some z)
  (kl kc:IntKind) (n c:Nat) (hnc:n<=c) (hbytes:i.bytes * c<=281474976710656) (h63:c<=9223372036854775807) (w:World) :
  (Instr.makeSlice t (.int kl (n:Int)) (.int kc (c:Int))).run P w=.ok (.slice (some ⟨w.heap.size,0,none⟩) n c) (w.alloc (.cells (madeCells z.cells (c * i.size)) e)):=by
 have hb:(i.bytes:Int) * (c:Int)<=281474976710656:=by
  have h:((i.bytes * c:Nat):Int)<=281474976710656:=by omega
  rwa [Int.natCast_mul] at h
 have hr:=run_make (P:=P) w t e i z ht hi hz kl kc n c (by omega) (by omega) hb (by omega);simp only[Int.toNat_natCast] at hr;exact hr
theorem X5(n:Nat)(h:il n)(w:World):(Instr.makeSlice 24 (.int .i64 (n:Int)) (.int .i64 (n:Int))).run Tryz.prog w=.ok (.slice (some ⟨w.heap.size,0,none⟩) n n) (w.alloc (.cells (madeCells #[.int .i64 0,.int .i64 0,.int .i64 0] (n * 3)) tA)):=by
 obtain⟨i,hi,hz,hs,hb⟩:=info_parts Jw;have:=jo (P:=Tryz.prog) 24 tA i _ Tryz.underlying24 hi hz .i64 .i64 n n (Nat.le_refl _) (by rw[hb];unfold il at h;omega) (by unfold il at h;omega) w
 rwa [hs] at this
abbrev tB:Nat:=4
theorem UE:(Tryz.prog.info? tB).map (fun i=>(i.zero,i.size,i.bytes))=some (some (.bool false),1,1):=by kernel_rfl
def bX(w:World)(base:Nat)(v:Value)(xs:List Bool):Prop:=w.ownsRow base tB 1 v xs.length (dN xs)/\il xs.length
theorem bX.bz{w w':World}{base:Nat}{v:Value}{fs:List Bool}(h:bX w base v fs)(hb:Below w.heap.size w w'):bX w' base v fs:=⟨own_below h.1 hb,h.2⟩
theorem bX.bq{w:World}{base base':Nat}{v:Value}{fs:List Bool}(h:bX w base v fs)(hb:base'<=base:=by omega):bX w base' v fs:=⟨fu h.1 hb,h.2⟩
theorem bX.GR{w w':World}{base:Nat}{v:Value}{lo:Nat}{fs:List Bool}(h:bX w base v fs)(hb:uK lo w w')(hl:lo<=base):bX w' base v fs:=⟨uL h.1 hb hl,h.2⟩
theorem bX.rj{w:World}{base:Nat}{v:Value}{fs:List Bool}(h:bX w base v fs):∃A c,v=.slice A fs.length c/\bB w base w.heap.size A fs:=bZ h.1 h.2
theorem mkB(n:Nat)(h:il n)(w:World):(Instr.makeSlice 57 (.int .i64 (n:Int)) (.int .i64 (n:Int))).run Tryz.prog w=.ok (.slice (some ⟨w.heap.size,0,none⟩) n n) (w.alloc (.cells (madeCells #[.bool false] (n * 1)) tB)):=by
 obtain⟨i,hi,hz,hs,hb⟩:=info_parts UE;have:=jo (P:=Tryz.prog) 57 tB i _ Tryz.underlying57 hi hz .i64 .i64 n n (Nat.le_refl _) (by rw[hb];unfold il at h;omega) (by unfold il at h;omega) w
 rwa [hs] at this
end
section
open Go Go.RowKit
theorem ofInt_u16(a:Nat)(ha:a<65536):(BitVec.ofInt 16 (a:Int)).toNat=a:=by
 rw[BitVec.ofInt_natCast,BitVec.toNat_ofNat];exact Nat.mod_eq_of_lt (by omega)
theorem wrap_u16(a:Nat)(ha:a<65536):IntKind.u16.wrap (a:Int)=a:=by
 simp[IntKind.wrap,IntKind.bits,IntKind.signed];omega
theorem u16_and_nat(a b:Nat)(ha:a<65536)(hb:b<65536):bits .and .u16 (a:Int) (b:Int)=((a &&& b:Nat):Int):=by
 have hx:a &&& b<2 ^ 16:=Nat.and_lt_two_pow _ (by omega);show IntKind.u16.wrap ((BitVec.ofInt 16 (a:Int) &&& BitVec.ofInt 16 (b:Int)).toNat:Int)=_;rw[BitVec.toNat_and,ofInt_u16 a ha,ofInt_u16 b hb,wrap_u16 _ (by omega)]
theorem u16_or_nat(a b:Nat)(ha:a<65536)(hb:b<65536):bits .or .u16 (a:Int) (b:Int)=((a|||b:Nat):Int):=by
 have hx:a|||b<2 ^ 16:=Nat.or_lt_two_pow (by omega) (by omega);show IntKind.u16.wrap ((BitVec.ofInt 16 (a:Int)|||BitVec.ofInt 16 (b:Int)).toNat:Int)=_;rw[BitVec.toNat_or,ofInt_u16 a ha,ofInt_u16 b hb,wrap_u16 _ (by omega)]
theorem Pb(S n:Nat)(hS:S<65536):(bits .and .u16 ((S:Int) / 2 ^ n) 1 == 1)=S.testBit n:=by
 have e:((S:Int) / 2 ^ n)=((S / 2 ^ n:Nat):Int):=by simp
 have hlt:S / 2 ^ n<65536:=Nat.lt_of_le_of_lt (Nat.div_le_self _ _) hS;rw[e,show (1:Int)=((1:Nat):Int) from rfl,u16_and_nat _ _ hlt (by omega)];rw[Nat.testBit_eq_decide_div_mod_eq];rw[Nat.and_one_is_mod];rw[Bool.eq_iff_iff];simp only[beq_iff_eq,decide_eq_true_eq];omega
theorem Rq(T n:Nat)(hT:T<65536)(hn:n<16):bits .or .u16 (T:Int) (IntKind.u16.wrap (2 ^ n))=((T|||1 <<< n:Nat):Int):=by
 have h2:2 ^ n<65536:=by
  have:2 ^ n<=2 ^ 15:=Nat.pow_le_pow_right (by omega) (by omega);omega
 have e:(2:Int) ^ n=((2 ^ n:Nat):Int):=by simp
 rw[e,wrap_u16 _ h2,u16_or_nat _ _ hT h2,Nat.one_shiftLeft]
end
section
open Go Go.RowKit Go.Proofs
structure Fr (g:Nat) (w w':World):Prop where
 os:w'.os=w.os
 tape:w'.tape=w.tape
 output:w'.output=w.output
 size:w.heap.size<=w'.heap.size
 block:∀k,k<w.heap.size->k≠g->w'.heap[k]? = w.heap[k]?
section
variable{g:Nat}{w a b c:World}
theorem Fr.refl(g:Nat)(w:World):Fr g w w:=⟨rfl,rfl,rfl,bn,fun _ _ _=>rfl⟩
theorem Fr.trans(h:Fr g a b)(k:Fr g b c):Fr g a c:=
 ⟨k.os.trans h.os,k.tape.trans h.tape,k.output.trans h.output,Nat.le_trans h.size k.size,fun i h1 h2=>(k.block i (Nat.lt_of_lt_of_le h1 h.size) h2).trans (h.block i h1 h2)⟩
theorem Fr.uN(h:Below a.heap.size a b):Fr g a b:=⟨h.os,h.tape,h.output,h.size,fun k h1 _=>h.block k h1⟩
theorem Fr.go(h:Fr g a b)(k:Below b.heap.size b c):Fr g a c:=h.trans (.uN k)
theorem Fr.alloc(h:Fr g a b)(o:Obj):Fr g a (b.alloc o):=h.go (ai aU o)
theorem Fr.drew(h:Fr g a b):Fr g a b.drew:=h.go aU.drew
theorem Fr.ag(h:Fr g a b){p:Addr}(hp:p.block=g\/a.heap.size<=p.block)(u:Value):Fr g a (b.setCell p u):=
 ⟨h.os,h.tape,h.output,by have:=h.size;simp;exact this,fun k h1 h2=>(Below.heap_setCell b p u k (by rcases hp with e|e<;>omega)).trans (h.block k h1 h2)⟩
theorem Fr.bz{B:Nat}(h:Fr g a b)(hg:B<=g)(hB:B<=a.heap.size):Below B a b:=⟨h.os,h.tape,h.output,h.size,fun k hk=>h.block k (by omega) (by omega)⟩
theorem ae.fr{x:Nat}{t:TypeId}{cs:Array Value}(h:ae a x t cs)(hf:Fr g a b)(hx:x≠g:=by omega):ae b x t cs:=(hf.block x h.lt hx).trans h
theorem Rw.fr{lo hi size n:Nat}{A:Option Addr}{xs:List Value}(h:Rw a lo hi size A n xs)(hf:Fr g a b)(hg:g<lo\/hi<=g:=by omega):Rw b lo hi size A n xs:=
 ⟨h.1,fun hn=>by
  obtain⟨k,o,e,h1,h2,hc⟩:=h.2 hn;have h0:=h.1;have hx:xs[0]? = some (xs[0]'(by omega)):=List.getElem?_eq_getElem (by omega);have hlt:k<a.heap.size:=block_lt_of_cell (hc 0 _ hx)
  exact⟨k,o,e,h1,h2,fun j u hu=>(World.cell?_of_block (a:=⟨k,o+j,none⟩) (hf.block k hlt (by omega))).trans (hc j u hu)⟩⟩
theorem Rd.fr{lo hi size n:Nat}{A:Option Addr}{xs:List Value}(h:Rd a lo hi size A n xs)(hf:Fr g a b)(hg:g<lo\/hi<=g:=by omega):Rd b lo hi size A n xs:=⟨h.raw.fr hf hg,h.lim⟩
theorem yV{base:Nat}{e:TypeId}{size:Nat}{v:Value}{n:Nat}{xs:List Value}(h:a.ownsRow base e size v n xs)(hf:Fr g a b)(hg:g<base):b.ownsRow base e size v n xs:=by
 obtain⟨h1,h2⟩:=h;refine⟨h1,?_⟩;rcases h2 with h2|⟨k,cap,cur,hv,hk,hh,r⟩
 ·exact Or.inl h2
 ·exact Or.inr ⟨k,cap,cur,hv,hk,(hf.block k (ae.lt hh) (by omega)).trans hh,r⟩
variable{base:Nat}{v:Value}
theorem ah.fr{fs:List aF}(h:ah a base v fs)(hf:Fr g a b)(hg:g<base:=by omega):ah b base v fs:=⟨yV h.1 hf hg,h.2⟩
theorem af.fr{fs:List aL}(h:af a base v fs)(hf:Fr g a b)(hg:g<base:=by omega):af b base v fs:=⟨yV h.1 hf hg,h.2⟩
theorem aD.fr{fs:List Int}(h:aD a base v fs)(hf:Fr g a b)(hg:g<base:=by omega):aD b base v fs:=⟨yV h.1 hf hg,h.2⟩
theorem aI.fr{x:au}(h:aI a base v x)(hf:Fr g a b)(hg:g<base:=by omega):aI b base v x:=by
 obtain⟨fv,av,e,h1,h2⟩:=h;exact⟨fv,av,e,h1.fr hf hg,h2.fr hf hg⟩
end
abbrev tR:Nat:=67
def Df(bs:List Nat):List Value:=bs.map fun b:Nat=>.int .u8 (b:Int)
def dX(w:World)(g p:Nat):Prop:=∃A c bs,ae w g tR #[.slice A bs.length c,.int .i64 (p:Int)]/\Rw w 0 g 1 A bs.length (Df bs)/\(∀b∈bs,b<256)/\bs.length<=2000
theorem dX.lt{w:World}{g p:Nat}(h:dX w g p):g<w.heap.size:=by obtain⟨_,_,_,h,-⟩:=h;exact h.lt
theorem dX.bz{w w':World}{g p:Nat}(h:dX w g p)(hb:Below w.heap.size w w'):dX w' g p:=by
 obtain⟨A,c,bs,h1,h2,h3⟩:=h;exact⟨A,c,bs,h1.nz hb,h2.bz hb,h3⟩
theorem dX.ag{w:World}{g p:Nat}(h:dX w g p){q:Addr}(hq:g<q.block)(u:Value):dX (w.setCell q u) g p:=by
 obtain⟨A,c,bs,h1,h2,h3⟩:=h;exact⟨A,c,bs,h1.far (by omega) u,h2.keep fun b _ hb=>Below.heap_setCell w q u b (by omega),h3⟩
theorem yX(a:Nat)(ha:a<9223372036854775808):(BitVec.ofInt 64 (a:Int)).toNat=a:=by
 rw[BitVec.ofInt_natCast,BitVec.toNat_ofNat];exact Nat.mod_eq_of_lt (by omega)
theorem Kn(a:Nat)(ha:a<9223372036854775808):IntKind.i64.wrap (a:Int)=a:=by
 simp[IntKind.wrap,IntKind.bits,IntKind.signed];omega
theorem EB(a b:Nat)(ha:a<9223372036854775808)(hb:b<9223372036854775808):bits .xor .i64 (a:Int) (b:Int)=((a ^^^ b:Nat):Int):=by
 have hx:a ^^^ b<2 ^ 63:=Nat.xor_lt_two_pow (by omega) (by omega);show IntKind.i64.wrap ((BitVec.ofInt 64 (a:Int) ^^^ BitVec.ofInt 64 (b:Int)).toNat:Int)=_;rw[BitVec.toNat_xor,yX a ha,yX b hb,Kn _ (by omega)]
theorem Dg{w:World}{lo hi:Nat}{A:Option Addr}{bs:List Nat}(h:Rw w lo hi 1 A bs.length (Df bs)){k:Nat}(hk:k<bs.length):∃b o,A=some ⟨b,o,none⟩/\b<hi/\w.cell? ⟨b,o+k,none⟩=some (.int .u8 (bs[k]:Int)):=by
 obtain⟨b,o,u,e,h1,h2,h3,h4⟩:=h.at1 hk;refine⟨b,o,e,h2,?_⟩;rw[h4,<-h3];simp[Df,hk]
theorem yY{n:Int}(h:1<=n){x:Nat}:((x % n.toNat:Nat):Int)=(x:Int) % n:=by
 rw[Int.natCast_emod,Int.toNat_of_nonneg (by omega)]
theorem Jz{n:Int}(h:1<=n){x:Nat}:((x % n.toNat:Nat):Int)<n:=by
 rw[yY h];exact Int.emod_lt_of_pos _ (by omega)
theorem iw(g p:Nat)(n:Int)(w:World)(h:dX w g p)(hp:p<=1000000) :
  Calls Tryz.prog 33 #[.pointer (some ⟨g,0,none⟩),.int .i64 n] w fun e w'=>∃m:Nat,e=.returned (.int .i64 (m:Int))/\(m=0\/(m:Int)<n)/\dX w' g (p+1)/\Fr g w w':=by
 obtain⟨A,c,bs,k0,hR,hU,hl⟩:=h;have hpi:(p:Int)<=1000000:=by omega
 have Pd:(bs.length:Int)<=2000:=by omega
 have Xf:aJ (dX (w.setCell ⟨g,1,none⟩ (.int .i64 ((p:Int)+1))) g (p+1)):=by
  refine⟨A,c,bs,?_,hR.keep fun b _ hb=>Below.heap_setCell w _ _ b (by simp only;omega),hU,hl⟩;have:=k0.ag 1 (.int .i64 ((p:Int)+1));simpa using this
 have GU:aJ (Fr g w (w.setCell ⟨g,1,none⟩ (.int .i64 ((p:Int)+1)))):=(Fr.refl g w).ag (Or.inl rfl) _;have q0:=k0.cell;have f0:=k0.frozen;have hRR:=ax hR;have HU:=ax hU;clear hR hU hp hl;by_cases hn:n<1
 ·(go_enter Tryz.func33,Tryz.ntmps33);go_wp2;go_ret;exact⟨0,rfl,Or.inl rfl,Xf.o,GU.o⟩
 ·have hn':1<=n:=by omega
  by_cases he:bs.length=0
  ·have he':((bs.length:Int) == 0)=true:=by simp[he]
   clear he;(go_enter Tryz.func33,Tryz.ntmps33);go_wp2;go_ret;exact⟨0,rfl,Or.inl rfl,Xf.o,GU.o⟩
  ·have he':((bs.length:Int) == 0)=false:=by simpa using he
   by_cases hlt:p<bs.length
   ·obtain⟨b,o,rfl,hb,c0⟩:=Dg hRR.o hlt;have Br:(p:Int)<(bs.length:Int):=by omega
    have hbv:=HU.o _ (getElem_mem hlt);obtain⟨x,hx⟩:∃x,x=bs[p]:=⟨_,rfl⟩;rw[<-hx] at c0 hbv;have hbl:=block_lt_of_cell c0;have hbg:b≠g:=by omega
    clear hx he;(go_enter Tryz.func33,Tryz.ntmps33);go_wp2;go_ret;exact⟨x % n.toNat,sJ (yY hn').symm,Or.inr (Jz hn'),Xf.o,GU.o⟩
   ·have hle:(bs.length:Int)<=(p:Int):=by omega
    have hpos:0<bs.length:=by omega
    obtain⟨b,o,rfl,hb,c0⟩:=Dg hRR.o (Nat.mod_lt p hpos);obtain⟨b',o',e',hb',c1⟩:=Dg hRR.o (Nat.mod_lt (p * 7+3) hpos);injection e' with e';injection e' with e1 e2;subst e1 e2;have hbv:=HU.o _ (getElem_mem (Nat.mod_lt p hpos));have hbw:=HU.o _ (getElem_mem (Nat.mod_lt (p * 7+3) hpos));obtain⟨x,hx⟩:∃x,x=bs[p % bs.length]'(Nat.mod_lt p hpos):=⟨_,rfl⟩;obtain⟨y,hy⟩:∃y,y=bs[(p * 7+3) % bs.length]'(Nat.mod_lt (p * 7+3) hpos):=⟨_,rfl⟩;rw[<-hx] at c0 hbv;rw[<-hy] at c1 hbw;have hbl:=block_lt_of_cell c0;have hbg:b≠g:=by omega
    have hnil:¬bs=[]:=fun e=>by rw[e] at he;exact he rfl
    have t1:(p:Int).tmod (bs.length:Int)=((p % bs.length:Nat):Int):=by rw[Int.tmod_eq_emod_of_nonneg (by omega)];exact(Int.natCast_emod _ _).symm
    have t2:((p:Int) * 7+3).tmod (bs.length:Int)=(((p * 7+3) % bs.length:Nat):Int):=by rw[Int.tmod_eq_emod_of_nonneg (by omega)];exact(Int.natCast_emod _ _).symm
    have t3:(p:Int).tdiv (bs.length:Int)=((p / bs.length:Nat):Int):=by rw[Int.tdiv_eq_ediv_of_nonneg (by omega)];exact(Int.natCast_ediv _ _).symm
    have t4:((p / bs.length:Nat):Int)<=1000000:=by have:=Nat.div_le_self p bs.length;omega
    have l1:((p % bs.length:Nat):Int)<(bs.length:Int):=by have:=Nat.mod_lt p hpos;omega
    have l2:(((p * 7+3) % bs.length:Nat):Int)<(bs.length:Int):=by have:=Nat.mod_lt (p * 7+3) hpos;omega
    obtain⟨i,hi⟩:∃i,i=p % bs.length:=⟨_,rfl⟩;obtain⟨j,hj⟩:∃j,j=(p * 7+3) % bs.length:=⟨_,rfl⟩;obtain⟨d,hd⟩:∃d,d=p / bs.length:=⟨_,rfl⟩;rw[<-hi] at c0 t1 l1;rw[<-hj] at c1 t2 l2;rw[<-hd] at t3 t4;clear hx hy he hlt hi hj hd hpos;(go_enter Tryz.func33,Tryz.ntmps33);(go_wp2_with fail)
    have hX:aJ (bits .xor .i64 ((x:Int) * 131+(y:Int) * 1117+(p:Int) * 29+(d:Int) * 53) (((x:Int) * 131+(y:Int) * 1117+(p:Int) * 29+(d:Int) * 53) / 64)=(((x * 131+y * 1117+p * 29+d * 53) ^^^ ((x * 131+y * 1117+p * 29+d * 53) / 64):Nat):Int)):=by
     have:=EB (x * 131+y * 1117+p * 29+d * 53) ((x * 131+y * 1117+p * 29+d * 53) / 64) (by omega) (by omega);show _=_;rw[<-this]
     congr 1
    (go_quiet (fail));(go_wp2_with fail);have hRD:dX ((w.setCell ⟨g,1,none⟩ (.int .i64 ((p:Int)+1))).drewN nq) g (p+1):=Xf.o.bz (below_drewN aU nq);have hFR:Fr g w ((w.setCell ⟨g,1,none⟩ (.int .i64 ((p:Int)+1))).drewN nq):=GU.o.go (below_drewN aU nq);go_ret;exact⟨((x * 131+y * 1117+p * 29+d * 53) ^^^ ((x * 131+y * 1117+p * 29+d * 53) / 64)) % n.toNat,sJ (by rw[hX.o,Int.tmod_eq_emod_of_nonneg (Int.natCast_nonneg _),yY hn']),Or.inr (Jz hn'),hRD,hFR⟩
theorem jr{w w':World}{base:Nat}{e:TypeId}{size:Nat}{v:Value}{n:Nat}{xs:List Value}(h:w.ownsRow base e size v n xs)(hg:w.grownBy w' v.ownBlock)(hb:base<=w.heap.size):Below base w w':=
 ⟨hg.os,hg.tape,hg.output,hg.size,fun k hk=>hg.block k (by omega) (fun e=>by have:=(h.lt k e.symm).1;omega)⟩
theorem yZ{P:Program}{ops:Array Oper}{rest:List Oper}{o:Oper}{a:Act}{Q:Exit->Act->World->Prop}{w:World}(hgd:o.guard=none)(s x:Operand)(t:TypeId)
  (ho:o.op=.call { callee:=.builtin .append,args:=#[s,x],argTypes:=#[t,t] })
  {base:Nat} {e:TypeId} {z:Value} {size bytes:Nat} (ht:P.underlying t=some (.slice e)) (hinfo:(P.info? e).map (fun i=>(i.zero,i.size,i.bytes))=some (some z,size,bytes)) (hzs:z.cells.size=size) (hsz:0<size) (hby:bytes<=200)
  {v:Value} {n:Nat} {xs:List Value} (hs:a.eval s=v) (hown:w.ownsRow base e size v n xs)
  (ad:Addr) (news:List Value) (hx:a.eval x=.slice (some ad) 1 1) (hl:news.length=size) (hnews:∀j u,news[j]? = some u->w.cell? (ad.add j)=some u) (h1:∀u∈news,u.oneCell'=true)
  (hn:n+1<=1049600) (hb:base<=w.heap.size)
  (h:∀g c w',w'.ownsRow base e size (.slice (some ⟨g,0,none⟩) (n+1) c) (n+1) (xs++news)->w.grownBy w' v.ownBlock->Below base w w'->wpList P ops Q rest (a.put o.dst (.slice (some ⟨g,0,none⟩) (n+1) c)) w'):wpList P ops Q (o :: rest) a w:=by
 obtain⟨i,hi,hz,hsize,hbytes⟩:=info_parts hinfo;refine wpList_append_own w hgd s x t ho base e i z size bytes ht hi hz hsize hbytes hzs hsz v n xs hs hown ad 1 1 news hx (by omega) hnews h1 (by unfold maxLen;omega) (Nat.le_trans (Nat.mul_le_mul hn hby) (by omega)) hb ?_;intro v' w' ho' hg' _;obtain⟨g,c,rfl,-⟩:=ho'.form (by omega);exact h g c w' ho' hg' (jr hown hg' hb)
theorem jR(w:World)(u:Value)(t:TypeId):(w.alloc (.cells #[u] t)).cell? ⟨w.heap.size,0,none⟩=some u:=(ae.new w t #[u]).cell 0
theorem kP(w:World)(t:TypeId)(size:Nat):(w.alloc (.cells #[] t)).ownsRow w.heap.size t size (.slice (some ⟨w.heap.size,0,none⟩) 0 0) 0 []:=
 ⟨by simp,.inr ⟨w.heap.size,0,#[],rfl,Nat.le_refl _,heap_alloc_new w _,Nat.le_refl _,by decide,by simp,by simp⟩⟩
theorem aD.empty(w:World){g:Nat}(hg:g=w.heap.size):aD (w.alloc (.cells #[] tI)) g (.slice (some ⟨g,0,none⟩) 0 0) []:=by
 subst hg;exact⟨kP w _ _,by simp[il]⟩
theorem aD.nil(w:World)(base:Nat):aD w base (.slice none 0 0) []:=⟨World.ownsRow_nil _ _ _ _,by simp[il]⟩
theorem aD.one(w:World)(n:Int){base:Nat}(hb:base<=w.heap.size):aD (w.alloc (.cells #[.int .i64 n] tI)) base (.slice (some ⟨w.heap.size,0,none⟩) 1 1) [n]:=
 ⟨ed (ae.new w _ _) hb rfl (by intro j hj;obtain rfl:j=0:=(by omega);rfl) (Nat.le_refl _) (by decide) rfl,by simp[il]⟩
section
variable{ops:Array Oper}{rest:List Oper}{o:Oper}{a:Act}{Q:Exit->Act->World->Prop}{w:World}
theorem Ha(hgd:o.guard=none)(s x:Operand)(ho:o.op=.call { callee:=.builtin .append,args:=#[s,x],argTypes:=#[28,28] })
  {base:Nat} {v:Value} {xs:List Int} (hs:a.eval s=v) (hown:aD w base v xs) (g0:Nat) (n:Int) (hx:a.eval x=.slice (some ⟨g0,0,none⟩) 1 1) (hc:w.cell? ⟨g0,0,none⟩=some (.int .i64 n))
  (hn:xs.length+1<=1049600) (hb:base<=w.heap.size)
  (h:∀g c w',aD w' base (.slice (some ⟨g,0,none⟩) (xs.length+1) c) (xs++[n])->w.grownBy w' v.ownBlock->Below base w w'->wpList Tryz.prog ops Q rest (a.put o.dst (.slice (some ⟨g,0,none⟩) (xs.length+1) c)) w'):wpList Tryz.prog ops Q (o :: rest) a w:=by
 refine yZ hgd s x 28 ho Tryz.underlying28 Jy rfl (by decide) (by decide) hs hown.1 ⟨g0,0,none⟩ [.int .i64 n] hx rfl ?_ (by simp[Value.oneCell']) hn hb ?_
 ·intro j u hu
  match j,hu with
  | 0,hu=>simp at hu;subst hu;exact hc
 ·intro g c w' h1 h2 h3;exact h g c w' ⟨by simpa[encI] using h1,by simp[il];omega⟩ h2 h3
end
theorem dh(n:Int)(w:World):Calls Tryz.prog 71 #[.int .i64 n] w fun e w'=>e=.returned (.bool (jq n))/\w=w':=by
 by_cases h:0<=n
 ·by_cases h2:n<=8
  all_goals
   (go_enter Tryz.func71,Tryz.ntmps71);go_wp2;go_ret;exact⟨by simp[jq,h,h2],rfl⟩
 ·(go_enter Tryz.func71,Tryz.ntmps71);go_wp2;go_ret;exact⟨by simp[jq];omega,rfl⟩
theorem dC(n:Int)(w:World):Calls Tryz.prog 54 #[.int .i64 n] w fun e w'=>e=.returned (.bool (jq n))/\w=w':=by
 by_cases h:0<=n
 ·by_cases h2:n<=8
  all_goals
   (go_enter Tryz.func54,Tryz.ntmps54);go_wp2;go_ret;exact⟨by simp[jq,h,h2],rfl⟩
 ·(go_enter Tryz.func54,Tryz.ntmps54);go_wp2;go_ret;exact⟨by simp[jq];omega,rfl⟩
theorem mh(n:Int)(w:World):Calls Tryz.prog 91 #[.int .i64 n] w fun e w'=>e=.returned (.bool (iF n))/\w=w':=by
 by_cases h:1<=n
 ·by_cases h2:n<=4
  all_goals
   (go_enter Tryz.func91,Tryz.ntmps91);go_wp2;go_ret;exact⟨by simp[iF,h,h2],rfl⟩
 ·(go_enter Tryz.func91,Tryz.ntmps91);go_wp2;go_ret;exact⟨by simp[iF];omega,rfl⟩
theorem tQ(n:Int)(w:World):Calls Tryz.prog 108 #[.int .i64 n] w fun e w'=>e=.returned (.bool (iF n))/\w=w':=by
 by_cases h:1<=n
 ·by_cases h2:n<=4
  all_goals
   (go_enter Tryz.func108,Tryz.ntmps108);go_wp2;go_ret;exact⟨by simp[iF,h,h2],rfl⟩
 ·(go_enter Tryz.func108,Tryz.ntmps108);go_wp2;go_ret;exact⟨by simp[iF];omega,rfl⟩
theorem iX(f:aF)(w:World):Calls Tryz.prog 70 #[f.val] w fun r w'=>r=.returned (.bool f.valid)/\Below w.heap.size w w':=by
 (go_enter Tryz.func70,Tryz.ntmps70);(go_wp2_with (go_at_call 71;refine(dh _ _).mono ?_;rintro e w' ⟨rfl,rfl⟩))
 all_goals
  go_ret;exact⟨dz (by simp[aF.valid, *]),aU.alloc bn _⟩
theorem iY(f:aF)(w:World):Calls Tryz.prog 78 #[f.val] w fun r w'=>r=.returned (.bool f.valid)/\Below w.heap.size w w':=by
 (go_enter Tryz.func78,Tryz.ntmps78);(go_wp2_with (go_at_call 54;refine(dC _ _).mono ?_;rintro e w' ⟨rfl,rfl⟩))
 all_goals
  go_ret;exact⟨dz (by simp[aF.valid, *]),aU.alloc bn _⟩
theorem wC(x:aL)(w:World):Calls Tryz.prog 43 #[x.val] w fun r w'=>r=.returned (.bool x.valid)/\Below w.heap.size w w':=by
 (go_enter Tryz.func43,Tryz.ntmps43);(go_wp2_with (go_at_call 71;refine(dh _ _).mono ?_;rintro e w' ⟨rfl,rfl⟩))
 all_goals
  go_ret;exact⟨dz (by simp_all [aL.valid]),aU.alloc bn _⟩
theorem Bt(x:aL)(w:World):Calls Tryz.prog 50 #[x.val] w fun r w'=>r=.returned (.bool x.valid)/\Below w.heap.size w w':=by
 (go_enter Tryz.func50,Tryz.ntmps50);(go_wp2_with (go_at_call 54;refine(dC _ _).mono ?_;rintro e w' ⟨rfl,rfl⟩))
 all_goals
  go_ret;exact⟨dz (by simp_all [aL.valid]),aU.alloc bn _⟩
theorem jS{lo hi:Nat}(A:Option Addr)(c:Nat)(fs:List aF)(w:World)(h:aG w lo hi A fs):Calls Tryz.prog 42 #[.slice A fs.length c] w fun r w'=>r=.returned (.bool (aS fs))/\Below w.heap.size w w':=by
 have hl:=h.le;(go_enter Tryz.func42,Tryz.ntmps42);by_cases h12:12<fs.length
 ·go_wp2;go_ret;exact⟨dz (by simp[aS];omega),aU⟩
 go_wp2
 go_loopw [10] (fun i wr=>∃k:Nat,k<=fs.length/\i=.int .i64 k/\aJ (fs.all aF.valid=(fs.drop k).all aF.valid)/\Below w.heap.size w wr) (fun i _=>fs.length - (intOf i).toNat)
 case atStart=>exact⟨0,dJ,rfl,by simp[aJ],aU⟩
 case round=>
  obtain⟨k,hk,rfl,HA,hB⟩:=hrel;by_cases hlt:k<fs.length
  ·obtain⟨b,off,rfl,c0,c1,c2⟩:=(h.bz hB).at hlt;(go_wp2_with (go_at_call 70;refine(iX fs[k] _).mono ?_;rintro e w' ⟨rfl,hB2⟩))
   ·go_ret;refine⟨dz ?_,aP (ai hB _) hB2⟩;have:=HA.o;rw[jm _ _ _ hlt] at this
    simp_all [aS]
   ·go_round
    case rel=>
     refine⟨k+1,by omega,by go_num,?_,aP (ai hB _) hB2⟩;have:=HA.o;rw[jm _ _ _ hlt] at this
     simp_all [aJ]
    case measure=>simp[intOf];omega
  ·go_wp2;go_ret;have e:k=fs.length:=by omega
   refine⟨dz ?_,hB⟩;have:=HA.o;subst e
   simp_all [aS]
theorem uO{lo hi:Nat}(A:Option Addr)(c:Nat)(fs:List aF)(w:World)(h:aG w lo hi A fs):Calls Tryz.prog 51 #[.slice A fs.length c] w fun r w'=>r=.returned (.bool (aS fs))/\Below w.heap.size w w':=by
 have hl:=h.le;(go_enter Tryz.func51,Tryz.ntmps51);go_wp2
 go_loopw [3] (fun i wr=>∃k:Nat,k<=fs.length/\i=.int .i64 k/\aJ (fs.all aF.valid=(fs.drop k).all aF.valid)/\Below w.heap.size w wr) (fun i _=>fs.length - (intOf i).toNat)
 case atStart=>exact⟨0,dJ,rfl,by simp[aJ],aU⟩
 case round=>
  obtain⟨k,hk,rfl,HA,hB⟩:=hrel;by_cases hlt:k<fs.length
  ·obtain⟨b,off,rfl,c0,c1,c2⟩:=(h.bz hB).at hlt;(go_wp2_with (go_at_call 78;refine(iY fs[k] _).mono ?_;rintro e w' ⟨rfl,hB2⟩))
   ·go_ret;refine⟨dz ?_,aP hB hB2⟩;have:=HA.o;rw[jm _ _ _ hlt] at this
    simp_all [aS]
   ·go_round
    case rel=>
     refine⟨k+1,by omega,by go_num,?_,aP hB hB2⟩;have:=HA.o;rw[jm _ _ _ hlt] at this
     simp_all [aJ]
    case measure=>simp[intOf];omega
  ·go_wp2;go_ret;have e:k=fs.length:=by omega
   refine⟨dz ?_,hB⟩;have:=HA.o;subst e;rw[drop_length,all_nil] at this;rw[aS,this,Bool.and_true,decide_eq_decide];omega
theorem jz{lo hi:Nat}(v:Value)(a:au)(w:World)(h:aM w lo hi v a):Calls Tryz.prog 16 #[v] w fun r w'=>r=.returned (.bool a.valid)/\Below w.heap.size w w':=by
 obtain⟨A1,c1,A2,c2,rfl,h1,h2⟩:=h;have hl1:=h1.le;have hl2:=h2.le;(go_enter Tryz.func16,Tryz.ntmps16);by_cases hv:aS a.facts=true
 ·by_cases h6:6<a.atoms.length
  ·(go_wp2_with (go_at_call 42;refine(jS A1 c1 a.facts _ (h1.bz (ai (Below.refl _ w) _))).mono ?_;rintro e w' ⟨rfl,hB2⟩;have hB:=aP (ai (Below.refl _ w) _) hB2;obtain⟨hc,hf⟩:=kD hB2));go_ret;exact⟨dz (by simp[au.valid];omega),hB⟩
  (go_wp2_with (go_at_call 42;refine(jS A1 c1 a.facts _ (h1.bz (ai (Below.refl _ w) _))).mono ?_;rintro e w' ⟨rfl,hB2⟩;have hB:=aP (ai (Below.refl _ w) _) hB2;obtain⟨hc,hf⟩:=kD hB2));clear hc hf hB2
  go_loopw [18] (fun i wr=>∃k:Nat,k<=a.atoms.length/\i=.int .i64 k/\aJ (a.atoms.all aL.valid=(a.atoms.drop k).all aL.valid)/\Below w.heap.size w wr) (fun i _=>a.atoms.length - (intOf i).toNat)
  case atStart=>exact⟨0,dJ,rfl,by simp[aJ],hB⟩
  case round=>
   clear hB;obtain⟨k,hk,rfl,HA,hB⟩:=hrel;by_cases hlt:k<a.atoms.length
   ·obtain⟨b,off,rfl,c0,c1,c2⟩:=(h2.bz hB).at hlt;(go_wp2_with (go_at_call 43;refine(wC a.atoms[k] _).mono ?_;rintro e w' ⟨rfl,hB2⟩))
    ·go_ret;refine⟨dz ?_,aP (ai hB _) hB2⟩;have:=HA.o;rw[jm _ _ _ hlt] at this
     simp_all [au.valid]
    ·go_round
     case rel=>
      refine⟨k+1,by omega,by go_num,?_,aP (ai hB _) hB2⟩;have:=HA.o;rw[jm _ _ _ hlt] at this
      simp_all [aJ]
     case measure=>simp[intOf];omega
   ·go_wp2;go_ret;have e:k=a.atoms.length:=by omega
    refine⟨dz ?_,hB⟩;have:=HA.o;rw[e,drop_length,all_nil] at this;simp[au.valid,hv,this];omega
 ·(go_wp2_with (go_at_call 42;refine(jS A1 c1 a.facts _ (h1.bz (ai (Below.refl _ w) _))).mono ?_;rintro e w' ⟨rfl,hB2⟩;have hB:=aP (ai (Below.refl _ w) _) hB2;obtain⟨hc,hf⟩:=kD hB2));go_ret;exact⟨dz (by simp[au.valid,hv]),hB⟩
theorem vz{lo hi:Nat}(v:Value)(a:au)(w:World)(h:aM w lo hi v a):Calls Tryz.prog 23 #[v] w fun r w'=>r=.returned (.bool a.valid)/\Below w.heap.size w w':=by
 obtain⟨A1,c1,A2,c2,rfl,h1,h2⟩:=h;have hl1:=h1.le;have hl2:=h2.le;(go_enter Tryz.func23,Tryz.ntmps23);go_wp2;have hb0:=ai (Below.refl w.heap.size w) (.cells #[.slice A1 a.facts.length c1,.slice A2 a.atoms.length c2] 26);obtain⟨W0,hW0⟩:∃W0,W0=w.alloc (.cells #[.slice A1 a.facts.length c1,.slice A2 a.atoms.length c2] 26):=⟨_,rfl⟩;have hcc:∀o,W0.cell? ⟨w.heap.size,o,none⟩=#[Value.slice A1 a.facts.length c1,.slice A2 a.atoms.length c2][o]?:=by rw[hW0];exact ae.cell (ae.new _ _ _)
 have hsz:w.heap.size<W0.heap.size:=by rw[hW0];simp
 rw[<-hW0] at hb0⊢;clear hW0
 go_loopw [3] (fun i wr=>∃k:Nat,k<=a.atoms.length/\i=.int .i64 k/\aJ (a.atoms.all aL.valid=(a.atoms.drop k).all aL.valid)/\Below W0.heap.size W0 wr) (fun i _=>a.atoms.length - (intOf i).toNat)
 case atStart=>exact⟨0,dJ,rfl,by simp[aJ],aU⟩
 case round=>
  obtain⟨k,hk,rfl,HA,hB1⟩:=hrel;have hB:=aP hb0 hB1;have q0:wr.cell? ⟨w.heap.size,0,none⟩=some (.slice A1 a.facts.length c1):=(hB1.cell hsz).trans (hcc 0);have q1:wr.cell? ⟨w.heap.size,1,none⟩=some (.slice A2 a.atoms.length c2):=(hB1.cell hsz).trans (hcc 1);by_cases hlt:k<a.atoms.length
  ·obtain⟨b,off,rfl,c0,c1,c2⟩:=(h2.bz hB).at hlt;(go_wp2_with (go_at_call 50;refine(Bt a.atoms[k] _).mono ?_;rintro e w' ⟨rfl,hB2⟩))
   ·go_ret;refine⟨dz ?_,aP hB hB2⟩;have:=HA.o;rw[jm _ _ _ hlt] at this
    simp_all [au.valid]
   ·go_round
    case rel=>
     refine⟨k+1,by omega,by go_num,?_,aP hB1 hB2⟩;have:=HA.o;rw[jm _ _ _ hlt] at this
     simp_all [aJ]
    case measure=>simp[intOf];omega
  ·obtain rfl:k=a.atoms.length:=by omega
   have:=HA.o;rw[drop_length,all_nil] at this;have HT:=ax this;clear this HA;by_cases h6:a.atoms.length<=6<;>by_cases hv:aS a.facts=true
   all_goals
    go_wp2_with (go_at_call 51;refine(uO A1 c1 a.facts _ (h1.bz hB)).mono ?_;rintro e w' ⟨rfl,hB2⟩;obtain⟨hc,hf⟩:=kD hB2;have q3:wr.heap.size > w.heap.size:=Nat.lt_of_lt_of_le hsz hB1.size)
    all_goals
     go_ret;refine⟨dz ?_,aP hB hB2⟩;rw[au.valid,HT.o,Bool.and_true];clear hc hf q0 q1 hcc HT
     simp_all
     try omega
section
variable{P:Program}{w:World}{base:Nat}{e:TypeId}{size:Nat}
theorem lU(t ty:TypeId)(i:TypeInfo)(ht:P.underlying t=some (.slice e))(hi:P.info? e=some i)
  (v:Value) (n c:Nat) (xs:List Value) (hown:w.ownsRow base e size v n xs) :
  (Builtin.append_ #[t,t] ty #[v,.slice none 0 c]).run P w=.ok v w:=by
 rcases hown.2 with ⟨rfl,rfl⟩|⟨g,cap,cur,rfl,_,_,hnc,_⟩
 ·simp[Builtin.append_,run_underlying ht,sizeOf,typeInfo,hi,Builtin.lenOf,Builtin.firstCells]
 ·simp[Builtin.append_,run_underlying ht,sizeOf,typeInfo,hi,Builtin.lenOf,Builtin.firstCells,hnc,storeCells]
end
theorem fJ{P:Program}{ops:Array Oper}{rest:List Oper}{o:Oper}{a:Act}{Q:Exit->Act->World->Prop}{w:World}(hgd:o.guard=none)(s x:Operand)(t:TypeId)
  (ho:o.op=.call { callee:=.builtin .append,args:=#[s,x],argTypes:=#[t,t] })
  {base:Nat} {e:TypeId} {z:Value} {size bytes:Nat} (ht:P.underlying t=some (.slice e)) (hinfo:(P.info? e).map (fun i=>(i.zero,i.size,i.bytes))=some (some z,size,bytes)) (hzs:z.cells.size=size) (hsz:0<size) (hby:bytes<=200)
  {v:Value} {n:Nat} {xs:List Value} (hs:a.eval s=v) (hown:w.ownsRow base e size v n xs)
  {A:Option Addr} {m c lo hi:Nat} {news:List Value} (hx:a.eval x=.slice A m c) (hR:Rw w lo hi size A m news) (h1:∀u∈news,u.oneCell'=true)
  (hn:n+m<=1049600) (hb:base<=w.heap.size)
  (h:∀v' w',w'.ownsRow base e size v' (n+m) (xs++news)->w.grownBy w' v.ownBlock->Below base w w'->wpList P ops Q rest (a.put o.dst v') w'):wpList P ops Q (o :: rest) a w:=by
 obtain⟨i,hi',hz,hsize,hbytes⟩:=info_parts hinfo
 have key:∀(ad:Addr),A=some ad->(∀j u,news[j]? = some u->w.cell? (ad.add j)=some u)->wpList P ops Q (o :: rest) a w:=by
  rintro ad rfl hnews;refine wpList_append_own w hgd s x t ho base e i z size bytes ht hi' hz hsize hbytes hzs hsz v n xs hs hown ad m c news hx hR.1 hnews h1 (by unfold maxLen;omega) (Nat.le_trans (Nat.mul_le_mul hn hby) (by omega)) hb ?_;intro v' w' ho' hg' _;exact h v' w' ho' hg' (jr hown hg' hb)
 by_cases hm:m=0
 ·subst hm;have hnil:news=[]:=List.eq_nil_of_length_eq_zero (by simpa using hR.1);subst hnil
  cases A with
  | some ad=>exact key ad rfl (by simp)
  | none=>
   refine wpList_plain hgd fun K hK=>?_;have hrun:=lU (P:=P) t o.type i ht hi' v n c xs hown;unfold Oper.wp;simp[execOp,ho,resolve,invoke,builtin,hs,hx,hrun,Result.andThen];exact hK _ _ (h v w (by simpa using hown) (World.grownBy.refl _ _) aU)
 ·have h0:0<m * size:=Nat.mul_pos (by omega) hsz;obtain⟨b,off,rfl,_,_,hc⟩:=hR.2 h0;exact key _ rfl fun j u hu=>by rw[show (⟨b,off,none⟩:Addr).add j=⟨b,off+j,none⟩ from by unfold Addr.add;split<;>simp_all];exact hc j u hu
theorem uP{P:Program}{o:Oper}{a:Act}{K:Act->World->Prop}{Q:Exit->Act->World->Prop}{w:World}(s x:Operand)(t:TypeId)
  (ho:o.op=.call { callee:=.builtin .append,args:=#[s,x],argTypes:=#[t,t] })
  {base:Nat} {e:TypeId} {z:Value} {size bytes:Nat} (ht:P.underlying t=some (.slice e)) (hinfo:(P.info? e).map (fun i=>(i.zero,i.size,i.bytes))=some (some z,size,bytes)) (hzs:z.cells.size=size) (hsz:0<size) (hby:bytes<=200)
  {v:Value} {n:Nat} {xs:List Value} (hs:a.eval s=v) (hown:w.ownsRow base e size v n xs)
  {A:Option Addr} {m c lo hi:Nat} {news:List Value} (hx:a.eval x=.slice A m c) (hR:Rw w lo hi size A m news) (h1:∀u∈news,u.oneCell'=true)
  (hn:n+m<=1049600) (hb:base<=w.heap.size)
  (h:∀v' w',w'.ownsRow base e size v' (n+m) (xs++news)->w.grownBy w' v.ownBlock->Below base w w'->K (a.put o.dst v') w'):Oper.wp P o a w K Q:=by
 obtain⟨i,hi',hz,hsize,hbytes⟩:=info_parts hinfo
 have key:∀(ad:Addr),A=some ad->(∀j u,news[j]? = some u->w.cell? (ad.add j)=some u)->Oper.wp P o a w K Q:=by
  rintro ad rfl hnews;obtain⟨v',w',hr,h2,h3,h4,h5⟩:=run_append_own_at (P:=P) w base t o.type e i z size bytes ht hi' hz hsize hbytes hzs hsz v n xs hown ad m c news hR.1 hnews h1 (by unfold maxLen;omega) (Nat.le_trans (Nat.mul_le_mul hn hby) (by omega)) hb;unfold Oper.wp execOp;simp only[ho,resolve,invoke,builtin,Sem.run_bind,Sem.run_pure,Result.andThen_ok,List.map_toArray,map_cons,map_nil,hs,hx,hr];exact h v' w' h2 h3 (jr hown h3 hb)
 by_cases hm:m=0
 ·subst hm;have hnil:news=[]:=List.eq_nil_of_length_eq_zero (by simpa using hR.1);subst hnil
  cases A with
  | some ad=>exact key ad rfl (by simp)
  | none=>
   have hrun:=lU (P:=P) t o.type i ht hi' v n c xs hown;unfold Oper.wp execOp;simp only[ho,resolve,invoke,builtin,Sem.run_bind,Sem.run_pure,Result.andThen_ok,List.map_toArray,map_cons,map_nil,hs,hx,hrun];exact h v w (by simpa using hown) (World.grownBy.refl _ _) aU
 ·have h0:0<m * size:=Nat.mul_pos (by omega) hsz;obtain⟨b,off,rfl,_,_,hc⟩:=hR.2 h0;exact key _ rfl fun j u hu=>by rw[show (⟨b,off,none⟩:Addr).add j=⟨b,off+j,none⟩ from by unfold Addr.add;split<;>simp_all];exact hc j u hu
theorem ze(fs:List aF):∀u∈iJ fs,u.oneCell'=true:=by
 intro u hu;simp only[iJ,List.mem_flatMap] at hu;obtain⟨f,_,hf⟩:=hu;simp at hf;rcases hf with rfl|rfl|rfl<;>simp[Value.oneCell']
theorem EC(fs:List aL):∀u∈gK fs,u.oneCell'=true:=by
 intro u hu;simp only[gK,List.mem_flatMap] at hu;obtain⟨f,_,hf⟩:=hu;simp at hf;rcases hf with rfl|rfl|rfl<;>simp[Value.oneCell']
theorem zg(fs:List Int):∀u∈encI fs,u.oneCell'=true:=by
 intro u hu;simp only[encI,List.mem_map] at hu;obtain⟨f,_,rfl⟩:=hu;simp[Value.oneCell']
section
variable{ops:Array Oper}{rest:List Oper}{o:Oper}{a:Act}{Q:Exit->Act->World->Prop}{w:World}{base lo hi c:Nat}{v:Value}{A:Option Addr}
theorem gN(hgd:o.guard=none)(s x:Operand)(ho:o.op=.call { callee:=.builtin .append,args:=#[s,x],argTypes:=#[23,23] })
  {xs ys:List aF} (hs:a.eval s=v) (hown:ah w base v xs) (hx:a.eval x=.slice A ys.length c) (hR:aG w lo hi A ys) (hn:xs.length+ys.length<=1049600) (hb:base<=w.heap.size)
  (h:∀A' c' w',ah w' base (.slice A' (xs++ys).length c') (xs++ys)->w.grownBy w' v.ownBlock->Below base w w'->wpList Tryz.prog ops Q rest (a.put o.dst (.slice A' (xs++ys).length c')) w'):wpList Tryz.prog ops Q (o :: rest) a w:=by
 refine fJ hgd s x 23 ho Tryz.underlying23 Jv rfl (by decide) (by decide) hs hown.1 hx hR.raw (ze _) hn hb ?_;intro v' w' h1 h2 h3;have hO:ah w' base v' (xs++ys):=⟨by rw[length_append,show iJ (xs++ys)=iJ xs++iJ ys from flatMap_append];exact h1,by simp[il];omega⟩;obtain⟨A',c',rfl,-⟩:=hO.rj;exact h A' c' w' hO h2 h3
theorem qG(hgd:o.guard=none)(s x:Operand)(ho:o.op=.call { callee:=.builtin .append,args:=#[s,x],argTypes:=#[24,24] })
  {xs ys:List aL} (hs:a.eval s=v) (hown:af w base v xs) (hx:a.eval x=.slice A ys.length c) (hR:aB w lo hi A ys) (hn:xs.length+ys.length<=1049600) (hb:base<=w.heap.size)
  (h:∀A' c' w',af w' base (.slice A' (xs++ys).length c') (xs++ys)->w.grownBy w' v.ownBlock->Below base w w'->wpList Tryz.prog ops Q rest (a.put o.dst (.slice A' (xs++ys).length c')) w'):wpList Tryz.prog ops Q (o :: rest) a w:=by
 refine fJ hgd s x 24 ho Tryz.underlying24 Jw rfl (by decide) (by decide) hs hown.1 hx hR.raw (EC _) hn hb ?_;intro v' w' h1 h2 h3;have hO:af w' base v' (xs++ys):=⟨by rw[length_append,show gK (xs++ys)=gK xs++gK ys from flatMap_append];exact h1,by simp[il];omega⟩;obtain⟨A',c',rfl,-⟩:=hO.rj;exact h A' c' w' hO h2 h3
theorem Ml(hgd:o.guard=none)(s x:Operand)(ho:o.op=.call { callee:=.builtin .append,args:=#[s,x],argTypes:=#[28,28] })
  {xs ys:List Int} (hs:a.eval s=v) (hown:aD w base v xs) (hx:a.eval x=.slice A ys.length c) (hR:bG w lo hi A ys) (hn:xs.length+ys.length<=1049600) (hb:base<=w.heap.size)
  (h:∀A' c' w',aD w' base (.slice A' (xs++ys).length c') (xs++ys)->w.grownBy w' v.ownBlock->Below base w w'->wpList Tryz.prog ops Q rest (a.put o.dst (.slice A' (xs++ys).length c')) w'):wpList Tryz.prog ops Q (o :: rest) a w:=by
 refine fJ hgd s x 28 ho Tryz.underlying28 Jy rfl (by decide) (by decide) hs hown.1 hx hR.raw (zg _) hn hb ?_;intro v' w' h1 h2 h3;have hO:aD w' base v' (xs++ys):=⟨by rw[length_append,show encI (xs++ys)=encI xs++encI ys from List.map_append];exact h1,by simp[il];omega⟩;obtain⟨A',c',rfl,-⟩:=hO.rj;exact h A' c' w' hO h2 h3
end
section
variable{ops:Array Oper}{o:Oper}{a:Act}{K:Act->World->Prop}{Q:Exit->Act->World->Prop}{E:Prop}{w:World}{base lo hi c:Nat}{v:Value}{A:Option Addr}
theorem jT(hgd:o.guard=none)(s x:Operand)(ho:o.op=.call { callee:=.builtin .append,args:=#[s,x],argTypes:=#[23,23] })
  {xs ys:List aF} (hs:a.eval s=v) (hown:ah w base v xs) (hx:a.eval x=.slice A ys.length c) (hR:aG w lo hi A ys) (hn:xs.length+ys.length<=1049600) (hb:base<=w.heap.size)
  (h:∀A' c' w',ah w' base (.slice A' (xs++ys).length c') (xs++ys)->w.grownBy w' v.ownBlock->Below base w w'->K (a.put o.dst (.slice A' (xs++ys).length c')) w'):if Region.wanted o (yielded ops a.tmps)=true then Oper.wp Tryz.prog o a w K Q else E:=by
 have hw:Region.wanted o (yielded ops a.tmps)=true:=by simp[Region.wanted,hgd]
 rw[if_pos hw];refine uP s x 23 ho Tryz.underlying23 Jv rfl (by decide) (by decide) hs hown.1 hx hR.raw (ze _) hn hb ?_;intro v' w' h1 h2 h3;have hO:ah w' base v' (xs++ys):=⟨by rw[length_append,show iJ (xs++ys)=iJ xs++iJ ys from flatMap_append];exact h1,by simp[il];omega⟩;obtain⟨A',c',rfl,-⟩:=hO.rj;exact h A' c' w' hO h2 h3
theorem lW(hgd:o.guard=none)(s x:Operand)(ho:o.op=.call { callee:=.builtin .append,args:=#[s,x],argTypes:=#[24,24] })
  {xs ys:List aL} (hs:a.eval s=v) (hown:af w base v xs) (hx:a.eval x=.slice A ys.length c) (hR:aB w lo hi A ys) (hn:xs.length+ys.length<=1049600) (hb:base<=w.heap.size)
  (h:∀A' c' w',af w' base (.slice A' (xs++ys).length c') (xs++ys)->w.grownBy w' v.ownBlock->Below base w w'->K (a.put o.dst (.slice A' (xs++ys).length c')) w'):if Region.wanted o (yielded ops a.tmps)=true then Oper.wp Tryz.prog o a w K Q else E:=by
 have hw:Region.wanted o (yielded ops a.tmps)=true:=by simp[Region.wanted,hgd]
 rw[if_pos hw];refine uP s x 24 ho Tryz.underlying24 Jw rfl (by decide) (by decide) hs hown.1 hx hR.raw (EC _) hn hb ?_;intro v' w' h1 h2 h3;have hO:af w' base v' (xs++ys):=⟨by rw[length_append,show gK (xs++ys)=gK xs++gK ys from flatMap_append];exact h1,by simp[il];omega⟩;obtain⟨A',c',rfl,-⟩:=hO.rj;exact h A' c' w' hO h2 h3
end
theorem X6(n:Nat)(h:il n)(w:World):(Instr.makeSlice 23 (.int .i64 0) (.int .i64 (n:Int))).run Tryz.prog w=.ok (.slice (some ⟨w.heap.size,0,none⟩) 0 n) (w.alloc (.cells (madeCells #[.bool false,.int .i64 0,.int .i64 0] (n * 3)) tF)):=by
 obtain⟨i,hi,hz,hs,hb⟩:=info_parts Jv;have:=jo (P:=Tryz.prog) 23 tF i _ Tryz.underlying23 hi hz .i64 .i64 0 n dJ (by rw[hb];unfold il at h;omega) (by unfold il at h;omega) w
 rwa [hs] at this
theorem X7(n:Nat)(h:il n)(w:World):(Instr.makeSlice 24 (.int .i64 0) (.int .i64 (n:Int))).run Tryz.prog w=.ok (.slice (some ⟨w.heap.size,0,none⟩) 0 n) (w.alloc (.cells (madeCells #[.int .i64 0,.int .i64 0,.int .i64 0] (n * 3)) tA)):=by
 obtain⟨i,hi,hz,hs,hb⟩:=info_parts Jw;have:=jo (P:=Tryz.prog) 24 tA i _ Tryz.underlying24 hi hz .i64 .i64 0 n dJ (by rw[hb];unfold il at h;omega) (by unfold il at h;omega) w
 rwa [hs] at this
theorem ah.made(w:World)(n:Nat)(h:n<=1049600):ah (w.alloc (.cells (madeCells #[.bool false,.int .i64 0,.int .i64 0] (n * 3)) tF)) w.heap.size (.slice (some ⟨w.heap.size,0,none⟩) 0 n) []:=
 ⟨World.ownsRow_made w _ n bn (by unfold maxLen;omega) (by rw[size_madeCells]),by simp[il]⟩
theorem af.made(w:World)(n:Nat)(h:n<=1049600):af (w.alloc (.cells (madeCells #[.int .i64 0,.int .i64 0,.int .i64 0] (n * 3)) tA)) w.heap.size (.slice (some ⟨w.heap.size,0,none⟩) 0 n) []:=
 ⟨World.ownsRow_made w _ n bn (by unfold maxLen;omega) (by rw[size_madeCells]),by simp[il]⟩
theorem ah.empty(w:World):ah (w.alloc (.cells #[] tF)) w.heap.size (.slice (some ⟨w.heap.size,0,none⟩) 0 0) []:=⟨kP w _ _,by simp[il]⟩
theorem af.empty(w:World):af (w.alloc (.cells #[] tA)) w.heap.size (.slice (some ⟨w.heap.size,0,none⟩) 0 0) []:=⟨kP w _ _,by simp[il]⟩
theorem ah.nil(w:World)(base:Nat):ah w base (.slice none 0 0) []:=⟨World.ownsRow_nil _ _ _ _,by simp[il]⟩
theorem af.nil(w:World)(base:Nat):af w base (.slice none 0 0) []:=⟨World.ownsRow_nil _ _ _ _,by simp[il]⟩
theorem nH{lo hi bJ hi':Nat}(A A':Option Addr)(c c':Nat)(fs gs:List aF)(w:World)(h:aG w lo hi A fs)(h':aG w bJ hi' A' gs)(hn:fs.length+gs.length<=1049600) :
  Calls Tryz.prog 98 #[.slice A fs.length c,.slice A' gs.length c'] w fun e w'=>∃r,e=.returned r/\ah w' w.heap.size r (fs++gs)/\Below w.heap.size w w':=by
 have hmk:=X6 (fs.length+gs.length) hn;simp only[Int.natCast_add] at hmk;have QC:=ax (ah.made w (fs.length+gs.length) hn);(go_enter Tryz.func98,Tryz.ntmps98)
 go_wp2_with (first
  | (at_builtin;refine gN rfl _ _ rfl rfl QC.o rfl (h.bz aj) (by simp;omega) (by simp) ?_;intro A1 d1 w1 Hf hg1 hB1;have hB:Below w.heap.size w w1:=Below.trans aj hB1)
  | (at_builtin;refine gN rfl _ _ rfl rfl Hf rfl (h'.bz hB) (by simp;omega) hB.size ?_;intro A2 d2 w2 hO2 hg2 hB2))
 go_ret;exact⟨_,rfl,by simpa using hO2,hB.trans hB2⟩
theorem nI{lo hi bJ hi':Nat}(A A':Option Addr)(c c':Nat)(fs gs:List aL)(w:World)(h:aB w lo hi A fs)(h':aB w bJ hi' A' gs)(hn:fs.length+gs.length<=1049600) :
  Calls Tryz.prog 99 #[.slice A fs.length c,.slice A' gs.length c'] w fun e w'=>∃r,e=.returned r/\af w' w.heap.size r (fs++gs)/\Below w.heap.size w w':=by
 have hmk:=X7 (fs.length+gs.length) hn;simp only[Int.natCast_add] at hmk;have QC:=ax (af.made w (fs.length+gs.length) hn);(go_enter Tryz.func99,Tryz.ntmps99)
 go_wp2_with (first
  | (at_builtin;refine qG rfl _ _ rfl rfl QC.o rfl (h.bz aj) (by simp;omega) (by simp) ?_;intro A1 d1 w1 Hf hg1 hB1;have hB:Below w.heap.size w w1:=Below.trans aj hB1)
  | (at_builtin;refine qG rfl _ _ rfl rfl Hf rfl (h'.bz hB) (by simp;omega) hB.size ?_;intro A2 d2 w2 hO2 hg2 hB2))
 go_ret;exact⟨_,rfl,by simpa using hO2,hB.trans hB2⟩
def jU(a b:au):au:=⟨a.facts++b.facts,a.atoms++b.atoms⟩
def qH(a b:au):Option au:=if a.valid&&b.valid&&(jU a b).valid then some (jU a b) else none
theorem tT{a:au}(h:a.valid=true):a.facts.length<=12/\a.atoms.length<=6:=by
 simp only[au.valid,aS,Bool.and_eq_true,decide_eq_true_eq] at h;exact⟨h.1.1,h.2.1⟩
theorem aI.zero(w:World)(base:Nat):aI w base (.agg #[.slice none 0 0,.slice none 0 0]) ⟨[],[]⟩:=⟨_,_,rfl,ah.nil _ _,af.nil _ _⟩
theorem Dh(w:World)(t1 t2:TypeId)(a b:Array Value):ae ((w.alloc (.cells a t1)).alloc (.cells b t2)) w.heap.size t1 a/\ae ((w.alloc (.cells a t1)).alloc (.cells b t2)) (w.heap.size+1) t2 b:=
 ⟨(ae.new w _ _).alloc _,by have:=ae.new (w.alloc (.cells a t1)) t2 b;simpa using this⟩
theorem wD(w:World)(t1 t2 t3:TypeId)(a b c:Array Value):ae (((w.alloc (.cells a t1)).alloc (.cells b t2)).alloc (.cells c t3)) w.heap.size t1 a/\ae (((w.alloc (.cells a t1)).alloc (.cells b t2)).alloc (.cells c t3)) (w.heap.size+1) t2 b/\ae (((w.alloc (.cells a t1)).alloc (.cells b t2)).alloc (.cells c t3)) (w.heap.size+1+1) t3 c:=
 ⟨(Dh w t1 t2 a b).1.alloc _,(Dh w t1 t2 a b).2.alloc _,by have:=ae.new ((w.alloc (.cells a t1)).alloc (.cells b t2)) t3 c;simpa using this⟩
theorem uQ{w:World}{base:Nat}{e:TypeId}{size:Nat}{v:Value}{n:Nat}{xs:List Value}(h:w.ownsRow base e size v n xs){g:Nat}{t:TypeId}{cs:Array Value}(hk:ae w g t cs)(ht:t≠e)(i:Nat)(u:Value):(w.setCell ⟨g,i,none⟩ u).ownsRow base e size v n xs:=by
 obtain⟨h1,h2⟩:=h;refine⟨h1,?_⟩;rcases h2 with h2|⟨k,cap,cur,hv,hg,hh,r⟩
 ·exact Or.inl h2
 ·exact Or.inr ⟨k,cap,cur,hv,hg,ae.far (g:=k) hh (fun e=>ae.Bq hk hh ht e.symm) u,r⟩
theorem ah.aA{w:World}{base:Nat}{v:Value}{xs:List aF}(h:ah w base v xs){g:Nat}{t:TypeId}{cs:Array Value}(hk:ae w g t cs)(ht:t≠tF)(i:Nat)(u:Value):ah (w.setCell ⟨g,i,none⟩ u) base v xs:=⟨uQ h.1 hk ht i u,h.2⟩
theorem af.aA{w:World}{base:Nat}{v:Value}{xs:List aL}(h:af w base v xs){g:Nat}{t:TypeId}{cs:Array Value}(hk:ae w g t cs)(ht:t≠tA)(i:Nat)(u:Value):af (w.setCell ⟨g,i,none⟩ u) base v xs:=⟨uQ h.1 hk ht i u,h.2⟩
theorem aD.aA{w:World}{base:Nat}{v:Value}{xs:List Int}(h:aD w base v xs){g:Nat}{t:TypeId}{cs:Array Value}(hk:ae w g t cs)(ht:t≠tI)(i:Nat)(u:Value):aD (w.setCell ⟨g,i,none⟩ u) base v xs:=⟨uQ h.1 hk ht i u,h.2⟩
theorem ED{lo hi bJ hi':Nat}(v v':Value)(a b:au)(w:World)(h:aM w lo hi v a)(h':aM w bJ hi' v' b) :
  Calls Tryz.prog 124 #[v,v'] w fun e w'=>∃r,e=.returned (.tuple #[r,.bool (qH a b).isSome])/\aI w' w.heap.size r ((qH a b).getD ⟨[],[]⟩)/\Below w.heap.size w w':=by
 have hV:=ax h;have hV':=ax h';obtain⟨A1,c1,A2,c2,rfl,h1,h2⟩:=h;obtain⟨A3,c3,A4,c4,rfl,h3,h4⟩:=h';have HF:aJ (qH a b=if a.valid&&b.valid&&(jU a b).valid then some (jU a b) else none):=rfl;(go_enter Tryz.func124,Tryz.ntmps124);(go_wp2_with fail);refine(jz _ a _ (hV.o.bz aj)).mono ?_;rintro e w1 ⟨rfl,hB1⟩;have hB:=aP (w:=w) aj hB1;have kk:=wD w 26 26 26 #[.slice A1 a.facts.length c1,.slice A2 a.atoms.length c2] #[.slice A3 b.facts.length c3,.slice A4 b.atoms.length c4] #[.slice none 0 0,.slice none 0 0];have k0:=kk.1.nz hB1;have k1:=kk.2.1.nz hB1;have k2:=kk.2.2.nz hB1;clear kk hB1;have q1:=k1.cell;have q2:=k2.cell;have r2:=k2.frozen;cases ha:a.valid
 ·have E:=ax (show qH a b=none by rw[HF.o,ha];rfl);clear ha;go_wp2;refine bodyPost_ret (v:=.tuple #[.agg #[.slice none 0 0,.slice none 0 0],.bool false]) (by simp[results,Tryz.results124,go_sem,q2]) rfl ⟨_,by rw[E.o];rfl,by rw[E.o];exact aI.zero _ _,aj⟩
 have HA:=ax ha;clear ha q2 r2;(go_wp2_with fail);refine(jz _ b _ (hV'.o.bz hB)).mono ?_;rintro e w2 ⟨rfl,hB2⟩;replace hB:=aP hB hB2;replace k0:=k0.nz hB2;replace k1:=k1.nz hB2;replace k2:=k2.nz hB2;clear q1 hB2;have q2:=k2.cell;have r2:=k2.frozen;cases hb:b.valid
 ·have E:=ax (show qH a b=none by rw[HF.o,HA.o,hb];rfl);clear hb;go_wp2;refine bodyPost_ret (v:=.tuple #[.agg #[.slice none 0 0,.slice none 0 0],.bool false]) (by simp[results,Tryz.results124,go_sem,q2]) rfl ⟨_,by rw[E.o];rfl,by rw[E.o];exact aI.zero _ _,aj⟩
 have HB:=ax hb;have l1:=tT HA.o;have l2:=tT HB.o;clear hb q2 r2;(go_wp2_with fail);have lt2:=k2.lt
 go_region_held3 (fun w'=>(∀i,w'.cell? ⟨w.heap.size,i,none⟩=#[.slice A1 a.facts.length c1,.slice A2 a.atoms.length c2][i]?)/\(∀i,w'.cell? ⟨w.heap.size+1,i,none⟩=#[.slice A3 b.facts.length c3,.slice A4 b.atoms.length c4][i]?))
  (exact⟨ae.cell az,ae.cell az⟩)
  (first
   | (go_at_call 98;refine(nH _ _ _ _ a.facts b.facts _ (h1.bz aj) (h3.bz aj) (by omega)).mono ?_;rintro e w3 ⟨r3,rfl,o3,hB3⟩;have hBw3:=aP (w:=w) aj hB3;have m0:=ae.nz (g:=w.heap.size) az hB3;have m1:=ae.nz (g:=w.heap.size+1) az hB3;have m2:=ae.nz (g:=w.heap.size+1+1) az hB3;have lt3:=m2.lt;obtain⟨R3,d3,rfl,-⟩:=o3.rj;(try have z3:ae w3 w2.heap.size 26 #[.slice none 0 0,.slice none 0 0]:=ae.nz (ae.new w2.drew _ _) hB3))
   | (go_at_call 99;refine(nI _ _ _ _ a.atoms b.atoms _ (h2.bz aj) (h4.bz aj) (by omega)).mono ?_;rintro e w4 ⟨r4,rfl,o4,hB4⟩;have UF:=aP (w:=w) aj hB4;have n0:=ae.nz (g:=w.heap.size) az hB4;have n1:=ae.nz (g:=w.heap.size+1) az hB4;have n2:=ae.nz (g:=w.heap.size+1+1) az hB4;have Mm:=(o3.bz aj).bz hB4;obtain⟨R4,d4,rfl,-⟩:=o4.rj;(try have z4:ae w4 w2.heap.size 26 #[.slice none 0 0,.slice none 0 0]:=z3.nz hB4);(try have z4:ae w4 w3.heap.size 26 #[.slice none 0 0,.slice none 0 0]:=ae.nz (ae.new w3 _ _) hB4);(try have z4c:=z4.cell);(try have z4f:=z4.frozen)))
 all_goals
  simp only[length_append] at Mm o4;(go_wp2_with fail);refine(jz (lo:=0) (hi:=w4.heap.size+1) _ (jU a b) _ ?av).mono ?_
  case av=>
   refine⟨R3,d3,R4,d4,by simp[jU],?_,?_⟩
   ·exact(ah.dG (by first|exact Mm|exact(Mm.aA z4 (by decide) _ _).aA (z4.ag _ _) (by decide) _ _|exact Mm.bz aj)).2.mono dJ (by simp)
   ·exact(af.dG (by first|exact o4|exact(o4.aA z4 (by decide) _ _).aA (z4.ag _ _) (by decide) _ _|exact o4.bz aj)).2.mono dJ (by simp)
  rintro e w5 ⟨rfl,bW⟩;have p2:ae w5 (w.heap.size+1+1) 26 #[.slice none 0 0,.slice none 0 0]:=ae.nz (by first|exact n2|exact(n2.far (by simp only[];omega) _).far (by simp only[];omega) _|exact n2.alloc _) bW;have hBw5:Below w.heap.size w w5:=aP aj bW;have hz:w4.heap.size=w4.heap.size:=rfl;have z5:=(by first|exact ae.nz (ae.new w4 26 #[.slice R3 (a.facts.length+b.facts.length) d3,.slice R4 (a.atoms.length+b.atoms.length) d4]) bW|exact ae.nz ((z4.ag 0 (.slice R3 (a.facts.length+b.facts.length) d3)).ag 1 (.slice R4 (a.atoms.length+b.atoms.length) d4)) bW);have f3:ah w5 w.heap.size (.slice R3 (a.facts.length+b.facts.length) d3) (a.facts++b.facts):=ah.bq (ah.bz (by first|exact Mm|exact(Mm.aA z4 (by decide) _ _).aA (z4.ag _ _) (by decide) _ _|exact Mm.bz aj) bW) (by first|omega|(simp;omega));have f4:af w5 w.heap.size (.slice R4 (a.atoms.length+b.atoms.length) d4) (a.atoms++b.atoms):=af.bq (af.bz (by first|exact o4|exact(o4.aA z4 (by decide) _ _).aA (z4.ag _ _) (by decide) _ _|exact o4.bz aj) bW) (by first|omega|(simp;omega));have q5:=z5.cell;have q2:=p2.cell;have r2:=p2.frozen;clear bW o3 Mm o4 hB4 hB3;cases hv:(jU a b).valid
  ·have E:=ax (show qH a b=none by rw[HF.o,HA.o,HB.o,hv];rfl);clear hv;go_wp2;refine bodyPost_ret (v:=.tuple #[.agg #[.slice none 0 0,.slice none 0 0],.bool false]) (by simp[results,Tryz.results124,go_sem,q2]) rfl ⟨_,by rw[E.o];rfl,by rw[E.o];exact aI.zero _ _,aj⟩
  ·have E:=ax (show qH a b=some (jU a b) by rw[HF.o,HA.o,HB.o,hv];rfl);clear hv;go_wp2;refine bodyPost_ret (v:=.tuple #[.agg #[.slice R3 (a.facts.length+b.facts.length) d3,.slice R4 (a.atoms.length+b.atoms.length) d4],.bool true]) (by simp[results,Tryz.results124,go_sem,q2]) rfl ⟨_,by rw[E.o];rfl,?_,aj⟩;rw[E.o];exact⟨_,_,rfl,(f3.aA p2 (by decide) _ _).aA (p2.ag _ _) (by decide) _ _,(f4.aA p2 (by decide) _ _).aA (p2.ag _ _) (by decide) _ _⟩
theorem qU{x:Int}:jq x=true↔0<=x/\x<=8:=by simp[jq]
@[irreducible] def aQ (S:Nat) (t:Int):Nat:=if jq t then S|||1 <<< t.toNat else S
theorem bC{S:Nat}(h:S<512)(t:Int):aQ S t<512:=by
 unfold aQ
 split
 ·rename_i ht;have ht:=qU.1 ht;rw[Nat.one_shiftLeft]
  exact Nat.or_lt_two_pow (n:=9) h (by
   have:(2:Nat) ^ t.toNat<=2 ^ 8:=Nat.pow_le_pow_right (by omega) (by omega)
   omega)
 ·exact h
theorem cr(S:Nat)(t:Int)(n:Nat):(aQ S t).testBit n=(S.testBit n || decide (jq t=true/\t=(n:Int))):=by
 unfold aQ
 split
 ·rename_i ht;have hb:=qU.1 ht;rw[Nat.testBit_or,Nat.one_shiftLeft,Nat.testBit_two_pow]
  congr 1
  rw[decide_eq_decide];constructor
  ·intro e;exact⟨ht,by omega⟩
  ·intro e;omega
 ·rename_i ht;simp[ht]
def aO(l:List Int):Nat:=l.foldl aQ 0
theorem Bu(l:List Int):∀ {S:Nat},S<512->l.foldl aQ S<512:=by
 induction l with
 | nil=>intro S h;exact h
 | cons x l ih=>intro S h;exact ih (bC h x)
theorem dI(l:List Int):aO l<512:=Bu l (by decide)
theorem zh(l:List Int):∀(S n:Nat),(l.foldl aQ S).testBit n=(S.testBit n || decide (jq (n:Int)=true/\(n:Int)∈l)):=by
 induction l with
 | nil=>intro S n;simp
 | cons x l ih=>
  intro S n;rw[List.foldl_cons,ih,cr,Bool.or_assoc]
  congr 1
  rw[<-Bool.decide_or,decide_eq_decide];constructor
  ·rintro(⟨h,rfl⟩|⟨h,hm⟩)
   ·exact⟨h,List.mem_cons_self⟩
   ·exact⟨h,List.mem_cons_of_mem _ hm⟩
  ·rintro⟨h,hm⟩;rcases List.mem_cons.1 hm with e|hm
   ·exact Or.inl ⟨e▸h,e.symm⟩
   ·exact Or.inr ⟨h,hm⟩
theorem iL(l:List Int)(n:Nat):(aO l).testBit n=decide (jq (n:Int)=true/\(n:Int)∈l):=by
 rw[aO,zh];simp
def qI(f:aF):List Int:=[f.a,f.b]
def mP(x:aL):List Int:=[x.a,x.b]
def mz(a:au):List Int:=a.facts.flatMap qI++a.atoms.flatMap mP
attribute [irreducible] aO
theorem aY(S:Nat)(t:Int)(w:World)(hS:S<512):Calls Tryz.prog 45 #[.int .u16 S,.int .i64 t] w fun e w'=>e=.returned (.int .u16 (aQ S t))/\w=w':=by
 cases ht:jq t
 ·(go_enter Tryz.func45,Tryz.ntmps45);(go_wp2_with (go_at_call 71;refine(dh _ _).mono ?_;rintro e w' ⟨rfl,rfl⟩));go_ret;exact⟨by rw[aQ,ht];rfl,rfl⟩
 ·have hb:=qU.1 ht;have HT:=ax ht;obtain⟨m,rfl⟩:=Int.eq_ofNat_of_zero_le hb.1;(go_enter Tryz.func45,Tryz.ntmps45);(go_wp2_with (go_at_call 71;refine(dh _ _).mono ?_;rintro e w' ⟨rfl,rfl⟩));go_ret;refine⟨?_,rfl⟩;have e:=Rq S m (by omega) (by omega);rw[aQ,HT.o,if_pos rfl,Int.toNat_natCast,<-e];simp
theorem fK(S:Nat)(t:Int)(w:World)(hS:S<512):Calls Tryz.prog 59 #[.int .u16 S,.int .i64 t] w fun e w'=>e=.returned (.bool (jq t&&S.testBit t.toNat))/\w=w':=by
 cases ht:jq t
 ·(go_enter Tryz.func59,Tryz.ntmps59);(go_wp2_with (go_at_call 71;refine(dh _ _).mono ?_;rintro e w' ⟨rfl,rfl⟩));go_ret;exact⟨rfl,rfl⟩
 ·have hb:=qU.1 ht;have HT:=ax ht;obtain⟨m,rfl⟩:=Int.eq_ofNat_of_zero_le hb.1;have hbit:=Pb S m (by omega);(go_enter Tryz.func59,Tryz.ntmps59);(go_wp2_with (go_at_call 71;refine(dh _ _).mono ?_;rintro e w' ⟨rfl,rfl⟩));go_ret;refine⟨?_,rfl⟩;exact dz (by simp)
theorem jD{α:Type}(f:Nat->α->Nat)(S:Nat)(xs:List α)(k:Nat)(hk:k<xs.length):(xs.drop k).foldl f S=(xs.drop (k+1)).foldl f (f S xs[k]):=by
 rw[List.drop_eq_getElem_cons hk];rfl
theorem zi(a:au):aO (mz a)=(a.atoms.foldl (fun S x=>aQ (aQ S x.a) x.b) (a.facts.foldl (fun S f=>aQ (aQ S f.a) f.b) 0)):=by
 have h1:∀(fs:List aF) (S:Nat),(fs.flatMap qI).foldl aQ S=fs.foldl (fun S f=>aQ (aQ S f.a) f.b) S:=by
  intro fs;induction fs with
  | nil=>intro S;rfl
  | cons f fs ih=>intro S;rw[flatMap_cons,foldl_append,ih];rfl
 have h2:∀(fs:List aL) (S:Nat),(fs.flatMap mP).foldl aQ S=fs.foldl (fun S f=>aQ (aQ S f.a) f.b) S:=by
  intro fs;induction fs with
  | nil=>intro S;rfl
  | cons f fs ih=>intro S;rw[flatMap_cons,foldl_append,ih];rfl
 rw[aO,mz,foldl_append,h1,h2]
theorem di{lo hi:Nat}(v:Value)(a:au)(w:World)(h:aM w lo hi v a):Calls Tryz.prog 19 #[v] w fun e w'=>e=.returned (.int .u16 (aO (mz a)))/\Below w.heap.size w w':=by
 obtain⟨A1,c1,A2,c2,rfl,h1,h2⟩:=h;have hl1:=h1.le;have hl2:=h2.le;have HT:=ax (zi a);(go_enter Tryz.func19,Tryz.ntmps19);go_wp2
 go_loopw [3,11] (fun S i wr=>∃(k T:Nat),k<=a.facts.length/\i=.int .i64 k/\S=.int .u16 T/\T<512/\aJ (a.facts.foldl (fun S f=>aQ (aQ S f.a) f.b) 0=(a.facts.drop k).foldl (fun S f=>aQ (aQ S f.a) f.b) T)/\ae wr w.heap.size 26 #[.slice A1 a.facts.length c1,.slice A2 a.atoms.length c2]/\Below w.heap.size w wr) (fun _ i _=>a.facts.length - (intOf i).toNat)
 case atStart=>exact⟨0,0,dJ,rfl,rfl,by decide,rfl,az,aj⟩
 case round=>
  obtain⟨k,T,hk,rfl,rfl,hT,HA,hK,hB⟩:=hrel;by_cases hlt:k<a.facts.length
  ·obtain⟨b,off,rfl,g0,g1,g2⟩:=(h1.bz hB).at hlt;have HD:=ax (jD (fun S (f:aF)=>aQ (aQ S f.a) f.b) T a.facts k hlt);have hT1:=bC hT a.facts[k].a;have Hg:=bC hT1 a.facts[k].b;(go_wp2_with fail);(go_quiet ((go_at_call 45;exact Calls.quiet_of_same ((aY _ _ _ (by assumption)).mono fun _ _ ⟨a,b⟩=>⟨a,b.symm⟩))));(go_wp2_with fail)
   go_round
   case rel=>exact⟨k+1,_,by omega,by go_num,rfl,Hg,by show _=_;rw[HA.o,HD.o],(hK.alloc _).drewN _,below_drewN (ai hB _) _⟩
   case measure=>simp[intOf];omega
  ·obtain rfl:k=a.facts.length:=by omega
   have q:=hK.cell;(go_wp2_with fail);have HA2:=ax (show a.facts.foldl (fun S f=>aQ (aQ S f.a) f.b) 0=T by rw[HA.o,drop_length];rfl)
   go_loopw [3,26] (fun S i wx=>∃(k T':Nat),k<=a.atoms.length/\i=.int .i64 k/\S=.int .u16 T'/\T'<512/\aJ (a.atoms.foldl (fun S f=>aQ (aQ S f.a) f.b) T=(a.atoms.drop k).foldl (fun S f=>aQ (aQ S f.a) f.b) T')/\Below w.heap.size w wx) (fun _ i _=>a.atoms.length - (intOf i).toNat)
   case atStart=>exact⟨0,T,dJ,rfl,rfl,hT,rfl,hB⟩
   case round=>
    clear hK q hB;obtain⟨k,T',hk,rfl,rfl,hT',HB,hB⟩:=hrel;by_cases hlt2:k<a.atoms.length
    ·obtain⟨b,off,rfl,g0,g1,g2⟩:=(h2.bz hB).at hlt2;have HD:=ax (jD (fun S (f:aL)=>aQ (aQ S f.a) f.b) T' a.atoms k hlt2);have hT1:=bC hT' a.atoms[k].a;have Hg:=bC hT1 a.atoms[k].b;(go_wp2_with fail);(go_quiet ((go_at_call 45;exact Calls.quiet_of_same ((aY _ _ _ (by assumption)).mono fun _ _ ⟨a,b⟩=>⟨a,b.symm⟩))));(go_wp2_with fail)
     go_round
     case rel=>exact⟨k+1,_,by omega,by go_num,rfl,Hg,by show _=_;rw[HB.o,HD.o],below_drewN (ai hB _) _⟩
     case measure=>simp[intOf];omega
    ·obtain rfl:k=a.atoms.length:=by omega
     go_wp2;go_ret;refine⟨?_,hB⟩;rw[HT.o,HA2.o,HB.o,drop_length];rfl
theorem uR{lo hi:Nat}(A:Option Addr)(c:Nat)(xs:List Int)(w:World)(h:bG w lo hi A xs):Calls Tryz.prog 18 #[.slice A xs.length c] w fun e w'=>e=.returned (.int .u16 (aO xs))/\Below w.heap.size w w':=by
 have hl:=h.le;have HT:aJ (aO xs=xs.foldl aQ 0):=by show _=_;unfold aO;rfl
 (go_enter Tryz.func18,Tryz.ntmps18);go_wp2
 go_loop [3,8] (fun S i=>∃(k T:Nat),k<=xs.length/\i=.int .i64 k/\S=.int .u16 T/\T<512/\aJ (aO xs=(xs.drop k).foldl aQ T)) (fun _ i=>xs.length - (intOf i).toNat)
 case atStart=>exact⟨0,0,dJ,rfl,rfl,by decide,HT.o⟩
 case round=>
  obtain⟨k,T,hk,rfl,rfl,hT,HA⟩:=hrel;by_cases hlt:k<xs.length
  ·obtain⟨b,off,rfl,g0⟩:=h.at hlt;have HD:=ax (jD aQ T xs k hlt);have hT1:=bC hT xs[k];(go_wp2_with (go_at_call 45;refine(aY _ _ _ (by assumption)).mono ?_;rintro e w' ⟨rfl,rfl⟩))
   go_round
   case rel=>exact⟨k+1,_,by omega,by go_num,rfl,hT1,by show _=_;rw[HA.o,HD.o]⟩
   case measure=>simp[intOf];omega
  ·obtain rfl:k=xs.length:=by omega
   go_wp2;go_ret;exact⟨by rw[HA.o,drop_length];rfl,aU⟩
theorem Fr.Er{g base:Nat}{a b c:World}(h:Fr g a b)(k:Below base b c)(hb:a.heap.size<=base):Fr g a c:=
 ⟨k.os.trans h.os,k.tape.trans h.tape,k.output.trans h.output,Nat.le_trans h.size k.size,fun i h1 h2=>(k.block i (by omega)).trans (h.block i h1 h2)⟩
theorem dX.jE{w w':World}{g p base:Nat}(h:dX w g p)(hb:Below base w w')(hg:g<base):dX w' g p:=by
 obtain⟨A,c,bs,h1,h2,h3⟩:=h;exact⟨A,c,bs,h1.bz hb hg,h2.keep fun b _ hlt=>hb.block b (by omega),h3⟩
theorem UG{lo hi:Nat}(g p:Nat)(A:Option Addr)(c:Nat)(xs:List Int)(w:World)(h:dX w g p)(hp:p<=1000000)(hx:bG w lo hi A xs)(hg:g<lo\/hi<=g)(hn:0<xs.length) :
  Calls Tryz.prog 35 #[.pointer (some ⟨g,0,none⟩),.slice A xs.length c] w fun e w'=>∃m∈xs,e=.returned (.int .i64 m)/\dX w' g (p+1)/\Fr g w w':=by
 have H:=ax h;have HX:=ax hx;clear h hx;(go_enter Tryz.func35,Tryz.ntmps35);(go_wp2_with fail);refine(iw g p _ _ H.o hp).mono ?_;rintro e w1 ⟨m,rfl,hm,hR,hF⟩;have hlt:m<xs.length:=by omega
 obtain⟨b,o,rfl,c0⟩:=bG.at (Rd.fr HX.o hF hg) hlt;have UH:(m:Int)<(xs.length:Int):=by omega
 have QD:=ax (And.intro hR hF);clear hm hR hF;go_wp2;go_ret;exact⟨xs[m],getElem_mem hlt,rfl,QD.o.1,QD.o.2⟩
theorem eU(g p:Nat)(xs:List Int)(x n:Nat)(cs:Array Value)(w:World)(h:dX w g p)(hp:p<=1000000)(hk:ae w x tI cs)(hcs:cs=(encI xs).toArray)(hg:g<x)(hn:n=xs.length)(h0:0<xs.length)(hl:xs.length<=100) :
  Calls Tryz.prog 35 #[.pointer (some ⟨g,0,none⟩),.slice (some ⟨x,0,none⟩) n n] w fun e w'=>∃m∈xs,e=.returned (.int .i64 m)/\dX w' g (p+1)/\Fr g w w':=by
 subst hn;refine UG (lo:=x) (hi:=x+1) g p _ _ xs w h hp ⟨⟨by simp[encI],fun _=>⟨x,0,rfl,bn,Nat.lt_succ_self _,fun j u hu=>?_⟩⟩,by unfold il;omega⟩ (Or.inl hg) h0;rw[Nat.zero_add,hk.cell,hcs];simpa using hu
theorem Ko(g p:Nat)(w:World)(h:dX w g p)(hp:p<=999990) :
  Calls Tryz.prog 88 #[.pointer (some ⟨g,0,none⟩)] w fun e w'=>∃f:aL,f.valid=true/\e=.returned f.val/\dX w' g (p+3)/\Fr g w w':=by
 have H:=ax h;have hlt:=h.lt;clear h;(go_enter Tryz.func88,Tryz.ntmps88);have k0:ae (w.alloc (.cells #[.int .i64 0,.int .i64 0,.int .i64 0] tA)) w.heap.size tA #[.int .i64 0,.int .i64 0,.int .i64 0]:=ae.new _ _ _;have Hl:aJ (Fr g w (w.alloc (.cells #[.int .i64 0,.int .i64 0,.int .i64 0] tA))):=(Fr.refl g w).alloc _;(go_wp2_with fail);refine(eU g p [1,2,3,5,4,6] _ _ _ _ (H.o.bz aj) (by omega) az (by rfl) (by first|omega|(simp;omega)) (by rfl) (by decide) (by decide)).mono ?_;rintro e w1 ⟨x,hx,rfl,hR,hF⟩;replace k0:=(k0.alloc _).fr hF;have uh:=ax ((Hl.o.alloc _).trans hF);have HR1:=ax hR;have HX:=ax ((by decide:∀m∈[(1:Int),2,3,5,4,6],jq m=true) x hx);have l1:=k0.lt;clear hR hF hx;(go_wp2_with fail);refine(eU g (p+1) [2,0,3,1,5,0,6] _ _ _ _ (HR1.o.bz aj) (by omega) az (by rfl) (by first|omega|(simp;omega)) (by rfl) (by decide) (by decide)).mono ?_;rintro e w2 ⟨y,hy,rfl,hR,hF⟩;replace k0:=(k0.alloc _).fr hF;have pQ:=ax ((uh.o.alloc _).trans hF);have HR2:=ax hR;have HY:=ax ((by decide:∀m∈[(2:Int),0,3,1,5,0,6],jq m=true) y hy);have l2:=k0.lt;clear hR hF hy;have k1:ae (w2.alloc (.cells #[.int .i64 1,.int .i64 x,.int .i64 y] tA)) w2.heap.size tA #[.int .i64 1,.int .i64 x,.int .i64 y]:=ae.new _ _ _;(go_wp2_with fail);refine(iw g (p+1+1) 2 _ (HR2.o.bz aj) (by omega)).mono ?_;rintro e w3 ⟨m,rfl,-,hR,hF⟩;replace k0:=(k0.alloc (.cells #[.int .i64 1,.int .i64 x,.int .i64 y] tA)).fr hF;replace k1:=k1.fr hF;have oz:=ax ((pQ.o.alloc _).trans hF);have HR3:=ax hR;clear hR hF;(replace bT:=k0.cell;replace JA:=k0.frozen;replace EE:=k0.lt;replace fI:=k1.z);have hsz:=pQ.o.size;have hne:w.heap.size≠w2.heap.size:=by omega
 by_cases hm:(m:Int)=0
 ·have hm':((m:Int) == 0)=true:=by simpa using hm
  clear hm;go_wp2;refine bodyPost_ret (v:=(aL.mk 2 x y).val) (by simp[results,Tryz.results88,go_sem,bT]) rfl ⟨⟨2,x,y⟩,by simp[aL.valid,HX.o,HY.o],rfl,?_,?_⟩
  ·repeat (first|exact HR3.o|refine dX.ag ?_ (by simp only;omega) _)
  ·repeat (first|exact oz.o|refine Fr.ag ?_ (Or.inr (by simp only;omega)) _)
 ·have hm':((m:Int) == 0)=false:=by simpa using hm
  clear hm;go_wp2;refine bodyPost_ret (v:=(aL.mk 1 x y).val) (by simp[results,Tryz.results88,go_sem,bT]) rfl ⟨⟨1,x,y⟩,by simp[aL.valid,HX.o,HY.o],rfl,?_,?_⟩
  ·repeat (first|exact HR3.o|refine dX.ag ?_ (by simp only;omega) _)
  ·repeat (first|exact oz.o|refine Fr.ag ?_ (Or.inr (by simp only;omega)) _)
end
section
open Go
section
variable{P:Program}{md:Region.Mode}{ops:Array Oper}{S:World->Prop}{Q:Exit->Act->World->Prop}{I:Array Bool->Act->World->Prop}
def dn(D:Array Bool)(j:Nat):Bool:=D.getD j false
theorem aT{D:Array Bool}{i j:Nat}(h:i≠j):dn (D.setIfInBounds i true) j=dn D j:=getD_set_ne false h
theorem jV{D:Array Bool}{i:Nat}(h:D.getD i true=false):dn (D.setIfInBounds i true) i=true:=by
 unfold dn;rcases Nat.lt_or_ge i D.size with h'|h'
 ·simp[h']
 ·simp[Array.getElem?_eq_none h'] at h
theorem nJ{D:Array Bool}{i:Nat}(h:D.getD i true=false):dn D i=false:=by
 unfold dn;rcases Nat.lt_or_ge i D.size with h'|h'
 ·simp[h'] at h⊢;exact h
 ·simp[Array.getElem?_eq_none h'] at h
theorem aK{D:Array Bool}{i j:Nat}{p q:Prop}(hij:i≠j)(h:dn D j=true->p)(hpq:p->q):dn (D.setIfInBounds i true) j=true->q:=fun e=>hpq (h (by rwa [aT hij] at e))
def Pe(md:Region.Mode)(ops:Array Oper)(H:List Nat)(Dz:Array Bool):Nat->Array Bool->Bool
 | 0,D=>decide (D=Dz)
 | n+1,D=>!(Region.ready md ops D).isEmpty&&(Region.ready md ops D).all fun i=>H.contains i&&Pe md ops H Dz n (D.setIfInBounds i true)
def aV(P:Program)(md:Region.Mode)(ops:Array Oper)(Q:Exit->Act->World->Prop)(S:World->Prop)(I:Array Bool->Act->World->Prop)(hs:List Nat):Prop:=
 ∀i∈hs,∀D a w,i∈Region.ready md ops D->I D a w->S w->wpOp P ops Q i (fun a' w'=>S w'/\I (D.setIfInBounds i true) a' w') a w
theorem aV.nil:aV P md ops Q S I []:=fun _ h=>by cases h
theorem aV.cons{i:Nat}{o:Oper}{hs:List Nat}(ho:ops[i]? = some o)
  (h:∀(D:Array Bool) (a:Act) (w:World),D.getD i true=false->(∀e∈o.after.toList,Region.binds md e=true->dn D e.on=true)->I D a w->S w->
   ∀K':Act->World->Prop,Shut (∀a w,S w->I (D.setIfInBounds i true) a w->K' a w)->∀G:Prop,((if Region.wanted o (yielded ops a.tmps)=true then Oper.wp P o a w K' Q else K' (a.put o.dst undef) w)->G)->G)
  (hs':aV P md ops Q S I hs):aV P md ops Q S I (i :: hs):=fun j hj D a w hr hI hS=>by
 rcases List.mem_cons.1 hj with rfl|hj
 ·obtain⟨h1,o',ho',h2⟩:=mem_ready.1 hr;obtain rfl:o=o':=Option.some.inj (ho.symm.trans ho');exact wpOp_step ho (fun K' hK=>h D a w h1 (fun e he hb=>h2 e (Array.mem_toList_iff.1 he) hb) hI hS K' (fun a w hS hW=>hK a w ⟨hS,hW⟩) _ id)
 ·exact hs' j hj D a w hr hI hS
theorem mQ(H:List Nat)(Dz:Array Bool){fuel:Nat}{D0:Array Bool}{a0:Act}{w0:World}(n:Nat)(hH:Pe md ops H Dz n D0=true)(hS:S w0)(J:Act->Array Bool->Act->World->Prop)(h0:J a0 D0 a0 w0)
  (hstep:aV P md ops Q S (J a0) H) (hend:∀a w,S w->J a0 Dz a w->wpAnyH P md ops Q S fuel Dz a w):wpAnyH P md ops Q S (fuel+n) D0 a0 w0:=by
 generalize hJ:J a0=I at*;clear hJ
 induction n generalizing D0 a0 w0 with
 | zero=>
  unfold Pe at hH;obtain rfl:D0=Dz:=of_decide_eq_true hH;exact hend _ _ hS h0
 | succ n ih=>
  unfold Pe at hH;simp only[Bool.and_eq_true,Bool.not_eq_true',List.all_eq_true,List.isEmpty_eq_false_iff,List.contains_iff_mem] at hH;refine wpAnyH_ready (fuel:=fuel+n) rfl hH.1 fun i hi=>?_;have h1:=hH.2 i hi;exact wpOp_mono (fun a' w' h=>⟨h.1,ih h1.2 h.1 h.2⟩) (hstep i h1.1 D0 a0 w0 hi h0 hS)
end
section
variable{P:Program}{md:Region.Mode}{S:World->Prop}{Q:Exit->Act->World->Prop}
def mi(P:Program)(st:Oper)(Q:Exit->Act->World->Prop):Exit->Act->World->Prop
 | .normal,a,w=>Oper.wp P st a w (Q .normal) Q
 | e,a,w=>Q e a w
def gP(st:Oper):Oper:={ st with op:=.assign (.const undef),dst:=none,guard:=none }
theorem Mo{o:Oper}{a:Act}{w:World}{K K':Act->World->Prop}{Q Q':Exit->Act->World->Prop}(hK:∀a w,K a w->K' a w)
  (hQ:∀c a w,Q (.panic c) a w->Q' (.panic c) a w) (hL:LetsOut Q->LetsOut Q') (hh:o.wp P a w K Q):o.wp P a w K' Q':=by
 unfold Oper.wp at*;generalize (execOp a.eval o).run P w=r at*
 cases r with
 | ok n w'=>
  cases n<;>simp only[Oper.upon] at hh⊢<;>
   first
    | exact hK _ _ hh
    | exact Calls.mono hh (fun e w'' he=>by cases e<;>first|exact hK _ _ he|exact hQ _ _ _ he|exact hL he)
    | exact Rows.mono hh (fun _ _ he=>hK _ _ he)
 | halt x w'=>cases x<;>simp only[Oper.upon] at hh⊢<;>first|exact hQ _ _ _ hh|exact hh
theorem ui(l:List Oper)(st:Oper)(listed:Array Bool):Region.ready md (l++[gP st]).toArray listed=Region.ready md (l++[st]).toArray listed:=by
 unfold Region.ready;simp only[List.size_toArray,length_append,length_cons,length_nil];apply List.filter_congr;intro i hi
 congr 1
 simp only[List.getElem?_toArray,List.getElem?_append]
 split
 ·rfl
 ·rcases Nat.eq_zero_or_pos (i - l.length) with h|h
  ·rw[h];rfl
  ·rw[List.getElem?_eq_none (by simp;omega),List.getElem?_eq_none (by simp;omega)]
def JB(md:Region.Mode)(ops:Array Oper):Bool:=
 (range ops.size).all fun i=>match ops[i]? with|some o=>o.after.all fun e=>!Region.binds md e || decide (e.on<i)|none=>true
theorem zk{ops:Array Oper}(ht:JB md ops=true){listed:Array Bool}(hsz:listed.size=ops.size){z:Nat}(hz:z<ops.size)(hun:listed.getD z true=false):Region.ready md ops listed≠[]:=by
 have:∀n z,z<n->z<ops.size->listed.getD z true=false->∃i,i∈Region.ready md ops listed:=by
  intro n
  induction n with
  | zero=>intro z h;omega
  | succ n ih=>
   intro z hzn hz hun;by_cases hm:∃j,j<z/\listed.getD j true=false
   ·obtain⟨j,hj,UI⟩:=hm;exact ih j (by omega) (by omega) UI
   ·refine⟨z,mem_ready.2 ⟨hun,ops[z],Array.getElem?_eq_getElem hz,fun e he hb=>?_⟩⟩;have h1:=List.all_eq_true.1 ht z (by simpa using hz);rw[Array.getElem?_eq_getElem hz] at h1;simp only[Array.all_eq_true_iff_forall_mem] at h1;have h2:=h1 e he;rw[hb] at h2;simp at h2;cases h3:listed.getD e.on true
    ·exact absurd ⟨e.on,h2,h3⟩ hm
    ·have h4:e.on<listed.size:=by omega
     simp[h4] at h3⊢;exact h3
 obtain⟨i,hi⟩:=this (z+1) z (Nat.lt_succ_self _) hz hun;intro h;rw[h] at hi;cases hi
theorem Bv{l:List Oper}{st:Oper}(hg:(l.all fun o=>o.guard.isNone)=true)(hst:st.guard.isNone=true)
  (hs:Region.sinkB md (l++[st]).toArray l.length=true) (hc:Region.chainB md (l++[st]).toArray l.length=true) (ht:JB md (l++[st]).toArray=true) :
  ∀(f:Nat) (listed:Array Bool) (a:Act) (w:World),HeadInv md (l++[st]).toArray l.length listed->
   wpAnyH P md (l++[gP st]).toArray (mi P st Q) S f listed a w->wpAny P md (l++[st]).toArray Q f listed a w:=by
 have hsz:(l++[st]).toArray.size=l.length+1:=by simp
 have hzs:(l++[st]).toArray[l.length]? = some st:=by simp
 have hzn:(l++[gP st]).toArray[l.length]? = some (gP st):=by simp
 intro f
 induction f with
 | zero=>
  intro listed a w inv h;have hun:=inv.tail l.length (Nat.le_refl _) (by omega);exact absurd ((ui l st listed).symm.trans h.1) (zk ht inv.size (by omega) hun)
 | succ f ih=>
  intro listed a w inv h;have hun:=inv.tail l.length (Nat.le_refl _) (by omega);refine⟨fun h0=>absurd h0 (zk ht inv.size (by omega) hun),fun i hi=>?_⟩;have hi':i∈Region.ready md (l++[gP st]).toArray listed:=by rw[ui];exact hi
  have h1:=h.2 i hi';obtain⟨_,oi,hoi,_⟩:=mem_ready.1 hi;have hil:i<l.length+1:=by have:=(Array.getElem?_eq_some_iff.1 hoi).1;omega
  by_cases hiz:i=l.length
  ·subst hiz
   have hall:∀j,j<l.length->listed.getD j true=true:=by
    intro j hj;cases hu:listed.getD j true
    ·exact absurd hi (tail_waits hs hc (by omega) inv _ j rfl hj hu l.length (Nat.le_refl _))
    ·rfl
   have hnil:Region.ready md (l++[st]).toArray (listed.setIfInBounds l.length true)=[]:=by
    rw[List.eq_nil_iff_forall_not_mem];intro j hj;obtain⟨UI,oj,hoj,_⟩:=mem_ready.1 hj;have hjl:j<l.length+1:=by have:=(Array.getElem?_eq_some_iff.1 hoj).1;omega
    by_cases e:l.length=j
    ·subst e;have:l.length<listed.size:=by have:=inv.size;omega
     simp[this] at UI
    ·rw[getD_set_ne true e,hall j (by omega)] at UI;cases UI
   unfold wpOp at h1⊢;simp only[hzn,hzs] at h1⊢;have hw1:Region.wanted (gP st) (yielded (l++[gP st]).toArray a.tmps)=true:=by simp[Region.wanted,gP]
   have hgs:st.guard=none:=by simpa using hst
   have hw2:Region.wanted st (yielded (l++[st]).toArray a.tmps)=true:=by simp[Region.wanted,hgs]
   rw[hw1,if_pos rfl] at h1;rw[hw2,if_pos rfl];refine Or.inl ?_
   have h2:wpAnyH P md (l++[gP st]).toArray (mi P st Q) S f (listed.setIfInBounds l.length true) a w:=by
    rcases h1 with h1|⟨h1,_⟩
    ·unfold Oper.wp at h1;simp[gP,execOp,Oper.upon,Act.put,Act.eval] at h1;exact h1.2
    ·simp[Oper.asks,gP,execOp] at h1;exact absurd h1 (by intro h;cases h;rename_i h;cases h)
   have h3:mi P st Q .normal a w:=by
    rw[<-ui] at hnil
    cases f with
    | zero=>exact h2.2
    | succ f=>exact h2.1 hnil
   refine Oper.wp_mono (fun a' w' hq=>?_) h3
   cases f with
   | zero=>exact⟨hnil,hq⟩
   | succ f=>exact⟨fun _=>hq,by rw[hnil];simp⟩
  ·have hlt:i<l.length:=by omega
   have e1:(l++[st]).toArray[i]? = some l[i]:=by simp[List.getElem?_append,hlt]
   have e2:(l++[gP st]).toArray[i]? = some l[i]:=by simp[List.getElem?_append,hlt]
   have hgi:l[i].guard=none:=by have:=List.all_eq_true.1 hg l[i] (getElem_mem hlt);simpa using this
   unfold wpOp at h1⊢;simp only[e1,e2] at h1⊢;have hw1:Region.wanted l[i] (yielded (l++[gP st]).toArray a.tmps)=true:=by simp[Region.wanted,hgi]
   have hw2:Region.wanted l[i] (yielded (l++[st]).toArray a.tmps)=true:=by simp[Region.wanted,hgi]
   rw[hw1,if_pos rfl] at h1;rw[hw2,if_pos rfl];rcases h1 with h1|⟨h1,h2⟩
   ·exact Or.inl (Mo (K:=fun a' w'=>S w'/\wpAnyH P md (l++[gP st]).toArray (mi P st Q) S f (listed.setIfInBounds i true) a' w') (fun a' w' hk=>ih _ _ _ (inv.set hi hlt) hk.2) (fun c a w h=>h) (fun h=>h) h1)
   ·exact Or.inr ⟨h1,h2⟩
theorem zl{l:List Oper}{st:Oper}{id:Nat}{a:Act}{w:World}(hm:P.follows .mixedOrders=true)(hg:(l.all fun o=>o.guard.isNone)=true)(hst:st.guard.isNone=true)
  (hs:Region.sinkB .any (l++[st]).toArray l.length=true) (hc:Region.chainB .any (l++[st]).toArray l.length=true) (ht:JB .any (l++[st]).toArray=true) (hS:S w.drew)
  (h:S w.drew->wpAnyH P .any (l++[gP st]).toArray (mi P st Q) S (l.length+1) (Array.replicate (l.length+1) false) a w.drew):(Code.region id (l++[st]).toArray true).wp P Q a w:=by
 refine wp_region_any hm ?_;have e:(l++[st]).toArray.size=l.length+1:=by simp
 rw[e];refine Bv hg hst hs hc ht _ _ _ _ ⟨by simp,fun j oj _ hl=>?_,fun t _ ht=>?_⟩ (h hS)
 ·rw[getD_replicate_false] at hl;cases hl
 ·exact getD_in (by simpa using ht) (getD_replicate_false _ _)
def lastB(L:List Oper):Bool:=
 match L.getLast? with
 | none=>false
 | some st=>(L.dropLast.all fun o=>o.guard.isNone)&&st.guard.isNone&&Region.sinkB .any L.toArray L.dropLast.length&&Region.chainB .any L.toArray L.dropLast.length&&JB .any L.toArray
theorem bQ{L:List Oper}{id:Nat}{a:Act}{w:World}(hne:L≠[])(hm:P.follows .mixedOrders=true)(hB:lastB L=true)(hS:S w.drew)
  (h:S w.drew->wpAnyH P .any (L.dropLast++[gP (L.getLast hne)]).toArray (mi P (L.getLast hne) Q) S L.length (Array.replicate L.length false) a w.drew):(Code.region id L.toArray true).wp P Q a w:=by
 have e:L.dropLast++[L.getLast hne]=L:=List.dropLast_concat_getLast hne;unfold lastB at hB;rw[List.getLast?_eq_some_getLast hne] at hB;simp only[Bool.and_eq_true] at hB;obtain⟨⟨⟨⟨h1,h2⟩,h3⟩,h4⟩,h5⟩:=hB;have hl:L.dropLast.length+1=L.length:=by have:=congrArg List.length e;simpa using this
 have key:=zl (P:=P) (S:=S) (Q:=Q) (l:=L.dropLast) (st:=L.getLast hne) (id:=id) (a:=a) (w:=w) hm h1 h2 (by rw[e];exact h3) (by rw[e];exact h4) (by rw[e];exact h5) hS (by rw[hl];exact h)
 rwa [e] at key
end
end
section
open Go Go.RowKit Go.Proofs
end
section
open Go Go.RowKit
section
variable{w w':World}{lo hi bJ hi':Nat}{v:Value}{s:wh}
end
def UJ(n:Int):Bool:=decide (1<=n/\n<=8)
def UK(n:Int):Bool:=decide (0<=n/\n<=8)
def UL(n:Int):Bool:=decide (n = -1) || UK n
def wh.valid(s:wh):Bool:=decide (s.values.length=8)&&decide (s.heap.length=8)&&(s.values.all UK&&s.heap.all UL)
def cont(h:List Int)(a:Int):Int:=if UJ a then (h[(a-1).toNat]?).getD (-1) else -1
def zn(h:List Int)(a:Int):Bool:=decide (0<=cont h a)
def uj(vs:List Int)(t:Int):Int:=if t=0 then 0 else (vs[(t-1).toNat]?).getD 0
def aF.holds(vs:List Int)(f:aF):Bool:=decide (uj vs f.a=uj vs f.b) == f.eq
def Kq(fs:List aF)(vs:List Int):Bool:=aS fs&&decide (vs.length=8)&&fs.all (aF.holds vs)
theorem wh.wE{s:wh}(h:s.valid=true):s.values.length=8/\s.heap.length=8:=by
 simp[wh.valid] at h;exact h.1
def QE(h:List Int):Nat->Int->Int->Option (List Int)
 | 0,x,UM=>if x=UM then some [] else none
 | n+1,x,UM=>if x=UM then some [] else if zn h x then (QE h n (cont h x) UM).map (x :: ·) else none
def Mq:List Int->List Int->Option (List Int)
 | seen,[]=>some seen
 | seen,c :: cs=>if c∈seen then none else Mq (seen++[c]) cs
def BR(s:wh)(x:aL):Option (List Int):=
 if x.kind=2 then QE s.heap 8 (uj s.values x.a) (uj s.values x.b) else if cont s.heap (uj s.values x.a)=uj s.values x.b then some [uj s.values x.a] else none
def BS(s:wh):List Int->List aL->Option (List Int)
 | seen,[]=>some seen
 | seen,x :: xs=>(BR s x).bind fun cs=>(Mq seen cs).bind fun UN=>BS s UN xs
def partOf(s:wh)(a:au):Option (List Int):=if s.valid&&a.valid&&Kq a.facts s.values then BS s [] a.atoms else none
end
section
open Go Go.RowKit Go.Proofs
def Bw(v:Value)(hi:Nat):Prop:=∀g,v.ownBlock=some g->g<hi
theorem aD.und{w:World}{base:Nat}{v:Value}{xs:List Int}(h:aD w base v xs):Bw v w.heap.size:=fun g hg=>(h.1.lt g hg).2
theorem ah.und{w:World}{base:Nat}{v:Value}{xs:List aF}(h:ah w base v xs):Bw v w.heap.size:=fun g hg=>(h.1.lt g hg).2
theorem af.und{w:World}{base:Nat}{v:Value}{xs:List aL}(h:af w base v xs):Bw v w.heap.size:=fun g hg=>(h.1.lt g hg).2
theorem Bw.mono{v:Value}{a b:Nat}(h:Bw v a)(hab:a<=b):Bw v b:=fun g hg=>Nat.lt_of_lt_of_le (h g hg) hab
structure Mk (p:Nat->Prop) (w w':World):Prop where
 os:w'.os=w.os
 tape:w'.tape=w.tape
 output:w'.output=w.output
 size:w.heap.size<=w'.heap.size
 block:∀k,k<w.heap.size->¬p k->w'.heap[k]? = w.heap[k]?
section
variable{p q:Nat->Prop}{w a b:World}
theorem Mk.refl(p:Nat->Prop)(w:World):Mk p w w:=⟨rfl,rfl,rfl,Nat.le_refl _,fun _ _ _=>rfl⟩
theorem Mk.trans(h:Mk p w a)(h2:Mk p a b):Mk p w b:=⟨h2.os.trans h.os,h2.tape.trans h.tape,h2.output.trans h.output,Nat.le_trans h.size h2.size,fun k hk hp=>(h2.block k (Nat.lt_of_lt_of_le hk h.size) hp).trans (h.block k hk hp)⟩
theorem Mk.mono(h:Mk p w a)(hpq:∀k,p k->q k):Mk q w a:=⟨h.os,h.tape,h.output,h.size,fun k hk hq=>h.block k hk fun hp=>hq (hpq k hp)⟩
theorem Mk.set(h:Mk p w a){x:Addr}(hx:p x.block)(u:Value):Mk p w (a.setCell x u):=h.trans ⟨rfl,rfl,rfl,by simp,fun k _ hk=>Below.heap_setCell a x u k (fun e=>hk (e▸hx))⟩
theorem Mk.iy(h:Below w.heap.size w a):Mk p w a:=⟨h.os,h.tape,h.output,h.size,fun k hk _=>h.block k hk⟩
theorem Mk.bz{lo:Nat}(h:Mk p w a)(hp:∀k,p k->lo<=k)(hl:lo<=w.heap.size):Below lo w a:=⟨h.os,h.tape,h.output,h.size,fun k hk=>h.block k (by omega) fun hp'=>by have:=hp k hp';omega⟩
theorem Mk.GR{hi:Nat}(h:Mk p w a)(hp:∀k,p k->k<hi):uK hi w a:=⟨h.size,fun k h1 h2=>h.block k h2 fun hp'=>by have:=hp k hp';omega⟩
theorem Mk.blk{g:Nat}{t:TypeId}{cs:Array Value}(h:Mk p w a)(hk:ae w g t cs)(hg:¬p g):ae a g t cs:=(h.block g hk.lt hg).trans hk
end
theorem zo{p:Nat->Prop}{w w':World}{base:Nat}{e:TypeId}{size:Nat}{v:Value}{n:Nat}{xs:List Value}(h:w.ownsRow base e size v n xs)(hb:Mk p w w')(hp:∀g,v.ownBlock=some g->¬p g):w'.ownsRow base e size v n xs:=by
 obtain⟨h1,h2⟩:=h;refine⟨h1,?_⟩;rcases h2 with h2|⟨g,cap,cur,hv,hg,hh,r⟩
 ·exact Or.inl h2
 ·exact Or.inr ⟨g,cap,cur,hv,hg,(hb.block g (ae.lt hh) (hp g (by rw[hv];rfl))).trans hh,r⟩
theorem aD.mk{p:Nat->Prop}{w w':World}{base:Nat}{v:Value}{xs:List Int}(h:aD w base v xs)(hb:Mk p w w')(hp:∀g,v.ownBlock=some g->¬p g):aD w' base v xs:=⟨zo h.1 hb hp,h.2⟩
theorem ah.mk{p:Nat->Prop}{w w':World}{base:Nat}{v:Value}{xs:List aF}(h:ah w base v xs)(hb:Mk p w w')(hp:∀g,v.ownBlock=some g->¬p g):ah w' base v xs:=⟨zo h.1 hb hp,h.2⟩
theorem af.mk{p:Nat->Prop}{w w':World}{base:Nat}{v:Value}{xs:List aL}(h:af w base v xs)(hb:Mk p w w')(hp:∀g,v.ownBlock=some g->¬p g):af w' base v xs:=⟨zo h.1 hb hp,h.2⟩
theorem wh.eq_iff(f g:wh):f=g↔f.values=g.values/\f.heap=g.heap:=by cases f;cases g;simp
end
section
open Go Go.RowKit Go.Proofs
attribute [local go_sem ↓] Go.wp_at_zero Go.wp_at_succ
theorem lC{α:Type}{L:List α}{i:Nat}{x:α}(h:L[i]? = some x):L.set i x=L:=by
 apply List.ext_getElem?;intro k;rw[List.getElem?_set]
 split
 ·rename_i e;subst e
  split
  ·exact h.symm
  ·rename_i hn;rw[List.getElem?_eq_none (by omega)] at h;cases h
 ·rfl
theorem sK{α:Type}(f0 f1 f2:α->Value):∀(L:List α) (j:Nat) (x:α),j<L.length->((L.set j x).flatMap fun x=>[f0 x,f1 x,f2 x])=(((L.flatMap fun x=>[f0 x,f1 x,f2 x]).set (j*3) (f0 x)).set (j*3+1) (f1 x)).set (j*3+2) (f2 x):=by
 intro L
 induction L with
 | nil=>intro j x h;simp at h
 | cons g L ih=>
  intro j x h
  cases j with
  | zero=>simp
  | succ j=>
   have e:=ih j x (by simpa using h);rw[List.set_cons_succ,flatMap_cons,e,flatMap_cons,show (j+1)*3=j*3+1+1+1 from by omega,show j*3+1+1+1+1=(j*3+1)+1+1+1 from by omega,show j*3+1+1+1+2=(j*3+2)+1+1+1 from by omega];simp only[cons_append,nil_append,List.set_cons_succ]
theorem Pre.Hm{cs:Array Value}{L:List Value}{m:Nat}(h:Pre cs L m)(i:Nat)(u:Value)(hs:m<=cs.size)(hl:m<=L.length):Pre (cs.setIfInBounds i u) (L.set i u) m:=by
 intro j hj;by_cases e:i=j
 ·subst e;rw[Array.getElem?_setIfInBounds_self,if_pos (by omega),List.getElem?_set_self (by omega)]
 ·rw[Array.getElem?_setIfInBounds_ne e,List.getElem?_set_ne e];exact h j hj
theorem ah.open_{w:World}{base:Nat}{A:Option Addr}{n c k:Nat}{fs:List aF}(h:ah w base (.slice A n c) fs)(hk:k<fs.length):∃g cur,n=fs.length/\A=some ⟨g,0,none⟩/\base<=g/\ae w g tF cur/\fs.length * 3<=cur.size/\cur[k*3]? = some (.bool fs[k].eq)/\cur[k*3+1]? = some (.int .i64 fs[k].a)/\cur[k*3+2]? = some (.int .i64 fs[k].b)/\
  (∀(i:Nat) (u:Value) (gs:List aF),iJ gs=(iJ fs).set i u->gs.length=fs.length->ah (w.setCell ⟨g,i,none⟩ u) base (.slice A n c) gs):=by
 obtain⟨⟨hl,h2⟩,hL⟩:=h;rcases h2 with ⟨e,hn⟩|⟨g,cap,cur,e,hb,hh,hn,hm,hs,ht⟩
 ·omega
 ·injection e with e1 e2 e3;subst e1 e2 e3;have hK:ae w g tF cur:=hh
  have hP:Pre cur (iJ fs) (fs.length * 3):=by
   intro j hj;rw[<-ht,List.getElem?_take,if_pos hj];simp
  obtain⟨t0,t1,t2⟩:=flat3 (fun f:aF=>.bool f.eq) (fun f=>.int .i64 f.a) (fun f=>.int .i64 f.b) fs k hk;refine⟨g,cur,rfl,rfl,hb,hK,by rw[hs];exact Nat.mul_le_mul hn (Nat.le_refl _),(hP _ (by omega)).trans t0,(hP _ (by omega)).trans t1,(hP _ (by omega)).trans t2,?_⟩;intro i u gs he hg;refine⟨?_,by rw[hg];exact hL⟩;rw[he,hg];exact ed (hK.ag i u) hb (by rw[List.length_set,hl]) (hP.Hm i u (by rw[hs];exact Nat.mul_le_mul hn (Nat.le_refl _)) (by rw[hl];exact Nat.le_refl _)) hn hm (by simpa using hs)
theorem af.open_{w:World}{base:Nat}{A:Option Addr}{n c k:Nat}{fs:List aL}(h:af w base (.slice A n c) fs)(hk:k<fs.length):∃g cur,n=fs.length/\A=some ⟨g,0,none⟩/\base<=g/\ae w g tA cur/\fs.length * 3<=cur.size/\cur[k*3]? = some (.int .i64 fs[k].kind)/\cur[k*3+1]? = some (.int .i64 fs[k].a)/\cur[k*3+2]? = some (.int .i64 fs[k].b)/\
  (∀(i:Nat) (u:Value) (gs:List aL),gK gs=(gK fs).set i u->gs.length=fs.length->af (w.setCell ⟨g,i,none⟩ u) base (.slice A n c) gs):=by
 obtain⟨⟨hl,h2⟩,hL⟩:=h;rcases h2 with ⟨e,hn⟩|⟨g,cap,cur,e,hb,hh,hn,hm,hs,ht⟩
 ·omega
 ·injection e with e1 e2 e3;subst e1 e2 e3;have hK:ae w g tA cur:=hh
  have hP:Pre cur (gK fs) (fs.length * 3):=by
   intro j hj;rw[<-ht,List.getElem?_take,if_pos hj];simp
  obtain⟨t0,t1,t2⟩:=flat3 (fun f:aL=>.int .i64 f.kind) (fun f=>.int .i64 f.a) (fun f=>.int .i64 f.b) fs k hk;refine⟨g,cur,rfl,rfl,hb,hK,by rw[hs];exact Nat.mul_le_mul hn (Nat.le_refl _),(hP _ (by omega)).trans t0,(hP _ (by omega)).trans t1,(hP _ (by omega)).trans t2,?_⟩;intro i u gs he hg;refine⟨?_,by rw[hg];exact hL⟩;rw[he,hg];exact ed (hK.ag i u) hb (by rw[List.length_set,hl]) (hP.Hm i u (by rw[hs];exact Nat.mul_le_mul hn (Nat.le_refl _)) (by rw[hl];exact Nat.le_refl _)) hn hm (by simpa using hs)
theorem Kr{fs:List aF}{k:Nat}(hk:k<fs.length)(v:Int):iJ (fs.set k ⟨fs[k].eq,v,fs[k].b⟩)=(iJ fs).set (k*3+1) (.int .i64 v):=by
 obtain⟨t0,t1,t2⟩:=flat3 (fun f:aF=>.bool f.eq) (fun f=>.int .i64 f.a) (fun f=>.int .i64 f.b) fs k hk;rw[iJ,sK _ _ _ _ _ _ hk,lC t0,lC];rw[List.getElem?_set_ne (by omega)];exact t2
theorem Kt{fs:List aF}{k:Nat}(hk:k<fs.length)(v:Int):iJ (fs.set k ⟨fs[k].eq,fs[k].a,v⟩)=(iJ fs).set (k*3+2) (.int .i64 v):=by
 obtain⟨t0,t1,t2⟩:=flat3 (fun f:aF=>.bool f.eq) (fun f=>.int .i64 f.a) (fun f=>.int .i64 f.b) fs k hk;rw[iJ,sK _ _ _ _ _ _ hk,lC t0,lC t1]
theorem Ku{fs:List aL}{k:Nat}(hk:k<fs.length)(v:Int):gK (fs.set k ⟨fs[k].kind,v,fs[k].b⟩)=(gK fs).set (k*3+1) (.int .i64 v):=by
 obtain⟨t0,t1,t2⟩:=flat3 (fun f:aL=>.int .i64 f.kind) (fun f=>.int .i64 f.a) (fun f=>.int .i64 f.b) fs k hk;rw[gK,sK _ _ _ _ _ _ hk,lC t0,lC];rw[List.getElem?_set_ne (by omega)];exact t2
theorem Kv{fs:List aL}{k:Nat}(hk:k<fs.length)(v:Int):gK (fs.set k ⟨fs[k].kind,fs[k].a,v⟩)=(gK fs).set (k*3+2) (.int .i64 v):=by
 obtain⟨t0,t1,t2⟩:=flat3 (fun f:aL=>.int .i64 f.kind) (fun f=>.int .i64 f.a) (fun f=>.int .i64 f.b) fs k hk;rw[gK,sK _ _ _ _ _ _ hk,lC t0,lC t1]
theorem ah.Rs{w:World}{base g n c k:Nat}{fs:List aF}(h:ah w base (.slice (some ⟨g,0,none⟩) n c) fs)(hk:k<fs.length)(v:Int){gs:List aF}(hgs:gs=fs.set k ⟨fs[k].eq,v,fs[k].b⟩):ah (w.setCell ⟨g,k*3+1,none⟩ (.int .i64 v)) base (.slice (some ⟨g,0,none⟩) n c) gs:=by
 subst hgs;obtain⟨g',cur,-,e,-,-,-,-,-,-,hs⟩:=h.open_ hk;simp only[Option.some.injEq,Addr.mk.injEq,and_true] at e;subst e;exact hs _ _ _ (Kr hk v) (by simp)
theorem ah.Pf{w:World}{base g n c k:Nat}{fs:List aF}(h:ah w base (.slice (some ⟨g,0,none⟩) n c) fs)(hk:k<fs.length)(v:Int){gs:List aF}(hgs:gs=fs.set k ⟨fs[k].eq,fs[k].a,v⟩):ah (w.setCell ⟨g,k*3+2,none⟩ (.int .i64 v)) base (.slice (some ⟨g,0,none⟩) n c) gs:=by
 subst hgs;obtain⟨g',cur,-,e,-,-,-,-,-,-,hs⟩:=h.open_ hk;simp only[Option.some.injEq,Addr.mk.injEq,and_true] at e;subst e;exact hs _ _ _ (Kt hk v) (by simp)
theorem af.Rs{w:World}{base g n c k:Nat}{fs:List aL}(h:af w base (.slice (some ⟨g,0,none⟩) n c) fs)(hk:k<fs.length)(v:Int){gs:List aL}(hgs:gs=fs.set k ⟨fs[k].kind,v,fs[k].b⟩):af (w.setCell ⟨g,k*3+1,none⟩ (.int .i64 v)) base (.slice (some ⟨g,0,none⟩) n c) gs:=by
 subst hgs;obtain⟨g',cur,-,e,-,-,-,-,-,-,hs⟩:=h.open_ hk;simp only[Option.some.injEq,Addr.mk.injEq,and_true] at e;subst e;exact hs _ _ _ (Ku hk v) (by simp)
theorem af.Pf{w:World}{base g n c k:Nat}{fs:List aL}(h:af w base (.slice (some ⟨g,0,none⟩) n c) fs)(hk:k<fs.length)(v:Int){gs:List aL}(hgs:gs=fs.set k ⟨fs[k].kind,fs[k].a,v⟩):af (w.setCell ⟨g,k*3+2,none⟩ (.int .i64 v)) base (.slice (some ⟨g,0,none⟩) n c) gs:=by
 subst hgs;obtain⟨g',cur,-,e,-,-,-,-,-,-,hs⟩:=h.open_ hk;simp only[Option.some.injEq,Addr.mk.injEq,and_true] at e;subst e;exact hs _ _ _ (Kv hk v) (by simp)
theorem aG.one{w:World}{g:Nat}{f:aF}(h:ae w g tF #[.bool f.eq,.int .i64 f.a,.int .i64 f.b]):aG w g (g+1) (some ⟨g,0,none⟩) [f]:=
 ⟨⟨by simp,fun _=>⟨g,0,rfl,Nat.le_refl _,Nat.lt_succ_self _,fun j u hu=>by rw[Nat.zero_add,h.cell];simpa using hu⟩⟩,by simp[il]⟩
theorem aB.one{w:World}{g:Nat}{f:aL}(h:ae w g tA #[.int .i64 f.kind,.int .i64 f.a,.int .i64 f.b]):aB w g (g+1) (some ⟨g,0,none⟩) [f]:=
 ⟨⟨by simp,fun _=>⟨g,0,rfl,Nat.le_refl _,Nat.lt_succ_self _,fun j u hu=>by rw[Nat.zero_add,h.cell];simpa using hu⟩⟩,by simp[il]⟩
theorem aG.cl{w:World}{lo hi b o k:Nat}{fs:List aF}(h:aG w lo hi (some ⟨b,o,none⟩) fs)(hk:k<fs.length):w.cell? ⟨b,o+k*3,none⟩=some (.bool fs[k].eq)/\w.cell? ⟨b,o+k*3+1,none⟩=some (.int .i64 fs[k].a)/\w.cell? ⟨b,o+k*3+2,none⟩=some (.int .i64 fs[k].b):=by
 obtain⟨b',o',e,hc⟩:=h.at hk;simp only[Option.some.injEq,Addr.mk.injEq,and_true] at e;obtain⟨rfl,rfl⟩:=e;exact hc
theorem aB.cl{w:World}{lo hi b o k:Nat}{fs:List aL}(h:aB w lo hi (some ⟨b,o,none⟩) fs)(hk:k<fs.length):w.cell? ⟨b,o+k*3,none⟩=some (.int .i64 fs[k].kind)/\w.cell? ⟨b,o+k*3+1,none⟩=some (.int .i64 fs[k].a)/\w.cell? ⟨b,o+k*3+2,none⟩=some (.int .i64 fs[k].b):=by
 obtain⟨b',o',e,hc⟩:=h.at hk;simp only[Option.some.injEq,Addr.mk.injEq,and_true] at e;obtain⟨rfl,rfl⟩:=e;exact hc
theorem aG.blt{w:World}{lo hi k:Nat}{A:Option Addr}{fs:List aF}(h:aG w lo hi A fs)(hk:k<fs.length):∃b o,A=some ⟨b,o,none⟩/\b<w.heap.size:=by
 obtain⟨b,o,e,hc,-⟩:=h.at hk;exact⟨b,o,e,block_lt_of_cell hc⟩
theorem aB.blt{w:World}{lo hi k:Nat}{A:Option Addr}{fs:List aL}(h:aB w lo hi A fs)(hk:k<fs.length):∃b o,A=some ⟨b,o,none⟩/\b<w.heap.size:=by
 obtain⟨b,o,e,hc,-⟩:=h.at hk;exact⟨b,o,e,block_lt_of_cell hc⟩
theorem bG.blt{w:World}{lo hi k:Nat}{A:Option Addr}{fs:List Int}(h:bG w lo hi A fs)(hk:k<fs.length):∃b o,A=some ⟨b,o,none⟩/\b<w.heap.size:=by
 obtain⟨b,o,e,hc⟩:=h.at hk;exact⟨b,o,e,block_lt_of_cell hc⟩
theorem bB.blt{w:World}{lo hi k:Nat}{A:Option Addr}{fs:List Bool}(h:bB w lo hi A fs)(hk:k<fs.length):∃b o,A=some ⟨b,o,none⟩/\b<w.heap.size:=by
 obtain⟨b,o,e,hc⟩:=h.at hk;exact⟨b,o,e,block_lt_of_cell hc⟩
theorem ig{w:World}{g base size:Nat}{t:TypeId}(h:ae w g t #[])(hb:base<=g):w.ownsRow base t size (.slice (some ⟨g,0,none⟩) 0 0) 0 []:=⟨by simp,.inr ⟨g,0,#[],rfl,hb,h,Nat.le_refl _,by decide,by simp,by simp⟩⟩
theorem ah.iG{w:World}{g base:Nat}(h:ae w g tF #[])(hb:base<=g):ah w base (.slice (some ⟨g,0,none⟩) 0 0) []:=⟨ig h hb,by simp[il]⟩
theorem af.iG{w:World}{g base:Nat}(h:ae w g tA #[])(hb:base<=g):af w base (.slice (some ⟨g,0,none⟩) 0 0) []:=⟨ig h hb,by simp[il]⟩
theorem aD.iG{w:World}{g base:Nat}(h:ae w g tI #[])(hb:base<=g):aD w base (.slice (some ⟨g,0,none⟩) 0 0) []:=⟨ig h hb,by simp[il]⟩
theorem ae.zm{w w':World}{g base size n:Nat}{t e:TypeId}{cs:Array Value}{v:Value}{xs:List Value}(h:ae w g t cs)(ho:w.ownsRow base e size v n xs)(hg:w.grownBy w' v.ownBlock)(ht:t≠e):ae w' g t cs:=by
 refine h.grown hg ?_;intro he;rcases ho.2 with ⟨rfl,_⟩|⟨k,cap,cur,rfl,_,hh,_⟩
 ·simp[Value.ownBlock] at he
 ·simp only[Value.ownBlock,Option.some.injEq] at he;exact ae.Bq h hh ht he
theorem ek{w w':World}{base base' size QF n n':Nat}{e e':TypeId}{v v':Value}{xs xs':List Value}(h:w.ownsRow base' e' QF v' n' xs')(ho:w.ownsRow base e size v n xs)(hg:w.grownBy w' v.ownBlock)(ht:e'≠e):w'.ownsRow base' e' QF v' n' xs':=by
 obtain⟨h1,h2⟩:=h;refine⟨h1,?_⟩;rcases h2 with h2|⟨k,cap,cur,hv,hk,hh,r⟩
 ·exact Or.inl h2
 ·exact Or.inr ⟨k,cap,cur,hv,hk,ae.zm hh ho hg ht,r⟩
theorem ah.jF{w w':World}{b b':Nat}{v v':Value}{xs:List aF}{ys:List aL}(h:ah w b v xs)(ho:af w b' v' ys)(hg:w.grownBy w' v'.ownBlock):ah w' b v xs:=⟨ek h.1 ho.1 hg (by decide),h.2⟩
theorem af.lY{w w':World}{b b':Nat}{v v':Value}{xs:List aL}{ys:List aF}(h:af w b v xs)(ho:ah w b' v' ys)(hg:w.grownBy w' v'.ownBlock):af w' b v xs:=⟨ek h.1 ho.1 hg (by decide),h.2⟩
theorem Rd.gp{w w':World}{lo hi size n B:Nat}{A:Option Addr}{xs:List Value}(h:Rd w lo hi size A n xs)(hb:Below B w w')(hh:hi<=B):Rd w' lo hi size A n xs:=h.keep fun b _ h2=>hb.block b (by omega)
theorem aG.gp{w w':World}{lo hi B:Nat}{A:Option Addr}{xs:List aF}(h:aG w lo hi A xs)(hb:Below B w w')(hh:hi<=B):aG w' lo hi A xs:=Rd.gp h hb hh
theorem aB.gp{w w':World}{lo hi B:Nat}{A:Option Addr}{xs:List aL}(h:aB w lo hi A xs)(hb:Below B w w')(hh:hi<=B):aB w' lo hi A xs:=Rd.gp h hb hh
theorem bG.gp{w w':World}{lo hi B:Nat}{A:Option Addr}{xs:List Int}(h:bG w lo hi A xs)(hb:Below B w w')(hh:hi<=B):bG w' lo hi A xs:=Rd.gp h hb hh
theorem bB.gp{w w':World}{lo hi B:Nat}{A:Option Addr}{xs:List Bool}(h:bB w lo hi A xs)(hb:Below B w w')(hh:hi<=B):bB w' lo hi A xs:=Rd.gp h hb hh
theorem cz{lo hi:Nat}(v:Value)(a:au)(w:World)(h:aM w lo hi v a):Calls Tryz.prog 77 #[v] w fun e w'=>∃r,e=.returned r/\aI w' w.heap.size r a/\Below w.heap.size w w':=by
 obtain⟨A1,c1,A2,c2,rfl,h1,h2⟩:=h;have l1:=h1.le;have l2:=h2.le;(go_enter Tryz.func77,Tryz.ntmps77);have kk:=Dh w 26 26 #[.slice A1 a.facts.length c1,.slice A2 a.atoms.length c2] #[.slice none 0 0,.slice none 0 0];have hB:Below w.heap.size w ((w.alloc (.cells #[.slice A1 a.facts.length c1,.slice A2 a.atoms.length c2] 26)).alloc (.cells #[.slice none 0 0,.slice none 0 0] 26)):=aj;obtain⟨k0,k1⟩:=kk;(go_wp2_with fail);generalize (w.alloc (.cells #[.slice A1 a.facts.length c1,.slice A2 a.atoms.length c2] 26)).alloc (.cells #[.slice none 0 0,.slice none 0 0] 26)=W at k0 k1 hB⊢
 go_region_held3 (fun w'=>(∀i,w'.cell? ⟨w.heap.size,i,none⟩=#[.slice A1 a.facts.length c1,.slice A2 a.atoms.length c2][i]?))
  (exact ae.cell az)
  (first
   | (go_at_call 98;refine(nH _ _ _ _ a.facts [] _ (h1.bz aj) (Rd.nil _ 0 0 3 none) (by simp;omega)).mono ?_;rintro e w3 ⟨r3,rfl,o3,hB3⟩;have hBw3:=aP (w:=w) aj hB3;have m0:=ae.nz (g:=w.heap.size) az hB3;have m1:=ae.nz (g:=w.heap.size+1) az hB3;have m1c:=m1.cell;have m1f:=m1.frozen;obtain⟨R3,d3,rfl,-⟩:=o3.rj;(try have X8:=(o4.bz aj).bz hB3))
   | (go_at_call 99;refine(nI _ _ _ _ a.atoms [] _ (h2.bz aj) (Rd.nil _ 0 0 3 none) (by simp;omega)).mono ?_;rintro e w4 ⟨r4,rfl,o4,hB4⟩;have UF:=aP (w:=w) aj hB4;have m0:=ae.nz (g:=w.heap.size) az hB4;have m1:=ae.nz (g:=w.heap.size+1) az hB4;have m1c:=m1.cell;have m1f:=m1.frozen;obtain⟨R4,d4,rfl,-⟩:=o4.rj;(try have Mm:=(o3.bz aj).bz hB4)))
 have X8:=o4;simp only[List.append_nil] at Mm X8;go_wp2;refine bodyPost_ret (v:=.agg #[.slice R3 a.facts.length d3,.slice R4 a.atoms.length d4]) (by simp[results,Tryz.results77,go_sem,m1c]) rfl ⟨_,rfl,⟨_,_,rfl,?_,?_⟩,aj⟩
 ·exact((Mm.aA m1 (by decide) _ _).aA (m1.ag _ _) (by decide) _ _).bq hB.size
 ·exact((X8.aA m1 (by decide) _ _).aA (m1.ag _ _) (by decide) _ _).bq (Nat.le_trans hB.size (Nat.le_trans (by simp) hB3.size))
theorem jv{lo hi bJ hi':Nat}(v v':Value)(a b:au)(w:World)(h:aM w lo hi v a)(h':aM w bJ hi' v' b)(hn1:a.facts.length+b.facts.length<=1049600)(hn2:a.atoms.length+b.atoms.length<=1049600) :
  Calls Tryz.prog 56 #[v,v'] w fun e w'=>∃r,e=.returned r/\aI w' w.heap.size r (jU a b)/\Below w.heap.size w w':=by
 obtain⟨A1,c1,A2,c2,rfl,h1,h2⟩:=h;obtain⟨A3,c3,A4,c4,rfl,h3,h4⟩:=h';(go_enter Tryz.func56,Tryz.ntmps56);have kk:=wD w 26 26 26 #[.slice A1 a.facts.length c1,.slice A2 a.atoms.length c2] #[.slice A3 b.facts.length c3,.slice A4 b.atoms.length c4] #[.slice none 0 0,.slice none 0 0];have hB:Below w.heap.size w (((w.alloc (.cells #[.slice A1 a.facts.length c1,.slice A2 a.atoms.length c2] 26)).alloc (.cells #[.slice A3 b.facts.length c3,.slice A4 b.atoms.length c4] 26)).alloc (.cells #[.slice none 0 0,.slice none 0 0] 26)):=aj;obtain⟨k0,k1,k2⟩:=kk;(go_wp2_with fail);have hz:=k2.lt;generalize (((w.alloc (.cells #[.slice A1 a.facts.length c1,.slice A2 a.atoms.length c2] 26)).alloc (.cells #[.slice A3 b.facts.length c3,.slice A4 b.atoms.length c4] 26)).alloc (.cells #[.slice none 0 0,.slice none 0 0] 26))=W at k0 k1 k2 hB hz⊢;have UO:True:=trivial;have UQ:True:=trivial;have QG:True:=trivial;have QH:True:=trivial
 go_region_held3 (fun w'=>(∀i,w'.cell? ⟨w.heap.size,i,none⟩=#[.slice A1 a.facts.length c1,.slice A2 a.atoms.length c2][i]?)/\(∀i,w'.cell? ⟨w.heap.size+1,i,none⟩=#[.slice A3 b.facts.length c3,.slice A4 b.atoms.length c4][i]?))
  (exact⟨ae.cell az,ae.cell az⟩)
  (first
   | (have _t:=UO;clear _t UO;refine jT (xs:=[]) rfl _ _ rfl rfl (ah.iG (base:=w.heap.size) az (by first|omega|(simp;omega))) rfl (h1.bz aj) (by first|omega|(simp;omega)) (by first|omega|(simp;omega)) ?_;intro F1 e1 w1 Hf hg1 hB1;have hBw1:Below w.heap.size w w1:=Below.trans aj hB1;simp only[nil_append] at Hf;have m10:=ae.zm (g:=w.heap.size) (hg:=hg1) az (ah.iG (base:=w.heap.size) az (by first|omega|(simp;omega))).1 (by decide);have m11:=ae.zm (g:=w.heap.size+1) (hg:=hg1) az (ah.iG (base:=w.heap.size) az (by first|omega|(simp;omega))).1 (by decide);have m12:=ae.zm (g:=w.heap.size+1+1) (hg:=hg1) az (ah.iG (base:=w.heap.size) az (by first|omega|(simp;omega))).1 (by decide);have lt1:=m12.lt;(try (have za:ae w1 (W.heap.size+1) tA #[]:=?zz;case zz=>(refine ae.zm (hg:=hg1) ?_ (ah.iG (base:=w.heap.size) az (by first|omega|(simp;omega))).1 (by decide);(repeat (first|(with_reducible assumption)|(with_reducible exact ae.new _ _ _)|((with_reducible apply ae.far);(case hp=>(first|exact Nat.le_refl _|(simp;done)|(simp;omega)|(simp only;omega)|omega)))|(with_reducible apply ae.ag)|((with_reducible refine ae.dA ?_);(simp;done))|(with_reducible apply ae.alloc)|(with_reducible apply ae.drew)|(with_reducible apply ae.drewN)));done)));(try (have za:ae w1 W.heap.size tA #[]:=?zz;case zz=>(refine ae.zm (hg:=hg1) ?_ (ah.iG (base:=w.heap.size) az (by first|omega|(simp;omega))).1 (by decide);(repeat (first|(with_reducible assumption)|(with_reducible exact ae.new _ _ _)|((with_reducible apply ae.far);(case hp=>(first|exact Nat.le_refl _|(simp;done)|(simp;omega)|(simp only;omega)|omega)))|(with_reducible apply ae.ag)|((with_reducible refine ae.dA ?_);(simp;done))|(with_reducible apply ae.alloc)|(with_reducible apply ae.drew)|(with_reducible apply ae.drewN)));done))))
   | (have _t:=UQ;clear _t UQ;refine jT (xs:=a.facts) rfl _ _ rfl rfl (ah.bz (w:=w1) Hf aj) rfl (h3.bz aj) (by first|omega|(simp;omega)) (by first|omega|(simp;omega)) ?_;intro F2 e2 w2 hO2 hg2 hB2;have hBw2:Below w.heap.size w w2:=Below.trans aj hB2;have m20:=ae.zm (g:=w.heap.size) (hg:=hg2) az (ah.bz (w:=w1) Hf aj).1 (by decide);have m21:=ae.zm (g:=w.heap.size+1) (hg:=hg2) az (ah.bz (w:=w1) Hf aj).1 (by decide);have m22:=ae.zm (g:=w.heap.size+1+1) (hg:=hg2) az (ah.bz (w:=w1) Hf aj).1 (by decide);have lt2:=m22.lt;(try (have zb:ae w2 w1.heap.size tA #[]:=?zz;case zz=>(refine ae.zm (hg:=hg2) ?_ (ah.bz (w:=w1) Hf aj).1 (by decide);(repeat (first|(with_reducible assumption)|(with_reducible exact ae.new _ _ _)|((with_reducible apply ae.far);(case hp=>(first|exact Nat.le_refl _|(simp;done)|(simp;omega)|(simp only;omega)|omega)))|(with_reducible apply ae.ag)|((with_reducible refine ae.dA ?_);(simp;done))|(with_reducible apply ae.alloc)|(with_reducible apply ae.drew)|(with_reducible apply ae.drewN)));done)));(try (have zb:=ae.zm (hg:=hg2) (ae.nz za aj) (ah.bz (w:=w1) Hf aj).1 (by decide))))
   | (have _t:=QG;clear _t QG;refine lW (xs:=[]) rfl _ _ rfl rfl (af.iG (base:=w.heap.size) az (by first|omega|(simp;omega))) rfl (h2.bz aj) (by first|omega|(simp;omega)) (by first|omega|(simp;omega)) ?_;intro F3 e3 w3 hO3 hg3 hB3;have hBw3:Below w.heap.size w w3:=Below.trans aj hB3;simp only[nil_append] at hO3;have m30:=ae.zm (g:=w.heap.size) (hg:=hg3) az (af.iG (base:=w.heap.size) az (by first|omega|(simp;omega))).1 (by decide);have m31:=ae.zm (g:=w.heap.size+1) (hg:=hg3) az (af.iG (base:=w.heap.size) az (by first|omega|(simp;omega))).1 (by decide);have m32:=ae.zm (g:=w.heap.size+1+1) (hg:=hg3) az (af.iG (base:=w.heap.size) az (by first|omega|(simp;omega))).1 (by decide);have lt3:=m32.lt;have hP3:=ah.jF (ah.bz (w:=w2) hO2 aj) (af.iG (base:=w.heap.size) az (by first|omega|(simp;omega))) hg3)
   | (have _t:=QH;clear _t QH;refine lW (xs:=a.atoms) rfl _ _ rfl rfl (af.bz (w:=w3) hO3 aj) rfl (h4.bz aj) (by first|omega|(simp;omega)) (by first|omega|(simp;omega)) ?_;intro F4 e4 w4 hO4 hg4 hB4;have UF:Below w.heap.size w w4:=Below.trans aj hB4;have m40:=ae.zm (g:=w.heap.size) (hg:=hg4) az (af.bz (w:=w3) hO3 aj).1 (by decide);have m41:=ae.zm (g:=w.heap.size+1) (hg:=hg4) az (af.bz (w:=w3) hO3 aj).1 (by decide);have m42:=ae.zm (g:=w.heap.size+1+1) (hg:=hg4) az (af.bz (w:=w3) hO3 aj).1 (by decide);have lt4:=m42.lt;have hP4:=ah.jF (ah.bz (w:=w3) hP3 aj) (af.bz (w:=w3) hO3 aj) hg4;have c42:=m42.cell;have f42:=m42.frozen))
 all_goals
  go_wp2;refine bodyPost_ret (v:=.agg #[.slice F2 (a.facts++b.facts).length e2,.slice F4 (a.atoms++b.atoms).length e4]) (by simp[results,Tryz.results56,go_sem,c42]) rfl ⟨_,rfl,⟨_,_,rfl,?_,?_⟩,aj⟩
  ·exact(hP4.aA m42 (by decide) _ _).aA (m42.ag _ _) (by decide) _ _
  ·exact(hO4.aA m42 (by decide) _ _).aA (m42.ag _ _) (by decide) _ _
end
section
open Go Go.RowKit Go.Proofs
theorem bG.lit{w:World}{x:Nat}{cs:Array Value}{xs:List Int}(hk:ae w x tI cs)(hcs:cs=(encI xs).toArray)(hl:xs.length<=100):bG w x (x+1) (some ⟨x,0,none⟩) xs:=
 ⟨⟨by simp[encI],fun _=>⟨x,0,rfl,bn,Nat.lt_succ_self _,fun j u hu=>by rw[Nat.zero_add,hk.cell,hcs];simpa using hu⟩⟩,by unfold il;omega⟩
theorem aG.Bz{w:World}{g:Nat}{e:Bool}{x y:Int}(h:ae w g tF #[.bool e,.int .i64 x,.int .i64 y]):aG w g (g+1) (some ⟨g,0,none⟩) [⟨e,x,y⟩]:=aG.one (f:=⟨e,x,y⟩) h
theorem aB.Bz{w:World}{g:Nat}{e:Int}{x y:Int}(h:ae w g tA #[.int .i64 e,.int .i64 x,.int .i64 y]):aB w g (g+1) (some ⟨g,0,none⟩) [⟨e,x,y⟩]:=aB.one (f:=⟨e,x,y⟩) h
theorem Kw(g p:Nat)(w:World)(h:dX w g p)(hp:p<=999990) :
  Calls Tryz.prog 15 #[.pointer (some ⟨g,0,none⟩)] w fun e w'=>∃r xs q,e=.returned r/\aD w' w.heap.size r xs/\xs.length<=2/\dX w' g q/\q<=p+3/\Fr g w w':=by
 have H:=ax h;have hlt:=h.lt;clear h;(go_enter Tryz.func15,Tryz.ntmps15);(go_wp2_with fail);refine(eU g p [0,1,0,2] _ _ _ _ (H.o.bz aj) (by omega) az (by rfl) (by first|omega|(simp;omega)) (by rfl) (by decide) (by decide)).mono ?_;rintro e w1 ⟨m,hm,rfl,hR,hF⟩;have o0:aD w1 w.heap.size (.slice (some ⟨w.heap.size,0,none⟩) 0 0) []:=((aD.empty w rfl).bz (ai aU _)).fr hF hlt;have uh:aJ (Fr g w w1):=(((Fr.refl g w).alloc _).alloc _).trans hF;obtain⟨k0,rfl⟩:=Int.eq_ofNat_of_zero_le ((by decide:∀m∈[(0:Int),1,0,2],0<=m) m hm);have hk2:k0<=2:=by have:=(by decide:∀m∈[(0:Int),1,0,2],m<=2) _ hm;omega
 have HR1:=ax hR;clear hm hR hF;(go_wp2_with fail)
 go_loopw [3,4] (fun o i wr=>∃(k:Nat) (xs:List Int) (A:Option Addr) (c q:Nat),i=.int .i64 k/\o=.slice A xs.length c/\k+xs.length<=2/\aD wr w.heap.size (.slice A xs.length c) xs/\dX wr g q/\q+k<=p+3/\aJ (Fr g w wr)) (fun _ i _=>(intOf i).toNat)
 case atStart=>exact⟨k0,[],_,_,p+1,rfl,rfl,by simpa using hk2,o0,HR1.o,by omega,uh⟩
 case round=>
  clear o0 uh HR1 hk2;obtain⟨k,xs,A,c,q,rfl,rfl,hkx,hO,hR,hq,HF⟩:=hrel;have HO:=ax hO;have HRR:=ax hR;have hsz:=HF.o.size;clear hO hR;by_cases hk:0<k
  ·have hki:(0:Int)<(k:Int):=by omega
   (go_wp2_with fail);refine(eU g q [5,6,1,8,9,-1] _ _ _ _ (HRR.o.bz aj) (by omega) az (by rfl) (by first|omega|(simp;omega)) (by rfl) (by decide) (by decide)).mono ?_;rintro e w2 ⟨x,-,rfl,hR,hF⟩;have hF2:=HF.o.alloc (.cells #[.int .i64 5,.int .i64 6,.int .i64 1,.int .i64 8,.int .i64 9,.int .i64 (-1)] tI) |>.trans hF;have BA:=ax ((HO.o.bz (ai aU (.cells #[.int .i64 5,.int .i64 6,.int .i64 1,.int .i64 8,.int .i64 9,.int .i64 (-1)] tI))).fr hF hlt);have pQ:=ax hF2;have HR2:=ax hR;have hsz2:=hF2.size;clear hR hF hF2;(go_wp2_with (at_builtin;refine Ml (ys:=[x]) (base:=w.heap.size) rfl _ _ rfl rfl (BA.o.bz aj) rfl (bG.lit (ae.dA rfl) rfl (by simp)) (by simp;omega) (by simp;omega) ?_;intro A' c' w3 o3 hg3 hB3));have lD:Fr g w w3:=(pQ.o.alloc _).Er hB3 bn;have BB:dX w3 g (q+1):=(HR2.o.bz (ai aU _)).jE hB3 hlt
   go_round
   case rel=>exact⟨k - 1,xs++[x],A',c',q+1,by go_num,by simp,by simp;omega,by simpa using o3,BB,by omega,lD⟩
   case measure=>simp[intOf];omega
  ·obtain rfl:k=0:=by omega
   go_wp2;go_ret;exact⟨_,xs,q,rfl,HO.o,by omega,HRR.o,by omega,HF.o⟩
theorem Mr(g p:Nat)(w:World)(h:dX w g p)(hp:p<=999900) :
  Calls Tryz.prog 69 #[.pointer (some ⟨g,0,none⟩)] w fun e w'=>∃r a q,e=.returned r/\aI w' w.heap.size r a/\a.valid=true/\a.facts.length<=2/\a.atoms.length<=4/\dX w' g q/\q<=p+30/\Fr g w w':=by
 have H:=ax h;have hlt:=h.lt;clear h;(go_enter Tryz.func69,Tryz.ntmps69);have kr:ae ((w.alloc (.cells #[.slice none 0 0,.slice none 0 0] 26)).alloc (.cells #[.slice none 0 0,.slice none 0 0] 26)) w.heap.size 26 #[.slice none 0 0,.slice none 0 0]:=az;have ka:ae ((w.alloc (.cells #[.slice none 0 0,.slice none 0 0] 26)).alloc (.cells #[.slice none 0 0,.slice none 0 0] 26)) (w.heap.size+1) 26 #[.slice none 0 0,.slice none 0 0]:=az;have Hl:aJ (Fr g w ((w.alloc (.cells #[.slice none 0 0,.slice none 0 0] 26)).alloc (.cells #[.slice none 0 0,.slice none 0 0] 26))):=((Fr.refl g w).alloc _).alloc _;(go_wp2_with fail);refine(eU g p [1,0,2,0] _ _ _ _ (H.o.bz aj) (by omega) az (by rfl) (by first|omega|(simp;omega)) (by rfl) (by decide) (by decide)).mono ?_;rintro e w1 ⟨m,hm,rfl,hR,hF⟩;replace kr:=(kr.alloc _).fr hF;replace ka:=(ka.alloc _).fr hF;have uh:aJ (Fr g w w1):=(Hl.o.alloc _).trans hF;obtain⟨k0,rfl⟩:=Int.eq_ofNat_of_zero_le ((by decide:∀m∈[(1:Int),0,2,0],0<=m) m hm);have hk2:k0<=2:=by have:=(by decide:∀m∈[(1:Int),0,2,0],m<=2) _ hm;omega
 have HR1:=ax hR;clear hm hR hF Hl H;(go_wp2_with fail)
 go_loopw [4] (fun i wr=>∃(k:Nat) (fs:List aF) (A:Option Addr) (c q:Nat),i=.int .i64 k/\k+fs.length<=2/\ah wr w.heap.size (.slice A fs.length c) fs/\aJ (∀f∈fs,f.valid=true)/\ae wr w.heap.size 26 #[.slice none 0 0,.slice none 0 0]/\ae wr (w.heap.size+1) 26 #[.slice A fs.length c,.slice none 0 0]/\dX wr g q/\q+3 * k<=p+7/\aJ (Fr g w wr)) (fun i _=>(intOf i).toNat)
 case atStart=>exact⟨k0,[],none,0,p+1,rfl,by simpa using hk2,ah.nil _ _,(fun f hf=>by cases hf),kr,ka,HR1.o,by omega,uh⟩
 case round=>
  clear kr ka uh HR1 hk2;obtain⟨k,fs,A,c,q,rfl,hkx,hO,HV,kr,ka,hR,hq,HF⟩:=hrel;have HO:=ax hO;have HRR:=ax hR;have hsz:=HF.o.size;have lr:=kr.lt;have la:=ka.lt;clear hO hR;by_cases hk:0<k
  ·have hki:(0:Int)<(k:Int):=by omega
   go_wp2;refine wp_region_noPanic ?_;refine bQ (S:=(fun w'=>∀i,w'.cell? ⟨w.heap.size+1,i,none⟩=#[.slice A fs.length c,.slice none 0 0][i]?)) (by simp) (by kernel_rfl) (by kernel_rfl) (ae.cell az) (fun aH=>?_);simp only[dropLast,getLast,gP,cons_append,nil_append,length_cons,length_nil,Nat.zero_add,Nat.reduceAdd];refine jQ 0 1 2 5 8 ?_
   refine mQ [3,4,6,7,9,10] #[true,true,true,true,true,true,true,true,true,true,true,false,false,false,false,false] 6 (by kernel_rfl) aH
    (fun a0 D a w'=>Fr g wr w'/\(∃q',dX w' g q'/\q'<=q+(dn D 3).toNat+(dn D 7).toNat+(dn D 10).toNat)/\∃v17 v18 v20 v21 v23 v24,a=((((((a0.put (some 17) v17).put (some 18) v18).put (some 20) v20).put (some 21) v21).put (some 23) v23).put (some 24) v24)/\
     (dn D 3=true->∃m:Nat,v17=.int .i64 (m:Int))/\
     (dn D 4=true->∃b,v18=.bool b)/\
     (dn D 6=true->∃x,v20=.slice (some ⟨x,0,none⟩) 4 4/\g<x/\ae w' x tI #[.int .i64 1,.int .i64 2,.int .i64 3,.int .i64 5])/\
     (dn D 7=true->∃m,m∈[(1:Int),2,3,5]/\v21=.int .i64 m)/\
     (dn D 9=true->∃x,v23=.slice (some ⟨x,0,none⟩) 5 5/\g<x/\ae w' x tI #[.int .i64 0,.int .i64 2,.int .i64 3,.int .i64 1,.int .i64 6])/\
     (dn D 10=true->∃m,m∈[(0:Int),2,3,1,6]/\v24=.int .i64 m)) ?start ?steps ?fin
   case start=>
    refine⟨(Fr.refl g wr).drew,⟨q,HRR.o.bz aj,by omega⟩,u17,u18,u20,u21,u23,u24,rfl,?_,?_,?_,?_,?_,?_⟩
    all_goals exact fun h=>absurd h (by decide)
   case steps=>
    refine aV.cons rfl (fun D a w' hu hd hI hS K' hK G hG=>?_) (aV.cons rfl (fun D a w' hu hd hI hS K' hK G hG=>?_) (aV.cons rfl (fun D a w' hu hd hI hS K' hK G hG=>?_) (aV.cons rfl (fun D a w' hu hd hI hS K' hK G hG=>?_) (aV.cons rfl (fun D a w' hu hd hI hS K' hK G hG=>?_) (aV.cons rfl (fun D a w' hu hd hI hS K' hK G hG=>?_) (aV.nil))))))
    ·obtain⟨hF,⟨q',hR,hq'⟩,v17,v18,v20,v21,v23,v24,ha,h3,h4,h6,h7,h9,h10⟩:=hI;rw[ha] at hG;clear ha a;replace hq':=ax hq';replace hR:=ax hR;replace hF:=ax hF;replace hS:=ax hS;replace h3:=ax h3;replace h4:=ax h4;replace h6:=ax h6;replace h7:=ax h7;replace h9:=ax h9;replace h10:=ax h10;refine hG ?_;clear hG;(try simp only[zz]);go_simp;refine(iw g q' 3 _ hR.o (by have:=hq'.o;have:=Bool.toNat_le (dn D 3);have:=Bool.toNat_le (dn D 7);have:=Bool.toNat_le (dn D 10);omega)).mono ?_;rintro e w2 ⟨m,rfl,-,hR2,hF2⟩;have lD:=hF.o.trans hF2;exact hK.out _ _ (fun i=>(ka.fr lD).cell i) ⟨lD,⟨q'+1,hR2,(by have z:=hq'.o;rw[nJ hu] at z;rw[jV hu,aT (show 3≠7 by decide),aT (show 3≠10 by decide)];simp only[Bool.toNat_true,Bool.toNat_false] at z⊢;omega)⟩,(.int .i64 (m:Int)),v18,v20,v21,v23,v24,rfl,fun _=>⟨m,rfl⟩,aK (by decide) h4.o id,aK (by decide) h6.o (fun⟨x,e,hx,hb⟩=>⟨x,e,hx,hb.fr hF2⟩),aK (by decide) h7.o id,aK (by decide) h9.o (fun⟨x,e,hx,hb⟩=>⟨x,e,hx,hb.fr hF2⟩),aK (by decide) h10.o id⟩
    ·obtain⟨hF,⟨q',hR,hq'⟩,v17,v18,v20,v21,v23,v24,ha,h3,h4,h6,h7,h9,h10⟩:=hI;rw[ha] at hG;clear ha a;replace hq':=ax hq';replace hR:=ax hR;replace hF:=ax hF;replace hS:=ax hS;replace h3:=ax h3;replace h4:=ax h4;replace h6:=ax h6;replace h7:=ax h7;replace h9:=ax h9;replace h10:=ax h10;have d3:dn D 3=true:=hd ⟨3,.data⟩ (by simp) (by decide);obtain⟨m,rfl⟩:=h3.o d3;clear h3 hd;refine hG ?_;clear hG;(try simp only[zz]);go_simp;exact hK.out _ _ hS.o ⟨hF.o,⟨q',hR.o,(by rw[aT (show 4≠3 by decide),aT (show 4≠7 by decide),aT (show 4≠10 by decide)];exact hq'.o)⟩,(.int .i64 (m:Int)),(.bool ((m:Int) == 0)),v20,v21,v23,v24,rfl,fun _=>⟨m,rfl⟩,fun _=>⟨_,rfl⟩,aK (by decide) h6.o id,aK (by decide) h7.o id,aK (by decide) h9.o id,aK (by decide) h10.o id⟩
    ·obtain⟨hF,⟨q',hR,hq'⟩,v17,v18,v20,v21,v23,v24,ha,h3,h4,h6,h7,h9,h10⟩:=hI;rw[ha] at hG;clear ha a;replace hq':=ax hq';replace hR:=ax hR;replace hF:=ax hF;replace hS:=ax hS;replace h3:=ax h3;replace h4:=ax h4;replace h6:=ax h6;replace h7:=ax h7;replace h9:=ax h9;replace h10:=ax h10;refine hG ?_;clear hG;(try simp only[zz]);go_simp;have lD:=hF.o.alloc (.cells #[.int .i64 1,.int .i64 2,.int .i64 3,.int .i64 5] tI);exact hK.out _ _ (fun i=>(ka.fr lD).cell i) ⟨lD,⟨q',hR.o.bz aj,(by rw[aT (show 6≠3 by decide),aT (show 6≠7 by decide),aT (show 6≠10 by decide)];exact hq'.o)⟩,v17,v18,(.slice (some ⟨w'.heap.size,0,none⟩) 4 4),v21,v23,v24,rfl,aK (by decide) h3.o id,aK (by decide) h4.o id,fun _=>⟨w'.heap.size,rfl,hR.o.lt,ae.new _ _ _⟩,aK (by decide) h7.o id,aK (by decide) h9.o (fun⟨x,e,hx,hb⟩=>⟨x,e,hx,hb.alloc _⟩),aK (by decide) h10.o id⟩
    ·obtain⟨hF,⟨q',hR,hq'⟩,v17,v18,v20,v21,v23,v24,ha,h3,h4,h6,h7,h9,h10⟩:=hI;rw[ha] at hG;clear ha a;replace hq':=ax hq';replace hR:=ax hR;replace hF:=ax hF;replace hS:=ax hS;replace h3:=ax h3;replace h4:=ax h4;replace h6:=ax h6;replace h7:=ax h7;replace h9:=ax h9;replace h10:=ax h10;have d6:dn D 6=true:=hd ⟨6,.data⟩ (by simp) (by decide);obtain⟨x,rfl,hx,hb⟩:=h6.o d6;clear h6 hd;refine hG ?_;clear hG;(try simp only[zz]);go_simp;refine(eU g q' [(1:Int),2,3,5] x 4 _ _ hR.o (by have:=hq'.o;have:=Bool.toNat_le (dn D 3);have:=Bool.toNat_le (dn D 7);have:=Bool.toNat_le (dn D 10);omega) hb (by rfl) hx (by rfl) (by decide) (by decide)).mono ?_;rintro e w2 ⟨m,hm,rfl,hR2,hF2⟩;have lD:=hF.o.trans hF2;exact hK.out _ _ (fun i=>(ka.fr lD).cell i) ⟨lD,⟨q'+1,hR2,(by have z:=hq'.o;rw[nJ hu] at z;rw[jV hu,aT (show 7≠3 by decide),aT (show 7≠10 by decide)];simp only[Bool.toNat_true,Bool.toNat_false] at z⊢;omega)⟩,v17,v18,(.slice (some ⟨x,0,none⟩) 4 4),(.int .i64 m),v23,v24,rfl,aK (by decide) h3.o id,aK (by decide) h4.o id,fun _=>⟨x,rfl,hx,hb.fr hF2⟩,fun _=>⟨m,hm,rfl⟩,aK (by decide) h9.o (fun⟨x,e,hx,hb⟩=>⟨x,e,hx,hb.fr hF2⟩),aK (by decide) h10.o id⟩
    ·obtain⟨hF,⟨q',hR,hq'⟩,v17,v18,v20,v21,v23,v24,ha,h3,h4,h6,h7,h9,h10⟩:=hI;rw[ha] at hG;clear ha a;replace hq':=ax hq';replace hR:=ax hR;replace hF:=ax hF;replace hS:=ax hS;replace h3:=ax h3;replace h4:=ax h4;replace h6:=ax h6;replace h7:=ax h7;replace h9:=ax h9;replace h10:=ax h10;refine hG ?_;clear hG;(try simp only[zz]);go_simp;have lD:=hF.o.alloc (.cells #[.int .i64 0,.int .i64 2,.int .i64 3,.int .i64 1,.int .i64 6] tI);exact hK.out _ _ (fun i=>(ka.fr lD).cell i) ⟨lD,⟨q',hR.o.bz aj,(by rw[aT (show 9≠3 by decide),aT (show 9≠7 by decide),aT (show 9≠10 by decide)];exact hq'.o)⟩,v17,v18,v20,v21,(.slice (some ⟨w'.heap.size,0,none⟩) 5 5),v24,rfl,aK (by decide) h3.o id,aK (by decide) h4.o id,aK (by decide) h6.o (fun⟨x,e,hx,hb⟩=>⟨x,e,hx,hb.alloc _⟩),aK (by decide) h7.o id,fun _=>⟨w'.heap.size,rfl,hR.o.lt,ae.new _ _ _⟩,aK (by decide) h10.o id⟩
    ·obtain⟨hF,⟨q',hR,hq'⟩,v17,v18,v20,v21,v23,v24,ha,h3,h4,h6,h7,h9,h10⟩:=hI;rw[ha] at hG;clear ha a;replace hq':=ax hq';replace hR:=ax hR;replace hF:=ax hF;replace hS:=ax hS;replace h3:=ax h3;replace h4:=ax h4;replace h6:=ax h6;replace h7:=ax h7;replace h9:=ax h9;replace h10:=ax h10;have d9:dn D 9=true:=hd ⟨9,.data⟩ (by simp) (by decide);obtain⟨x,rfl,hx,hb⟩:=h9.o d9;clear h9 hd;refine hG ?_;clear hG;(try simp only[zz]);go_simp;refine(eU g q' [(0:Int),2,3,1,6] x 5 _ _ hR.o (by have:=hq'.o;have:=Bool.toNat_le (dn D 3);have:=Bool.toNat_le (dn D 7);have:=Bool.toNat_le (dn D 10);omega) hb (by rfl) hx (by rfl) (by decide) (by decide)).mono ?_;rintro e w2 ⟨m,hm,rfl,hR2,hF2⟩;have lD:=hF.o.trans hF2;exact hK.out _ _ (fun i=>(ka.fr lD).cell i) ⟨lD,⟨q'+1,hR2,(by have z:=hq'.o;rw[nJ hu] at z;rw[jV hu,aT (show 10≠3 by decide),aT (show 10≠7 by decide)];simp only[Bool.toNat_true,Bool.toNat_false] at z⊢;omega)⟩,v17,v18,v20,v21,(.slice (some ⟨x,0,none⟩) 5 5),(.int .i64 m),rfl,aK (by decide) h3.o id,aK (by decide) h4.o id,aK (by decide) h6.o (fun⟨x,e,hx,hb⟩=>⟨x,e,hx,hb.fr hF2⟩),aK (by decide) h7.o id,fun _=>⟨x,rfl,hx,hb.fr hF2⟩,fun _=>⟨m,hm,rfl⟩⟩
   case fin=>
    rintro a w4 aH ⟨hF,⟨q',hR,hq'⟩,v17,v18,v20,v21,v23,v24,rfl,h3,h4,h6,h7,h9,h10⟩;obtain⟨m3,rfl⟩:=h3 (by decide);obtain⟨b4,rfl⟩:=h4 (by decide);obtain⟨m7,Rt,rfl⟩:=h7 (by decide);obtain⟨m10,UR,rfl⟩:=h10 (by decide);replace hq':q'<=q+3:=hq';clear h6 h9;(try simp only[zz]);have ka4:=ka.fr hF;have Es:=kr.fr hF;have Di:=ax (HO.o.fr hF hlt);have Ky:=ax (HF.o.trans hF);have HR4:=ax hR;have X9:=ax ((by decide:∀m∈[(1:Int),2,3,5],jq m=true) m7 Rt);have X':=ax ((by decide:∀m∈[(0:Int),2,3,1,6],jq m=true) m10 UR);have Pg:=Ky.o.size;have hlen:fs.length+1<=1049600:=by omega
    clear hF hR Rt UR ka kr HF HRR HO;refine jh 11 ?_;refine aX 12 rfl fun K hK=>?_;(try simp only[zz]);go_simp;refine hK.out _ _ (ae.cell az) ?_;clear aH hK K;intro aH;(try simp only[zz]);refine aX 13 rfl fun K hK=>?_;skip;(refine jT (ys:=[⟨b4,m7,m10⟩]) (base:=w.heap.size) rfl _ _ rfl rfl (Di.o.bz aj) rfl (aG.Bz (ae.dA rfl)) (by simpa using hlen) (by first|omega|(simp;omega)) ?_;intro A' c' w5 o5 hg5 bW;have Ot:=ae.zm (g:=w.heap.size+1) (hg:=hg5) az (Di.o.bz (ai aU _)).1 (by decide);have JC:=ae.zm (g:=w.heap.size) (hg:=hg5) az (Di.o.bz (ai aU _)).1 (by decide);rw[length_append,length_singleton];clear hg5);refine hK.out _ _ (ae.cell az) ?_;clear aH hK K;intro aH;refine jh 14 ?_;(replace Ya:=Ot.z);refine aX 15 rfl fun K hK=>?_;go_simp;refine hK.out _ _ (ae.cell az) (fun aH=>?_);clear hK K;refine wpAnyH_done (by kernel_rfl) ?_ _;unfold mi;go_simp;refine NoPanic.normal ?_;have zq:Fr g w w5:=(Ky.o.alloc _).Er bW bn;have BU:dX w5 g q':=(HR4.o.bz (ai aU _)).jE bW hlt;(go_wp2_with fail)
    go_round
    case rel=>exact⟨k - 1,fs++[⟨b4,m7,m10⟩],A',c',q',by go_num,by simp;omega,by rw[length_append,length_singleton] at o5⊢;exact o5.aA Ot (by decide) 0 _,(fun f hf=>by
     rcases List.mem_append.1 hf with hf|hf
     ·exact HV.o f hf
     ·rw[List.mem_singleton.1 hf];simp[aF.valid,X9.o,X'.o]),JC.far (by simp) _,by simpa using Ot.ag 0 (.slice A' (fs.length+1) c'),BU.ag (by simp only;omega) _,by omega,zq.ag (Or.inr (by simp only;omega)) _⟩
    case measure=>simp[intOf];omega
  ·obtain rfl:k=0:=by omega
   (go_wp2_with fail);refine(eU g q [2,1,3,2,0,4] _ _ _ _ (HRR.o.bz aj) (by omega) az (by rfl) (by first|omega|(simp;omega)) (by rfl) (by decide) (by decide)).mono ?_;rintro e w2 ⟨m,hm,rfl,hR,hF⟩;replace kr:=(kr.alloc _).fr hF;replace ka:=(ka.alloc _).fr hF;have pQ:aJ (Fr g w w2):=(HF.o.alloc _).trans hF;have hO2:=(HO.o.bz (ai aU (.cells #[.int .i64 2,.int .i64 1,.int .i64 3,.int .i64 2,.int .i64 0,.int .i64 4] tI))).fr hF hlt;obtain⟨k1,rfl⟩:=Int.eq_ofNat_of_zero_le ((by decide:∀m∈[(2:Int),1,3,2,0,4],0<=m) m hm);have hk4:k1<=4:=by have:=(by decide:∀m∈[(2:Int),1,3,2,0,4],m<=4) _ hm;omega
   have HR2:=ax hR;clear hm hR hF HF HRR HO;(go_wp2_with fail)
   go_loopw [5] (fun i wx=>∃(k:Nat) (xs:List aL) (B:Option Addr) (d q':Nat),i=.int .i64 k/\k+xs.length<=4/\af wx w.heap.size (.slice B xs.length d) xs/\aJ (∀x∈xs,x.valid=true)/\ah wx w.heap.size (.slice A fs.length c) fs/\ae wx w.heap.size 26 #[.slice none 0 0,.slice none 0 0]/\ae wx (w.heap.size+1) 26 #[.slice A fs.length c,.slice B xs.length d]/\dX wx g q'/\q'+3 * k<=p+20/\aJ (Fr g w wx)) (fun i _=>(intOf i).toNat)
   case atStart=>exact⟨k1,[],none,0,q+1,rfl,by simpa using hk4,af.nil _ _,(fun f hf=>by cases hf),hO2,kr,ka,HR2.o,by omega,pQ⟩
   case round=>
    clear kr ka pQ HR2 hO2 hk4;obtain⟨k,xs,B,d,q',rfl,hkx',hO,HX,hOf,kr,ka,hR,hq',HF⟩:=hrel;have HO:=ax hO;have TS:=ax hOf;have HRR:=ax hR;have hsz:=HF.o.size;have lr:=kr.lt;have la:=ka.lt;clear hO hR hOf;by_cases hk:0<k
    ·have hki:(0:Int)<(k:Int):=by omega
     go_wp2;refine wp_region_noPanic ?_;refine bQ (S:=(fun w'=>∀i,w'.cell? ⟨w.heap.size+1,i,none⟩=#[.slice A fs.length c,.slice B xs.length d][i]?)) (by simp) (by kernel_rfl) (by kernel_rfl) (ae.cell az) (fun aH=>?_);simp only[dropLast,getLast,gP,cons_append,nil_append,length_cons,length_nil,Nat.zero_add,Nat.reduceAdd];refine yU 0 1 2 ?_;refine aX 3 rfl fun K hK=>?_;(try simp only[zz]);(go_simp;refine(Ko g q' _ (HRR.o.bz aj) (by omega)).mono ?_;rintro e w4 ⟨x,hx,rfl,hR,hF⟩;have ka4:=ka.drew.fr hF;have Es:=kr.drew.fr hF;have Ky:=ax ((HF.o.drew).trans hF);have Di:=ax ((HO.o.bz aU.drew).fr hF hlt);have Yb:=ax ((TS.o.bz aU.drew).fr hF hlt);have HR4:=ax hR;have Ph:=ax hx;have Pg:=Ky.o.size;clear hR hF hx ka kr HF HRR HO TS);refine hK.out _ _ (ka4.cell) ?_;clear aH hK K;intro aH;(try simp only[zz]);have hlen:xs.length+1<=1049600:=by omega
     refine aX 4 rfl fun K hK=>?_;(try simp only[zz]);go_simp;refine hK.out _ _ (ae.cell az) ?_;clear aH hK K;intro aH;(try simp only[zz]);refine aX 5 rfl fun K hK=>?_;skip;(refine lW (ys:=[x]) (base:=w.heap.size) rfl _ _ rfl rfl (Di.o.bz aj) rfl (aB.one (f:=x) (ae.dA rfl)) (by simpa using hlen) (by first|omega|(simp;omega)) ?_;intro A' c' w5 o5 hg5 bW;have Ot:=ae.zm (g:=w.heap.size+1) (hg:=hg5) az (Di.o.bz (ai aU _)).1 (by decide);have JC:=ae.zm (g:=w.heap.size) (hg:=hg5) az (Di.o.bz (ai aU _)).1 (by decide);have Xg:=ah.jF (Yb.o.bz (ai aU _)) (Di.o.bz (ai aU _)) hg5;rw[length_append,length_singleton];clear hg5);refine hK.out _ _ (ae.cell az) ?_;clear aH hK K;intro aH;refine jh 6 ?_;(replace Ya:=Ot.z);refine aX 7 rfl fun K hK=>?_;go_simp;refine hK.out _ _ (ae.cell az) (fun aH=>?_);clear hK K;refine wpAnyH_done (by kernel_rfl) ?_ _;unfold mi;go_simp;refine NoPanic.normal ?_;have zq:Fr g w w5:=(Ky.o.alloc _).Er bW bn;have BU:dX w5 g (q'+3):=(HR4.o.bz (ai aU _)).jE bW hlt;(go_wp2_with fail)
     go_round
     case rel=>exact⟨k - 1,xs++[x],A',c',q'+3,by go_num,by simp;omega,by rw[length_append,length_singleton] at o5⊢;exact o5.aA Ot (by decide) 1 _,(fun f hf=>by
      rcases List.mem_append.1 hf with hf|hf
      ·exact HX.o f hf
      ·rw[List.mem_singleton.1 hf];exact Ph.o),Xg.aA Ot (by decide) 1 _,JC.far (by simp) _,by simpa using Ot.ag 1 (.slice A' (xs.length+1) c'),BU.ag (by simp only;omega) _,by omega,zq.ag (Or.inr (by simp only;omega)) _⟩
     case measure=>simp[intOf];omega
    ·obtain rfl:k=0:=by omega
     (replace US:=ka.z;replace uS:=kr.cell;replace EF:=kr.frozen;replace EG:=kr.lt);have hne:w.heap.size≠w.heap.size+1:=by omega
     have Ms:aJ ((⟨fs,xs⟩:au).valid=true):=by
      show _=_;simp only[au.valid,aS,Bool.and_eq_true,decide_eq_true_eq,List.all_eq_true];exact⟨⟨by omega,HV.o⟩,by omega,HX.o⟩
     go_wp2;refine bodyPost_ret (v:=.agg #[.slice A fs.length c,.slice B xs.length d]) (by simp[results,Tryz.results69,go_sem,uS]) rfl ⟨_,⟨fs,xs⟩,q',rfl,⟨_,_,rfl,?_,?_⟩,Ms.o,by simp only;omega,by simp only;omega,?_,by omega,?_⟩
     ·exact(TS.o.aA kr (by decide) 0 _).aA (kr.ag 0 _) (by decide) 1 _
     ·exact(HO.o.aA kr (by decide) 0 _).aA (kr.ag 0 _) (by decide) 1 _
     ·exact(HRR.o.ag (by simp only;omega) _).ag (by simp only;omega) _
     ·exact(HF.o.ag (Or.inr (by simp only;omega)) _).ag (Or.inr (by simp only;omega)) _
theorem oG{lo hi:Nat}(v:Value)(a:au)(w:World)(h:aM w lo hi v a) :
  Calls Tryz.prog 29 #[v] w fun e w'=>∃r,e=.returned r/\aI w' w.heap.size r a/\Below w.heap.size w w':=by
 have hV:=ax h;obtain⟨A1,c1,A2,c2,rfl,h1,h2⟩:=h;have HL:=ax (And.intro h1.le h2.le);clear h1 h2;have e0:aJ (jU a ⟨[],[]⟩=a):=by show _=_;simp[jU]
 (go_enter Tryz.func29,Tryz.ntmps29);have kr:ae ((w.alloc (.cells #[.slice A1 a.facts.length c1,.slice A2 a.atoms.length c2] 26)).alloc (.cells #[.slice none 0 0,.slice none 0 0] 26)) (w.heap.size+1) 26 #[.slice none 0 0,.slice none 0 0]:=az;(go_wp2_with fail);refine(jv _ _ a ⟨[],[]⟩ _ (hV.o.bz aj) (⟨none,0,none,0,rfl,Rd.nil _ 0 0 _ _,Rd.nil _ 0 0 _ _⟩) (by simpa using HL.o.1) (by simpa using HL.o.2)).mono ?_;rintro e w1 ⟨r,rfl,o,hB1⟩;have hB:=aP (w:=w) aj hB1;replace kr:=kr.nz hB1;rw[e0.o] at o;replace o:=o.bq (base':=w.heap.size) (by simp;omega);obtain⟨fv,av,rfl,o1,o2⟩:=o;obtain⟨F,e1,rfl,-⟩:=o1.rj;obtain⟨G,e2,rfl,-⟩:=o2.rj;have O1:=ax o1;have O2:=ax o2;(replace uS:=kr.cell;replace EF:=kr.frozen;replace EG:=kr.lt);clear o1 o2 hB1;go_wp2;refine bodyPost_ret (v:=.agg #[.slice F a.facts.length e1,.slice G a.atoms.length e2]) (by simp[results,Tryz.results29,go_sem,uS]) rfl ⟨_,rfl,⟨_,_,rfl,?_,?_⟩,aj⟩
 ·exact(O1.o.aA kr (by decide) 0 _).aA (kr.ag 0 _) (by decide) 1 _
 ·exact(O2.o.aA kr (by decide) 0 _).aA (kr.ag 0 _) (by decide) 1 _
theorem Ho{lo hi:Nat}(g p:Nat)(A:Option Addr)(c:Nat)(fs:List aF)(w:World)(h:dX w g p)(hp:p<=999990)(hf:aG w lo hi A fs)(hl:fs.length<=1000) :
  Calls Tryz.prog 34 #[.pointer (some ⟨g,0,none⟩),.slice A fs.length c] w fun e w'=>∃r fs' q,e=.returned r/\ah w' w.heap.size r fs'/\fs'.length<=fs.length+13/\dX w' g q/\q<=p+2/\Fr g w w':=by
 have H:=ax h;have HF:=ax hf;have hlt:=h.lt;have Pd:(fs.length:Int)<=1000:=by omega
 clear h hf;(go_enter Tryz.func34,Tryz.ntmps34);(go_wp2_with (at_builtin;refine gN (xs:=[]) (ys:=fs) rfl _ _ rfl (v:=.slice (some ⟨w.heap.size,0,none⟩) 0 0) rfl (ah.empty w) rfl (HF.o.bz aj) (by simp;omega) (by simp) ?_;intro A1 d1 w1 o1 hg1 hB1;simp only[nil_append] at o1⊢));have uh:aJ (Fr g w w1):=((Fr.refl g w).alloc _).Er hB1 bn;have HR1:aJ (dX w1 g p):=(H.o.bz (ai aU _)).jE hB1 hlt;have L9:=ax o1;clear o1 hg1 hB1;refine(iw g p 40 _ HR1.o (by omega)).mono ?_;rintro e w2 ⟨m,rfl,-,hR,hF⟩;have pQ:=ax (uh.o.trans hF);have HR2:=ax hR;have BA:=ax (L9.o.fr hF hlt);have hsz2:=pQ.o.size;clear hR hF uh HR1 L9;by_cases hm0:(m:Int)=0
 ·have e0:((m:Int) == 0)=true:=by simpa using hm0
  clear hm0;(go_wp2_with fail);refine(eU g (p+1) [-1,9,9223372036854775807] _ _ _ _ (HR2.o.bz aj) (by omega) az (by rfl) (by first|omega|(simp;omega)) (by rfl) (by decide) (by decide)).mono ?_;rintro e w3 ⟨x,-,rfl,hR,hF⟩;have oz:=ax ((pQ.o.alloc _).trans hF);have HR3:=ax hR;have uT:=ax ((BA.o.bz (ai aU (.cells #[.int .i64 (-1),.int .i64 9,.int .i64 9223372036854775807] tI))).fr hF hlt);have hsz3:=oz.o.size;clear hR hF;(go_wp2_with (at_builtin;refine gN (ys:=[⟨false,x,0⟩]) (base:=w.heap.size) rfl _ _ rfl rfl (uT.o.bz aj) rfl (aG.Bz (ae.dA rfl)) (by simp;omega) (by simp;omega) ?_;intro A4 d4 w4 o4 hg4 hB4;rw[length_append,length_singleton] at o4⊢));have tu:Fr g w w4:=(oz.o.alloc _).Er hB4 bn;have BV:dX w4 g (p+1+1):=(HR3.o.bz (ai aU _)).jE hB4 hlt;have HH:=ax (And.intro tu (And.intro BV o4));clear tu BV o4 hg4 hB4;go_ret;exact⟨.slice A4 (fs.length+1) d4,fs++[⟨false,x,0⟩],p+1+1,rfl,HH.o.2.2,by simp,HH.o.2.1,by omega,HH.o.1⟩
 ·have e0:((m:Int) == 0)=false:=by simpa using hm0
  clear hm0;by_cases hm1:(m:Int)=1
  ·have e1:((m:Int) == 1)=true:=by simpa using hm1
   clear hm1;(go_wp2_with fail)
   go_loopw [5] (fun o wx=>∃(xs:List aF) (B:Option Addr) (d:Nat),o=.slice B xs.length d/\(xs.length<=13\/xs.length<=fs.length)/\ah wx w.heap.size (.slice B xs.length d) xs/\aJ (dX wx g (p+1))/\aJ (Fr g w wx)) (fun o _=>13 - (match o with | .slice _ n _=>n|_=>0))
   case atStart=>exact⟨fs,A1,d1,rfl,Or.inr bn,BA.o,HR2.o,pQ.o⟩
   case round=>
    clear pQ HR2 BA hsz2;obtain⟨xs,B,d,rfl,hx,hO,HR,HF⟩:=hrel;have HO:=ax hO;have hsz:=HF.o.size;have HX:=ax hx;clear hO hx;by_cases hle:xs.length<=12
    ·have Mt:(xs.length:Int)<=12:=by omega
     (go_wp2_with (at_builtin;refine gN (ys:=[⟨true,1,2⟩]) (base:=w.heap.size) rfl _ _ rfl rfl (HO.o.bz aj) rfl (aG.Bz (ae.dA rfl)) (by simp;omega) (by simp;omega) ?_;intro A4 d4 w4 o4 hg4 hB4;rw[length_append,length_singleton] at o4⊢));have tu:Fr g w w4:=(HF.o.alloc _).Er hB4 bn;have BV:dX w4 g (p+1):=(HR.o.bz (ai aU _)).jE hB4 hlt
     go_round
     case rel=>exact⟨xs++[⟨true,1,2⟩],A4,d4,by simp,Or.inl (by simp;omega),by simpa using o4,BV,tu⟩
     case measure=>simp;omega
    ·have Mt:¬(xs.length:Int)<=12:=by omega
     go_wp2;go_ret;exact⟨.slice B xs.length d,rfl,xs,HO.o,by have:=HX.o;omega,p+1,HR.o,by omega,HF.o⟩
  ·have e1:((m:Int) == 1)=false:=by simpa using hm1
   clear hm1;go_wp2;go_ret;exact⟨_,fs,p+1,rfl,BA.o,by omega,HR2.o,by omega,pQ.o⟩
end
end Go.Proofs.YtjbboklnegfohaaGreat
