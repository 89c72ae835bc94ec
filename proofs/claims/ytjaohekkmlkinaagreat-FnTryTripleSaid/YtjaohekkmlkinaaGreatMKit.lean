/- Words for memory: slices that read as lists of cells, whole blocks, prefixes. Plain lemmas; no program. -/
import Derived.WalkKit
import Derived.Lib.Hide
import Derived.BigQuiet
import Derived.Deep.QuietTactic
import Derived.Deep.AppendLies
import Derived.Deep.Draws
import Derived.Deep.RegionHeld
import Derived.Deep.RegionHeld3
import Derived.OwnWalk
import Derived.StillTailTactics
import Derived.Test.YtjaohekkmlkinaaGreatProg
import Derived.ProofKit
import Derived.OpenShut
import Derived.Deep.Slices
import Derived.ChangeSame
import Derived.Laws.BitsAllLaws
import Derived.Laws.BitsLemmas
import Derived.Maps.AppendAt
import Derived.StillTail
import Derived.Deep.DrawnRows
import Derived.Deep.LoopGhost
set_option linter.unusedSimpArgs false
set_option linter.unusedVariables false
set_option maxRecDepth 100000
set_option maxHeartbeats 25600000
namespace Go.Proofs.YtjaohekkmlkinaaGreat
section
open Go Go.RowKit
def aJ (p:Prop):Prop:=p
theorem aJ.o {p:Prop} (h:aJ p):p:=h
theorem ax {p:Prop} (h:p):aJ p:=h
abbrev Lim (n:Nat):Prop:=n≤1049600
theorem zjD {a b:Bool} (h:a=b):Ending.returned (.bool a)=.returned (.bool b):=by rw[h]
theorem ret_int {k:IntKind} {a b:Int} (h:a=b):Ending.returned (.int k a)=.returned (.int k b):=by rw[h]
def Rw (w:World) (lo hi size:Nat) (A:Option Addr) (n:Nat) (xs:List Value):Prop:=
 xs.length=n * size∧(0<n * size→∃ b o,A=some ⟨b,o,none⟩∧lo≤b∧b<hi∧∀ j u,xs[j]? = some u→w.cell? ⟨b,o+j,none⟩=some u)
structure Rd (w:World) (lo hi size:Nat) (A:Option Addr) (n:Nat) (xs:List Value):Prop where
 raw:Rw w lo hi size A n xs
 lim:Lim n
section
variable {w w':World} {lo hi lo' hi' size n:Nat} {A:Option Addr} {xs:List Value}
theorem Rw.keep (h:Rw w lo hi size A n xs) (hk:∀ b,lo≤b→b<hi→w'.heap[b]? = w.heap[b]?):Rw w' lo hi size A n xs:=
 ⟨h.1,fun hn=>by
  obtain ⟨b,o,e,h1,h2,hc⟩:=h.2 hn
  exact ⟨b,o,e,h1,h2,fun j u hu=>(World.cell?_of_block (a:=⟨b,o+j,none⟩) (hk b h1 h2)).trans (hc j u hu)⟩⟩
theorem Rw.mono (h:Rw w lo hi size A n xs) (h1:lo'≤lo) (h2:hi≤hi'):Rw w lo' hi' size A n xs:=
 ⟨h.1,fun hn=>by
  obtain ⟨b,o,e,g1,g2,hc⟩:=h.2 hn
  exact ⟨b,o,e,by omega,by omega,hc⟩⟩
theorem Rd.keep (h:Rd w lo hi size A n xs) (hk:∀ b,lo≤b→b<hi→w'.heap[b]? = w.heap[b]?):Rd w' lo hi size A n xs:=⟨h.raw.keep hk,h.lim⟩
theorem Rd.mono (h:Rd w lo hi size A n xs) (h1:lo'≤lo) (h2:hi≤hi'):Rd w lo' hi' size A n xs:=⟨h.raw.mono h1 h2,h.lim⟩
theorem Rd.le (h:Rd w lo hi size A n xs):n≤1049600:=h.lim
theorem Rd.nil (w:World) (lo hi size:Nat) (A:Option Addr):Rd w lo hi size A 0 []:=⟨⟨by simp,fun h=>absurd h (by omega)⟩,by simp[Lim]⟩
theorem Rw.at1 (h:Rw w lo hi 1 A n xs) {k:Nat} (hk:k<n):∃ b o u,A=some ⟨b,o,none⟩∧lo≤b∧b<hi∧xs[k]? = some u∧w.cell? ⟨b,o+k,none⟩=some u:=by
 obtain ⟨b,o,e,h1,h2,hc⟩:=h.2 (by omega);have hl:k<xs.length:=by have:=h.1;omega
 exact ⟨b,o,xs[k],e,h1,h2,List.getElem?_eq_getElem hl,hc k _ (List.getElem?_eq_getElem hl)⟩
theorem Rw.form (h:Rw w lo hi size A n xs) (hn:0<n * size):∃ b o,A=some ⟨b,o,none⟩∧lo≤b∧b<hi∧∀ j u,xs[j]? = some u→w.cell? ⟨b,o+j,none⟩=some u:=h.2 hn
end
def Blk (w:World) (g:Nat) (t:TypeId) (cs:Array Value):Prop:=w.heap[g]? = some (.cells cs t (0,0))
section
variable {w w':World} {g:Nat} {t:TypeId} {cs:Array Value}
theorem Blk.lt (h:Blk w g t cs):g<w.heap.size:=by
 rcases Nat.lt_or_ge g w.heap.size with hlt|hge
 ·exact hlt
 ·unfold Blk at h;rw[Array.getElem?_eq_none hge] at h;cases h
theorem Blk.cell (h:Blk w g t cs) (i:Nat):w.cell? ⟨g,i,none⟩=cs[i]?:=cell_of_row w g i cs t (0,0) h
theorem Blk.frozen (h:Blk w g t cs) (i:Nat):w.frozen? ⟨g,i,none⟩=false:=by
 unfold Blk at h;simp[World.frozen?,h]
theorem Blk.z (h:Blk w g t cs):(∀ i:Nat,w.cell? ⟨g,i,none⟩=cs[i]?)∧(∀ i:Nat,w.frozen? ⟨g,i,none⟩=false)∧g<w.heap.size:=⟨h.cell,h.frozen,h.lt⟩
theorem Blk.new (w:World) (t:TypeId) (cs:Array Value):Blk (w.alloc (.cells cs t)) w.heap.size t cs:=heap_alloc_new w _
theorem Blk.newE {w:World} {g:Nat} {t:TypeId} {cs:Array Value} (hg:g=w.heap.size):Blk (w.alloc (.cells cs t)) g t cs:=by subst hg;exact Blk.new w t cs
theorem Blk.drew (h:Blk w g t cs):Blk w.drew g t cs:=h
theorem Blk.drewN (h:Blk w g t cs) (n:Nat):Blk (w.drewN n) g t cs:=h
theorem Blk.alloc (h:Blk w g t cs) (o:Obj):Blk (w.alloc o) g t cs:=(Below.heap_alloc w o g h.lt).trans h
theorem Blk.set_ (h:Blk w g t cs) (i:Nat) (u:Value):Blk (w.setCell ⟨g,i,none⟩ u) g t (cs.setIfInBounds i u):=by
 unfold Blk at h ⊢;simp[World.setCell,Array.getElem?_modify,h]
theorem Blk.far (h:Blk w g t cs) {p:Addr} (hp:g≠p.block) (u:Value):Blk (w.setCell p u) g t cs:=(Below.heap_setCell w p u g hp).trans h
theorem Blk.bz {B:Nat} (h:Blk w g t cs) (hb:Below B w w') (hg:g<B):Blk w' g t cs:=(hb.block g hg).trans h
theorem Blk.grown {row:Option Nat} (h:Blk w g t cs) (hb:w.grownBy w' row) (hg:some g≠row):Blk w' g t cs:=(hb.block g h.lt hg).trans h
theorem Blk.ne_ {g2:Nat} {t2:TypeId} {cs2:Array Value} (h:Blk w g t cs) (h2:Blk w g2 t2 cs2) (ht:t≠t2):g≠g2:=by
 rintro rfl;unfold Blk at h h2;rw[h] at h2;injection h2 with h2;injection h2 with _ h3;exact ht h3
end
def Pre (cs:Array Value) (L:List Value) (m:Nat):Prop:=∀ j,j<m→cs[j]? = L[j]?
theorem Pre.zero (cs:Array Value) (L:List Value):Pre cs L 0:=fun j h=>absurd h (by omega)
theorem Pre.take {cs:Array Value} {L:List Value} (h:Pre cs L L.length):cs.toList.take L.length=L:=by
 apply List.ext_getElem?;intro j;rw[List.getElem?_take];by_cases hj:j<L.length
 ·rw[if_pos hj];simpa using h j hj
 ·rw[if_neg hj];simp;omega
theorem own_of_blk {w:World} {g base n size cap:Nat} {t:TypeId} {cs:Array Value} {L:List Value} (h:Blk w g t cs) (hb:base≤g) (hL:L.length=n * size) (hp:Pre cs L (n * size)) (hnc:n≤cap) (hc:cap≤maxLen) (hs:cs.size=cap * size) :
  w.ownsRow base t size (.slice (some ⟨g,0,none⟩) n cap) n L:=by
 refine ⟨hL,.inr ⟨g,cap,cs,rfl,hb,h,hnc,hc,hs,?_⟩⟩;rw[←hL] at hp ⊢;exact hp.take
theorem own_reads {w:World} {base:Nat} {e:TypeId} {size:Nat} {v:Value} {n:Nat} {xs:List Value} (h:w.ownsRow base e size v n xs) (hl:Lim n):∃ A c,v=.slice A n c∧Rd w base w.heap.size size A n xs:=by
 obtain ⟨h1,h2⟩:=h;rcases h2 with ⟨rfl,rfl⟩|⟨g,cap,cur,rfl,hb,hg,hn,hm,hs,ht⟩
 ·exact ⟨none,0,rfl,⟨⟨h1,fun hn=>absurd hn (by omega)⟩,hl⟩⟩
 ·refine ⟨_,_,rfl,⟨⟨h1,fun hn0=>⟨g,0,rfl,hb,Blk.lt hg,fun j u hu=>?_⟩⟩,hl⟩⟩;rw[Nat.zero_add,cell_of_row w g j cur e (0,0) hg];rw[←ht,List.getElem?_take] at hu
  split at hu
  ·simpa using hu
  ·cases hu
theorem own_below {w w':World} {base:Nat} {e:TypeId} {size:Nat} {v:Value} {n:Nat} {xs:List Value} (h:w.ownsRow base e size v n xs) (hb:Below w.heap.size w w'):w'.ownsRow base e size v n xs:=by
 obtain ⟨h1,h2⟩:=h;refine ⟨h1,?_⟩;rcases h2 with h2|⟨g,cap,cur,hv,hg,hh,r⟩
 ·exact Or.inl h2
 ·exact Or.inr ⟨g,cap,cur,hv,hg,(hb.block g (Blk.lt hh)).trans hh,r⟩
theorem own_lower {w:World} {base base':Nat} {e:TypeId} {size:Nat} {v:Value} {n:Nat} {xs:List Value} (h:w.ownsRow base e size v n xs) (hb:base'≤base):w.ownsRow base' e size v n xs:=by
 obtain ⟨h1,h2⟩:=h;refine ⟨h1,?_⟩;rcases h2 with h2|⟨g,cap,cur,hv,hg,r⟩
 ·exact Or.inl h2
 ·exact Or.inr ⟨g,cap,cur,hv,by omega,r⟩
theorem below_drewN {B:Nat} {a w:World} (h:Below B a w) (n:Nat):Below B a (w.drewN n):=⟨h.os,h.tape,h.output,h.size,h.block⟩
theorem btoB {w w':World} {B:Nat} (h:Below w.heap.size w w') (hB:B≤w.heap.size):Below B w w':=h.mono hB
theorem bgo {w a b:World} (h:Below w.heap.size w a) (h2:Below a.heap.size a b):Below w.heap.size w b:=h.trans (h2.mono h.size)
theorem bbox {w a:World} (h:Below w.heap.size w a) (o:Obj):Below w.heap.size w (a.alloc o):=h.alloc h.size o
theorem Rw.bz {w w':World} {lo hi size n:Nat} {A:Option Addr} {xs:List Value} (h:Rw w lo hi size A n xs) (hb:Below w.heap.size w w'):Rw w' lo hi size A n xs:=
 ⟨h.1,fun hn=>by
  obtain ⟨b,o,e,h1,h2,hc⟩:=h.2 hn;have h0:=h.1;have hx:xs[0]? = some (xs[0]'(by omega)):=List.getElem?_eq_getElem (by omega);have hlt:b<w.heap.size:=block_lt_of_cell (hc 0 _ hx)
  exact ⟨b,o,e,h1,h2,fun j u hu=>(World.cell?_of_block (a:=⟨b,o+j,none⟩) (hb.block b hlt)).trans (hc j u hu)⟩⟩
theorem Rd.bz {w w':World} {lo hi size n:Nat} {A:Option Addr} {xs:List Value} (h:Rd w lo hi size A n xs) (hb:Below w.heap.size w w'):Rd w' lo hi size A n xs:=⟨h.raw.bz hb,h.lim⟩
theorem Rd.setb {w:World} {lo hi size n:Nat} {A:Option Addr} {xs:List Value} (h:Rd w lo hi size A n xs) {p:Addr} (hp:p.block<lo∨hi≤p.block) (u:Value):Rd (w.setCell p u) lo hi size A n xs:=
 h.keep fun b h1 h2=>Below.heap_setCell w p u b (by omega)
theorem Blk.nz {w w':World} {g:Nat} {t:TypeId} {cs:Array Value} (h:Blk w g t cs) (hb:Below w.heap.size w w'):Blk w' g t cs:=h.bz hb h.lt
structure Abv (lo:Nat) (w w':World):Prop where
 size:w.heap.size≤w'.heap.size
 block:∀ k,lo≤k→k<w.heap.size→w'.heap[k]? = w.heap[k]?
theorem Abv.refl (lo:Nat) (w:World):Abv lo w w:=⟨Nat.le_refl _,fun _ _ _=>rfl⟩
theorem Abv.trans {lo:Nat} {a b c:World} (h:Abv lo a b) (k:Abv lo b c):Abv lo a c:=
 ⟨Nat.le_trans h.size k.size,fun i h1 h2=>(k.block i h1 (Nat.lt_of_lt_of_le h2 h.size)).trans (h.block i h1 h2)⟩
theorem Abv.setCell {lo:Nat} {a b:World} (h:Abv lo a b) {p:Addr} (hp:p.block<lo) (u:Value):Abv lo a (b.setCell p u):=
 h.trans ⟨by simp,fun k h1 _=>Below.heap_setCell b p u k (by omega)⟩
theorem Abv.alloc {lo:Nat} {a b:World} (h:Abv lo a b) (o:Obj):Abv lo a (b.alloc o):=
 h.trans ⟨by simp,fun k _ h2=>Below.heap_alloc b o k h2⟩
theorem Abv.nz {lo:Nat} {a b c:World} (h:Abv lo a b) (hb:Below b.heap.size b c):Abv lo a c:=
 h.trans ⟨hb.size,fun k _ h2=>hb.block k h2⟩
theorem Rw.abv {w w':World} {lo hi lo' size n:Nat} {A:Option Addr} {xs:List Value} (h:Rw w lo hi size A n xs) (hb:Abv lo' w w') (hl:lo'≤lo):Rw w' lo hi size A n xs:=
 ⟨h.1,fun hn=>by
  obtain ⟨b,o,e,h1,h2,hc⟩:=h.2 hn;have h0:=h.1;have hx:xs[0]? = some (xs[0]'(by omega)):=List.getElem?_eq_getElem (by omega);have hlt:b<w.heap.size:=block_lt_of_cell (hc 0 _ hx)
  exact ⟨b,o,e,h1,h2,fun j u hu=>(World.cell?_of_block (a:=⟨b,o+j,none⟩) (hb.block b (by omega) hlt)).trans (hc j u hu)⟩⟩
theorem Rd.abv {w w':World} {lo hi lo' size n:Nat} {A:Option Addr} {xs:List Value} (h:Rd w lo hi size A n xs) (hb:Abv lo' w w') (hl:lo'≤lo):Rd w' lo hi size A n xs:=⟨h.raw.abv hb hl,h.lim⟩
theorem own_abv {w w':World} {base lo:Nat} {e:TypeId} {size:Nat} {v:Value} {n:Nat} {xs:List Value} (h:w.ownsRow base e size v n xs) (hb:Abv lo w w') (hl:lo≤base):w'.ownsRow base e size v n xs:=by
 obtain ⟨h1,h2⟩:=h;refine ⟨h1,?_⟩;rcases h2 with h2|⟨g,cap,cur,hv,hg,hh,r⟩
 ·exact Or.inl h2
 ·exact Or.inr ⟨g,cap,cur,hv,hg,(hb.block g (by omega) (Blk.lt hh)).trans hh,r⟩
theorem bcell {W w1:World} (hb:Below W.heap.size W w1):(∀ b o,b<W.heap.size→w1.cell? ⟨b,o,none⟩=W.cell? ⟨b,o,none⟩)∧(∀ b o,b<W.heap.size→w1.frozen? ⟨b,o,none⟩=W.frozen? ⟨b,o,none⟩):=
 ⟨fun b o h=>hb.cell (p:=⟨b,o,none⟩) h,fun b o h=>hb.frozen (p:=⟨b,o,none⟩) h⟩
theorem bel {B:Nat} {a w:World} (h:Below B a w:=by repeat (first|(with_reducible exact Below.refl _ _)|(with_reducible assumption)|(with_reducible apply bbox)|((with_reducible apply Below.setCell);(case hp=>(first|exact Nat.le_refl _|(simp;done)|(simp;omega)|(simp only;omega)|omega)))|(with_reducible apply Below.drew)|(with_reducible apply below_drewN))):Below B a w:=h
theorem blks {w:World} {g:Nat} {t:TypeId} {cs:Array Value} (h:Blk w g t cs:=by repeat (first|(with_reducible assumption)|(with_reducible exact Blk.new _ _ _)|((with_reducible apply Blk.far);(case hp=>(first|exact Nat.le_refl _|(simp;done)|(simp;omega)|(simp only;omega)|omega)))|(with_reducible apply Blk.set_)|((with_reducible refine Blk.newE ?_);(simp;done))|(with_reducible apply Blk.alloc)|(with_reducible apply Blk.drew)|(with_reducible apply Blk.drewN))):Blk w g t cs:=h
/-! shorter words for the moves through a drawn region -/
theorem zA {α:Type} {xs:List α} {i:Nat} (h:i<xs.toArray.size):xs.toArray[i]=xs[i]'(by simpa using h):=List.getElem_toArray h
theorem zB {α:Type} {a:α} {ls:List α} (h:0<(a :: ls).length):(a :: ls)[0]=a:=rfl
theorem zC {α:Type} {a:α} {ls:List α} {i:Nat} (h:i+1<(a :: ls).length):(a :: ls)[i+1]=ls[i]'(Nat.lt_of_succ_lt_succ h):=rfl
theorem zD {α:Type} {xs:List α} {i:Nat} {v:α}:xs.toArray.setIfInBounds i v=(xs.set i v).toArray:=List.setIfInBounds_toArray _ _ _
theorem zE {α:Type} {a b:α} {ls:List α}:(a :: ls).set 0 b=b :: ls:=rfl
theorem zF {α:Type} {a b:α} {ls:List α} {i:Nat}:(a :: ls).set (i+1) b=a :: ls.set i b:=rfl
/-! boxes made at the beginning -/
theorem bx2 {w:World} {F:World→Prop} {t1 t2:TypeId} {c1 c2:Array Value} (h:∀ W,Blk W w.heap.size t1 c1→Blk W (w.heap.size+1) t2 c2→Below w.heap.size w W→W.heap.size=w.heap.size+2→F W):F ((w.alloc (.cells c1 t1)).alloc (.cells c2 t2)):=
 h _ ((Blk.new _ _ _).alloc _) (by have:=Blk.new (w.alloc (.cells c1 t1)) t2 c2;rwa [World.size_alloc] at this) (((Below.refl _ _).alloc (Nat.le_refl _) _).alloc (by simp) _) (by simp)
theorem bx3 {w:World} {F:World→Prop} {t1 t2 t3:TypeId} {c1 c2 c3:Array Value} (h:∀ W,Blk W w.heap.size t1 c1→Blk W (w.heap.size+1) t2 c2→Blk W (w.heap.size+1+1) t3 c3→Below w.heap.size w W→W.heap.size=w.heap.size+3→F W):F (((w.alloc (.cells c1 t1)).alloc (.cells c2 t2)).alloc (.cells c3 t3)):=
 h _ (((Blk.new _ _ _).alloc _).alloc _) ((by have:=Blk.new (w.alloc (.cells c1 t1)) t2 c2;rwa [World.size_alloc] at this:Blk _ (w.heap.size+1) t2 c2).alloc _) (by have:=Blk.new ((w.alloc (.cells c1 t1)).alloc (.cells c2 t2)) t3 c3;rwa [World.size_alloc,World.size_alloc] at this) ((((Below.refl _ _).alloc (Nat.le_refl _) _).alloc (by simp) _).alloc (by simp;omega) _) (by simp)
theorem zz:(∀ {α:Type} {xs:List α} {i:Nat} (h:i<xs.toArray.size),xs.toArray[i]=xs[i]'(by simpa using h))∧(∀ {α:Type} {a:α} {ls:List α} (_:0<(a :: ls).length),(a :: ls)[0]=a)∧(∀ {α:Type} {a:α} {ls:List α} {i:Nat} (h:i+1<(a :: ls).length),(a :: ls)[i+1]=ls[i]'(Nat.lt_of_succ_lt_succ h))∧
  (∀ {α:Type} {xs:List α} {i:Nat} {v:α},xs.toArray.setIfInBounds i v=(xs.set i v).toArray)∧(∀ {α:Type} {a b:α} {ls:List α},(a :: ls).set 0 b=b :: ls)∧(∀ {α:Type} {a b:α} {ls:List α} {i:Nat},(a :: ls).set (i+1) b=a :: ls.set i b)∧
  (∀ (a:Act) (d:Tmp) (v:Value),a.put (some d) v = { a with tmps:=a.tmps.setIfInBounds d v })∧(∀ (a:Act) (v:Value),a.put none v=a):=
 ⟨fun h=>zA h,fun h=>zB h,fun h=>zC h,zD,zE,zF,fun _ _ _=>rfl,fun _ _=>rfl⟩
section
variable {P:Program} {md:Region.Mode} {ops:Array Oper} {S:World→Prop} {Q:Exit→Act→World→Prop} {fuel:Nat} {listed:Array Bool} {a:Act} {w:World}
theorem tk (i:Nat) (v:Value) {o:Oper} (hi:ops[i]? = some o) (hy:∀ w,S w→(execOp a.eval o).run P w=.ok (.value v) w) (hS:S w) (h:wpAnyH P md ops Q S fuel (listed.setIfInBounds i true) (a.put o.dst v) w)
  (hn:Region.wanted o (yielded ops a.tmps)=true:=by rfl) (hs:Region.noSelect ops=true:=by kernel_rfl) (hf:Region.free md ops listed i=true:=by kernel_rfl) (hr:(Region.ready md ops listed).contains i=true:=by kernel_rfl) (hQ:∀ c a w,Q (.panic c) (a.put o.dst v) w→Q (.panic c) a w:=by exact fun _ _ _ h=>h):wpAnyH P md ops Q S (fuel+1) listed a w:=
 wpAnyH_take hi hs hf hr hQ (Or.inl ⟨hn,hy⟩) hS h
theorem tk2 (i:Nat) {v:Value} {o:Oper} (hi:ops[i]? = some o) (hS:S w)
  (hy:∀ w,S w→(execOp a.eval o).run P w=.ok (.value v) w:=by (intro w hSw;(try dsimp only at hSw);go_split_ands;(try simp only[zz]);go_simp;(try with_reducible rfl)))
  (hn:Region.wanted o (yielded ops a.tmps)=true:=by rfl) (hs:Region.noSelect ops=true:=by kernel_rfl) (hf:Region.free md ops listed i=true:=by kernel_rfl) (hr:(Region.ready md ops listed).contains i=true:=by kernel_rfl) (hQ:∀ c a w,Q (.panic c) (a.put o.dst v) w→Q (.panic c) a w:=by exact fun _ _ _ h=>h)
  (h:wpAnyH P md ops Q S fuel (listed.setIfInBounds i true) (a.put o.dst v) w):wpAnyH P md ops Q S (fuel+1) listed a w:=
 tk i v hi hy hS h hn hs hf hr hQ
theorem dn1 {Q:Exit→Act→World→Prop} (h:Q .normal a w) (hr:Region.ready md ops listed=[]:=by kernel_rfl):wpAnyH P md ops (NoPanic Q) S fuel listed a w:=wpAnyH_done hr (NoPanic.normal h) _
theorem rdd (i j:Nat) {o o':Oper} (ho:ops[i]? = some o) (ho':ops[j]? = some o') (h:∀ K':Act→World→Prop,Shut (∀ a w,S w→(S w→wpAnyH P md ops Q S fuel (listed.setIfInBounds i true) a w)→K' a w)→if Region.wanted o (yielded ops a.tmps)=true then Oper.wp P o a w K' Q else K' (a.put o.dst undef) w)
  (h':∀ K':Act→World→Prop,Shut (∀ a w,S w→(S w→wpAnyH P md ops Q S fuel (listed.setIfInBounds j true) a w)→K' a w)→if Region.wanted o' (yielded ops a.tmps)=true then Oper.wp P o' a w K' Q else K' (a.put o'.dst undef) w)
  (hr:Region.ready md ops listed=[i,j]:=by kernel_rfl):wpAnyH P md ops Q S (fuel+1) listed a w:=wpAnyH_ready hr (by simp) (AllReadyH.cons ho h (AllReadyH.cons ho' h' AllReadyH.nil))
theorem tku (i:Nat) {o:Oper} (hi:ops[i]? = some o) (hS:S w) (h:wpAnyH P md ops Q S fuel (listed.setIfInBounds i true) (a.put o.dst undef) w)
  (hn:Region.wanted o (yielded ops a.tmps)=false:=by rfl) (hs:Region.noSelect ops=true:=by kernel_rfl) (hf:Region.free md ops listed i=true:=by kernel_rfl) (hr:(Region.ready md ops listed).contains i=true:=by kernel_rfl) (hQ:∀ c a w,Q (.panic c) (a.put o.dst undef) w→Q (.panic c) a w:=by exact fun _ _ _ h=>h):wpAnyH P md ops Q S (fuel+1) listed a w:=
 wpAnyH_take hi hs hf hr hQ (Or.inr ⟨hn,rfl⟩) hS h
theorem rdc (i:Nat) {o:Oper} (ho:ops[i]? = some o) (h:∀ K':Act→World→Prop,Shut (∀ a w,S w→(S w→wpAnyH P md ops Q S fuel (listed.setIfInBounds i true) a w)→K' a w)→if Region.wanted o (yielded ops a.tmps)=true then Oper.wp P o a w K' Q else K' (a.put o.dst undef) w)
  (hr:Region.ready md ops listed=[i]:=by kernel_rfl):wpAnyH P md ops Q S (fuel+1) listed a w:=wpAnyH_ready hr (by simp) (AllReadyH.cons ho h AllReadyH.nil)
end
structure Fct where
 eq:Bool
 a:Int
 b:Int
deriving DecidableEq,Inhabited
structure Atm where
 kind:Int
 a:Int
 b:Int
deriving DecidableEq,Inhabited
structure Asn where
 facts:List Fct
 atoms:List Atm
deriving DecidableEq,Inhabited
structure Ste where
 values:List Int
 heap:List Int
deriving DecidableEq,Inhabited
def Fct.enc (f:Fct):List Value:=[.bool f.eq,.int .i64 f.a,.int .i64 f.b]
def Atm.enc (x:Atm):List Value:=[.int .i64 x.kind,.int .i64 x.a,.int .i64 x.b]
abbrev Fct.val (f:Fct):Value:=.agg #[.bool f.eq,.int .i64 f.a,.int .i64 f.b]
abbrev Atm.val (x:Atm):Value:=.agg #[.int .i64 x.kind,.int .i64 x.a,.int .i64 x.b]
theorem flat3 {α:Type} (f0 f1 f2:α→Value) (fs:List α) (k:Nat) (hk:k<fs.length) :
  (fs.flatMap fun x=>[f0 x,f1 x,f2 x])[k*3]? = some (f0 fs[k])∧(fs.flatMap fun x=>[f0 x,f1 x,f2 x])[k*3+1]? = some (f1 fs[k])∧(fs.flatMap fun x=>[f0 x,f1 x,f2 x])[k*3+2]? = some (f2 fs[k]):=by
 induction fs generalizing k with
 | nil=>simp at hk
 | cons f fs ih=>
  cases k with
  | zero=>simp
  | succ k=>
   have:=ih k (by simpa using hk);simp only[List.flatMap_cons,List.getElem_cons_succ,List.getElem?_append,List.length_cons,List.length_nil];rw[if_neg (by omega),if_neg (by omega),if_neg (by omega)];have e1:(k+1)*3 - (0+1+1+1)=k*3:=by omega
   have e2:(k+1)*3+1 - (0+1+1+1)=k*3+1:=by omega
   have e3:(k+1)*3+2 - (0+1+1+1)=k*3+2:=by omega
   rw[e1,e2,e3];exact this
abbrev encF (fs:List Fct):List Value:=fs.flatMap fun f=>[.bool f.eq,.int .i64 f.a,.int .i64 f.b]
abbrev encA (xs:List Atm):List Value:=xs.flatMap fun x=>[.int .i64 x.kind,.int .i64 x.a,.int .i64 x.b]
abbrev encI (xs:List Int):List Value:=xs.map (Value.int .i64)
abbrev encB (xs:List Bool):List Value:=xs.map Value.bool
def BoolsV (w:World) (lo hi:Nat) (A:Option Addr) (xs:List Bool):Prop:=Rd w lo hi 1 A xs.length (encB xs)
def FactsV (w:World) (lo hi:Nat) (A:Option Addr) (fs:List Fct):Prop:=Rd w lo hi 3 A fs.length (encF fs)
def AtomsV (w:World) (lo hi:Nat) (A:Option Addr) (xs:List Atm):Prop:=Rd w lo hi 3 A xs.length (encA xs)
def IntsV (w:World) (lo hi:Nat) (A:Option Addr) (xs:List Int):Prop:=Rd w lo hi 1 A xs.length (encI xs)
def AsnV (w:World) (lo hi:Nat) (v:Value) (a:Asn):Prop:=
 ∃ A1 c1 A2 c2,v=.agg #[.slice A1 a.facts.length c1,.slice A2 a.atoms.length c2]∧FactsV w lo hi A1 a.facts∧AtomsV w lo hi A2 a.atoms
section
variable {w w':World} {lo hi:Nat} {A:Option Addr}
theorem FactsV.at {fs:List Fct} (h:FactsV w lo hi A fs) {k:Nat} (hk:k<fs.length):∃ b o,A=some ⟨b,o,none⟩∧w.cell? ⟨b,o+k*3,none⟩=some (.bool fs[k].eq)∧w.cell? ⟨b,o+k*3+1,none⟩=some (.int .i64 fs[k].a)∧w.cell? ⟨b,o+k*3+2,none⟩=some (.int .i64 fs[k].b):=by
 obtain ⟨b,o,e,_,hb,hc⟩:=h.raw.2 (by omega);obtain ⟨h0,h1,h2⟩:=flat3 (fun f:Fct=>.bool f.eq) (fun f=>.int .i64 f.a) (fun f=>.int .i64 f.b) fs k hk;exact ⟨b,o,e,hc _ _ h0,hc _ _ h1,hc _ _ h2⟩
theorem AtomsV.at {fs:List Atm} (h:AtomsV w lo hi A fs) {k:Nat} (hk:k<fs.length):∃ b o,A=some ⟨b,o,none⟩∧w.cell? ⟨b,o+k*3,none⟩=some (.int .i64 fs[k].kind)∧w.cell? ⟨b,o+k*3+1,none⟩=some (.int .i64 fs[k].a)∧w.cell? ⟨b,o+k*3+2,none⟩=some (.int .i64 fs[k].b):=by
 obtain ⟨b,o,e,_,hb,hc⟩:=h.raw.2 (by omega);obtain ⟨h0,h1,h2⟩:=flat3 (fun f:Atm=>.int .i64 f.kind) (fun f=>.int .i64 f.a) (fun f=>.int .i64 f.b) fs k hk;exact ⟨b,o,e,hc _ _ h0,hc _ _ h1,hc _ _ h2⟩
theorem IntsV.at {fs:List Int} (h:IntsV w lo hi A fs) {k:Nat} (hk:k<fs.length):∃ b o,A=some ⟨b,o,none⟩∧w.cell? ⟨b,o+k,none⟩=some (.int .i64 fs[k]):=by
 obtain ⟨b,o,e,_,hb,hc⟩:=h.raw.2 (by omega);exact ⟨b,o,e,hc _ _ (by simp[List.getElem?_eq_getElem hk])⟩
theorem BoolsV.at {fs:List Bool} (h:BoolsV w lo hi A fs) {k:Nat} (hk:k<fs.length):∃ b o,A=some ⟨b,o,none⟩∧w.cell? ⟨b,o+k,none⟩=some (.bool fs[k]):=by
 obtain ⟨b,o,e,_,hb,hc⟩:=h.raw.2 (by omega);exact ⟨b,o,e,hc _ _ (by simp[List.getElem?_eq_getElem hk])⟩
theorem BoolsV.bz {fs:List Bool} (h:BoolsV w lo hi A fs) (hb:Below w.heap.size w w'):BoolsV w' lo hi A fs:=Rd.bz h hb
theorem BoolsV.cl {b o:Nat} {fs:List Bool} (h:BoolsV w lo hi (some ⟨b,o,none⟩) fs) {k:Nat} (hk:k<fs.length):w.cell? ⟨b,o+k,none⟩=some (.bool fs[k]):=by
 obtain ⟨b',o',e,hc⟩:=h.at hk;simp only[Option.some.injEq,Addr.mk.injEq,and_true] at e;obtain ⟨rfl,rfl⟩:=e;exact hc
theorem IntsV.cl {b o:Nat} {fs:List Int} (h:IntsV w lo hi (some ⟨b,o,none⟩) fs) {k:Nat} (hk:k<fs.length):w.cell? ⟨b,o+k,none⟩=some (.int .i64 fs[k]):=by
 obtain ⟨b',o',e,hc⟩:=h.at hk;simp only[Option.some.injEq,Addr.mk.injEq,and_true] at e;obtain ⟨rfl,rfl⟩:=e;exact hc
theorem IntsV.dr {fs:List Int} (h:IntsV w lo hi A fs) (n:Nat):IntsV (w.drewN n) lo hi A fs:=Rd.bz h (below_drewN (Below.refl _ _) n)
theorem FactsV.bz {fs:List Fct} (h:FactsV w lo hi A fs) (hb:Below w.heap.size w w'):FactsV w' lo hi A fs:=Rd.bz h hb
theorem AtomsV.bz {fs:List Atm} (h:AtomsV w lo hi A fs) (hb:Below w.heap.size w w'):AtomsV w' lo hi A fs:=Rd.bz h hb
theorem IntsV.bz {fs:List Int} (h:IntsV w lo hi A fs) (hb:Below w.heap.size w w'):IntsV w' lo hi A fs:=Rd.bz h hb
theorem AsnV.bz {v:Value} {a:Asn} (h:AsnV w lo hi v a) (hb:Below w.heap.size w w'):AsnV w' lo hi v a:=by
 obtain ⟨A1,c1,A2,c2,e,h1,h2⟩:=h;exact ⟨A1,c1,A2,c2,e,h1.bz hb,h2.bz hb⟩
theorem AsnV.setb {v:Value} {a:Asn} (h:AsnV w lo hi v a) {p:Addr} (hp:p.block<lo∨hi≤p.block) (u:Value):AsnV (w.setCell p u) lo hi v a:=by
 obtain ⟨A1,c1,A2,c2,e,h1,h2⟩:=h;exact ⟨A1,c1,A2,c2,e,Rd.setb h1 hp u,Rd.setb h2 hp u⟩
theorem AsnV.abv {lo':Nat} {v:Value} {a:Asn} (h:AsnV w lo hi v a) (hb:Abv lo' w w') (hl:lo'≤lo):AsnV w' lo hi v a:=by
 obtain ⟨A1,c1,A2,c2,e,h1,h2⟩:=h;exact ⟨A1,c1,A2,c2,e,Rd.abv h1 hb hl,Rd.abv h2 hb hl⟩
theorem AsnV.mono {v:Value} {a:Asn} {lo' hi':Nat} (h:AsnV w lo hi v a) (e1:lo'≤lo) (e2:hi≤hi'):AsnV w lo' hi' v a:=by
 obtain ⟨A1,c1,A2,c2,e,h1,h2⟩:=h;exact ⟨A1,c1,A2,c2,e,Rd.mono h1 e1 e2,Rd.mono h2 e1 e2⟩
theorem IntsV.mono {fs:List Int} {lo' hi':Nat} (h:IntsV w lo hi A fs) (e1:lo'≤lo) (e2:hi≤hi'):IntsV w lo' hi' A fs:=Rd.mono h e1 e2
theorem FactsV.mono {fs:List Fct} {lo' hi':Nat} (h:FactsV w lo hi A fs) (e1:lo'≤lo) (e2:hi≤hi'):FactsV w lo' hi' A fs:=Rd.mono h e1 e2
theorem AtomsV.mono {fs:List Atm} {lo' hi':Nat} (h:AtomsV w lo hi A fs) (e1:lo'≤lo) (e2:hi≤hi'):AtomsV w lo' hi' A fs:=Rd.mono h e1 e2
end
def jq (n:Int):Bool:=decide (0≤n∧n≤8)
def isProgB (n:Int):Bool:=decide (1≤n∧n≤4)
def Fct.valid (f:Fct):Bool:=jq f.a&&jq f.b
def Atm.valid (x:Atm):Bool:=decide (x.kind=1∨x.kind=2)&&jq x.a&&jq x.b
def factsValid (fs:List Fct):Bool:=decide (fs.length≤12)&&fs.all Fct.valid
def Asn.valid (a:Asn):Bool:=factsValid a.facts&&(decide (a.atoms.length≤6)&&a.atoms.all Atm.valid)
theorem all_drop {α:Type} (p:α→Bool) (l:List α) (k:Nat) (hk:k<l.length):(l.drop k).all p=(p l[k]&&(l.drop (k+1)).all p):=by
 rw[List.drop_eq_getElem_cons hk,List.all_cons]
end
section
open Go Go.RowKit Go.Proofs Go.ChangeShapes Go.WideShapes Go.ChangeAt Go.Deep
theorem flat_at {α:Type} (e:α→List Value) (size:Nat) (hs:∀ a,(e a).length=size):∀ (xs:List α) (j:Nat) (u:Value),(xs.flatMap e)[j]? = some u→∃ i r,∃ h:i<xs.length,r<size∧j=i * size+r∧(e xs[i])[r]? = some u:=by
 intro xs
 induction xs with
 | nil=>intro j u h;simp at h
 | cons x xs ih=>
  intro j u h;rw[List.flatMap_cons,List.getElem?_append] at h
  split at h
  ·rename_i hj;exact ⟨0,j,by simp,by rw[hs] at hj;exact hj,by omega,h⟩
  ·rename_i hj;rw[hs] at h hj;obtain ⟨i,r,hi,hr,he,hx⟩:=ih _ _ h;exact ⟨i+1,r,by simp;omega,hr,by rw[Nat.add_mul];omega,by simpa using hx⟩
theorem flat_len {α:Type} (e:α→List Value) (size:Nat) (hs:∀ a,(e a).length=size) (xs:List α):(xs.flatMap e).length=xs.length * size:=by
 induction xs with
 | nil=>simp
 | cons x xs ih=>rw[List.flatMap_cons,List.length_append,ih,hs,List.length_cons,Nat.add_mul];omega
theorem none_of_cell {w:World} {a:Addr} {v:Value} (h:w.cell? a=some v):a.spot=none:=by
 unfold World.cell? at h
 split at h
 ·split at h
  ·cases h
  ·rename_i h2;cases hs:a.spot<;>simp_all
 ·cases h
section
variable {H:Type} {enc:TypeId×Value→H} {P:Program} {w:World} {base:Nat} {spare:Nat→Bool} {held:Bool}
theorem tr_slice {α:Type} [Inhabited α] {t e:TypeId} {fuel:Nat} {cs:List Value} {x:DataW H×List MemPlace} (en:α→List Value) (size:Nat) (hs:∀ a,(en a).length=size) (hsz:0<size) (he:P.cellsOf e=size)
  (ht:P.underlying t=some (.slice e)) (hel:∀ n cs x,DataW.trod enc P w base spare held n e cs=some x→∃ a,cs=en a) (h:DataW.trod enc P w base spare held fuel t cs=some x) :
  ∃ (A:Option Addr) (c:Nat) (xs:List α),cs=[.slice A xs.length c]∧xs.length≤9223372036854775807∧Rw w 0 w.heap.size size A xs.length (xs.flatMap en):=by
 rcases open_slice ht h with ⟨rfl,_⟩|⟨a,len,cap,m,n,D,Pl,rfl,hb,hl,hm,hmm,_,hx⟩
 ·exact ⟨none,0,[],rfl,by simp,by simp,fun h=>by simp at h⟩
 ·have hlm:len≤m:=by rw[hmm];split<;>omega
  obtain ⟨f,hf⟩:=choose_lt (α:=α) (n:=len) (p:=fun i a'=>w.cells? base (a.add (i * size)) size=some (en a')) (fun i hi=>by
   obtain ⟨cs',h1,h2⟩:=hx i (by omega);obtain ⟨a',rfl⟩:=hel _ _ _ h2;rw[he] at h1
   exact ⟨a',h1⟩)
  refine ⟨some a,cap,(List.range len).map f,by simp,by simp;unfold maxLen at hm;omega,?_,fun hn=>?_⟩
  ·rw[flat_len en size hs]
  ·have hn':0<len:=by
    rcases Nat.eq_zero_or_pos len with h0|h0
    ·subst h0;simp at hn
    ·exact h0
   have hcell:∀ i,i<len→∀ j,j<size→w.cell? ((a.add (i * size)).add j)=(en (f i))[j]?:=fun i hi j hj=>(World.cells?_some (hf i hi)).2.2 j hj;have h00:=hcell 0 hn' 0 hsz;have hx0:(en (f 0))[0]? = some ((en (f 0))[0]'(by rw[hs];exact hsz)):=List.getElem?_eq_getElem _;rw[hx0,Nat.zero_mul] at h00;have e0:(a.add 0).add 0=a:=by simp[Addr.add]
   rw[e0] at h00;have hsp:=none_of_cell h00;obtain ⟨b,o,s⟩:=a;simp only at hsp;subst hsp;refine ⟨b,o,rfl,Nat.zero_le _,World.block_lt_of_cell? w _ h00,fun j u hu=>?_⟩;obtain ⟨i,r,hi,hr,rfl,hu2⟩:=flat_at en size hs _ _ _ hu;have hi':i<len:=by simpa using hi
   have hc:=hcell i hi' r hr
   have ea:((⟨b,o,none⟩:Addr).add (i * size)).add r=⟨b,o+(i * size+r),none⟩:=by
    rw[Go.Deep.add_add];unfold Addr.add;split
    ·rename_i h0;rw[h0];rfl
    ·rfl
   rw[ea] at hc;rw[hc];simpa using hu2
end
section
variable {H:Type} {enc:TypeId×Value→H} {w:World} {base:Nat} {spare:Nat→Bool} {held:Bool} {fuel:Nat} {cs:List Value} {x:DataW H×List MemPlace}
end
end
section
open Go Go.RowKit Go.Proofs
abbrev tF:Nat:=41
abbrev tA:Nat:=128
abbrev tI:Nat:=3
def FactsO (w:World) (base:Nat) (v:Value) (fs:List Fct):Prop:=w.ownsRow base tF 3 v fs.length (encF fs)∧Lim fs.length
def AtomsO (w:World) (base:Nat) (v:Value) (xs:List Atm):Prop:=w.ownsRow base tA 3 v xs.length (encA xs)∧Lim xs.length
def IntsO (w:World) (base:Nat) (v:Value) (xs:List Int):Prop:=w.ownsRow base tI 1 v xs.length (encI xs)∧Lim xs.length
def AsnO (w:World) (base:Nat) (v:Value) (a:Asn):Prop:=∃ fv av,v=.agg #[fv,av]∧FactsO w base fv a.facts∧AtomsO w base av a.atoms
section
variable {w w':World} {base base':Nat} {v:Value}
theorem FactsO.bz {fs:List Fct} (h:FactsO w base v fs) (hb:Below w.heap.size w w'):FactsO w' base v fs:=⟨own_below h.1 hb,h.2⟩
theorem AtomsO.bz {fs:List Atm} (h:AtomsO w base v fs) (hb:Below w.heap.size w w'):AtomsO w' base v fs:=⟨own_below h.1 hb,h.2⟩
theorem IntsO.bz {fs:List Int} (h:IntsO w base v fs) (hb:Below w.heap.size w w'):IntsO w' base v fs:=⟨own_below h.1 hb,h.2⟩
theorem AsnO.bz {a:Asn} (h:AsnO w base v a) (hb:Below w.heap.size w w'):AsnO w' base v a:=by
 obtain ⟨fv,av,e,h1,h2⟩:=h;exact ⟨fv,av,e,h1.bz hb,h2.bz hb⟩
theorem FactsO.setb {fs:List Fct} (h:FactsO w base v fs) {a:Addr} (ha:a.block<base) (u:Value):FactsO (w.setCell a u) base v fs:=⟨ownsRow_setCell_below h.1 ha u,h.2⟩
theorem AtomsO.setb {fs:List Atm} (h:AtomsO w base v fs) {a:Addr} (ha:a.block<base) (u:Value):AtomsO (w.setCell a u) base v fs:=⟨ownsRow_setCell_below h.1 ha u,h.2⟩
theorem IntsO.setb {fs:List Int} (h:IntsO w base v fs) {a:Addr} (ha:a.block<base) (u:Value):IntsO (w.setCell a u) base v fs:=⟨ownsRow_setCell_below h.1 ha u,h.2⟩
theorem AsnO.setb {a:Asn} (h:AsnO w base v a) {p:Addr} (ha:p.block<base) (u:Value):AsnO (w.setCell p u) base v a:=by
 obtain ⟨fv,av,e,h1,h2⟩:=h;exact ⟨fv,av,e,h1.setb ha u,h2.setb ha u⟩
theorem FactsO.abv {lo:Nat} {fs:List Fct} (h:FactsO w base v fs) (hb:Abv lo w w') (hl:lo≤base):FactsO w' base v fs:=⟨own_abv h.1 hb hl,h.2⟩
theorem AtomsO.abv {lo:Nat} {fs:List Atm} (h:AtomsO w base v fs) (hb:Abv lo w w') (hl:lo≤base):AtomsO w' base v fs:=⟨own_abv h.1 hb hl,h.2⟩
theorem IntsO.abv {lo:Nat} {fs:List Int} (h:IntsO w base v fs) (hb:Abv lo w w') (hl:lo≤base):IntsO w' base v fs:=⟨own_abv h.1 hb hl,h.2⟩
theorem AsnO.abv {lo:Nat} {a:Asn} (h:AsnO w base v a) (hb:Abv lo w w') (hl:lo≤base):AsnO w' base v a:=by
 obtain ⟨fv,av,e,h1,h2⟩:=h;exact ⟨fv,av,e,h1.abv hb hl,h2.abv hb hl⟩
theorem FactsO.bq {fs:List Fct} (h:FactsO w base v fs) (hb:base'≤base):FactsO w base' v fs:=⟨own_lower h.1 hb,h.2⟩
theorem AtomsO.bq {fs:List Atm} (h:AtomsO w base v fs) (hb:base'≤base):AtomsO w base' v fs:=⟨own_lower h.1 hb,h.2⟩
theorem IntsO.bq {fs:List Int} (h:IntsO w base v fs) (hb:base'≤base):IntsO w base' v fs:=⟨own_lower h.1 hb,h.2⟩
theorem AsnO.bq {a:Asn} (h:AsnO w base v a) (hb:base'≤base):AsnO w base' v a:=by
 obtain ⟨fv,av,e,h1,h2⟩:=h;exact ⟨fv,av,e,h1.bq hb,h2.bq hb⟩
theorem FactsO.rj {fs:List Fct} (h:FactsO w base v fs):∃ A c,v=.slice A fs.length c∧FactsV w base w.heap.size A fs:=own_reads h.1 h.2
theorem AtomsO.rj {fs:List Atm} (h:AtomsO w base v fs):∃ A c,v=.slice A fs.length c∧AtomsV w base w.heap.size A fs:=own_reads h.1 h.2
theorem IntsO.rj {fs:List Int} (h:IntsO w base v fs):∃ A c,v=.slice A fs.length c∧IntsV w base w.heap.size A fs:=own_reads h.1 h.2
theorem IntsO.readsI {A:Option Addr} {n c:Nat} {fs:List Int} (h:IntsO w base (.slice A n c) fs):n=fs.length∧IntsV w base w.heap.size A fs:=by
 obtain ⟨A',c',e,h'⟩:=h.rj;injection e with e1 e2 e3;subst e1;exact ⟨e2,h'⟩
theorem FactsO.readsI {A:Option Addr} {n c:Nat} {fs:List Fct} (h:FactsO w base (.slice A n c) fs):n=fs.length∧FactsV w base w.heap.size A fs:=by
 obtain ⟨A',c',e,h'⟩:=h.rj;injection e with e1 e2 e3;subst e1;exact ⟨e2,h'⟩
theorem AtomsO.readsI {A:Option Addr} {n c:Nat} {fs:List Atm} (h:AtomsO w base (.slice A n c) fs):n=fs.length∧AtomsV w base w.heap.size A fs:=by
 obtain ⟨A',c',e,h'⟩:=h.rj;injection e with e1 e2 e3;subst e1;exact ⟨e2,h'⟩
theorem AsnO.rj {a:Asn} (h:AsnO w base v a):AsnV w base w.heap.size v a:=by
 obtain ⟨fv,av,e,h1,h2⟩:=h;obtain ⟨A1,c1,rfl,g1⟩:=h1.rj;obtain ⟨A2,c2,rfl,g2⟩:=h2.rj;exact ⟨A1,c1,A2,c2,e,g1,g2⟩
end
theorem infoF:(Tryz.prog.info? tF).map (fun i=>(i.zero,i.size,i.bytes))=some (some (.agg #[.bool false,.int .i64 0,.int .i64 0]),3,24):=by kernel_rfl
theorem infoA:(Tryz.prog.info? tA).map (fun i=>(i.zero,i.size,i.bytes))=some (some (.agg #[.int .i64 0,.int .i64 0,.int .i64 0]),3,24):=by kernel_rfl
theorem infoI:(Tryz.prog.info? tI).map (fun i=>(i.zero,i.size,i.bytes))=some (some (.int .i64 0),1,8):=by kernel_rfl
theorem run_make_rowN {P:Program} (t e:TypeId) (i:TypeInfo) (z:Value) (ht:P.underlying t=some (.slice e)) (hi:P.info? e=some i) (hz:i.zero=some z)
  (kl kc:IntKind) (n c:Nat) (hnc:n≤c) (hbytes:i.bytes * c≤281474976710656) (h63:c≤9223372036854775807) (w:World) :
  (Instr.makeSlice t (.int kl (n:Int)) (.int kc (c:Int))).run P w=.ok (.slice (some ⟨w.heap.size,0,none⟩) n c) (w.alloc (.cells (madeCells z.cells (c * i.size)) e)):=by
 have hb:(i.bytes:Int) * (c:Int)≤281474976710656:=by
  have h:((i.bytes * c:Nat):Int)≤281474976710656:=by omega
  rwa [Int.natCast_mul] at h
 have hr:=run_make (P:=P) w t e i z ht hi hz kl kc n c (by omega) (by omega) hb (by omega);simp only[Int.toNat_natCast] at hr;exact hr
theorem mkI (n:Nat) (h:Lim n) (w:World):(Instr.makeSlice 31 (.int .i64 (n:Int)) (.int .i64 (n:Int))).run Tryz.prog w=.ok (.slice (some ⟨w.heap.size,0,none⟩) n n) (w.alloc (.cells (madeCells #[.int .i64 0] (n * 1)) tI)):=by
 obtain ⟨i,hi,hz,hs,hb⟩:=info_parts infoI;have:=run_make_rowN (P:=Tryz.prog) 31 tI i _ Tryz.underlying31 hi hz .i64 .i64 n n (Nat.le_refl _) (by rw[hb];unfold Lim at h;omega) (by unfold Lim at h;omega) w
 rwa [hs] at this
abbrev tB:Nat:=4
theorem infoB:(Tryz.prog.info? tB).map (fun i=>(i.zero,i.size,i.bytes))=some (some (.bool false),1,1):=by kernel_rfl
def BoolsO (w:World) (base:Nat) (v:Value) (xs:List Bool):Prop:=w.ownsRow base tB 1 v xs.length (encB xs)∧Lim xs.length
theorem BoolsO.bz {w w':World} {base:Nat} {v:Value} {fs:List Bool} (h:BoolsO w base v fs) (hb:Below w.heap.size w w'):BoolsO w' base v fs:=⟨own_below h.1 hb,h.2⟩
theorem BoolsO.bq {w:World} {base base':Nat} {v:Value} {fs:List Bool} (h:BoolsO w base v fs) (hb:base'≤base):BoolsO w base' v fs:=⟨own_lower h.1 hb,h.2⟩
theorem BoolsO.abv {w w':World} {base:Nat} {v:Value} {lo:Nat} {fs:List Bool} (h:BoolsO w base v fs) (hb:Abv lo w w') (hl:lo≤base):BoolsO w' base v fs:=⟨own_abv h.1 hb hl,h.2⟩
theorem BoolsO.rj {w:World} {base:Nat} {v:Value} {fs:List Bool} (h:BoolsO w base v fs):∃ A c,v=.slice A fs.length c∧BoolsV w base w.heap.size A fs:=own_reads h.1 h.2
theorem mkB (n:Nat) (h:Lim n) (w:World):(Instr.makeSlice 124 (.int .i64 (n:Int)) (.int .i64 (n:Int))).run Tryz.prog w=.ok (.slice (some ⟨w.heap.size,0,none⟩) n n) (w.alloc (.cells (madeCells #[.bool false] (n * 1)) tB)):=by
 obtain ⟨i,hi,hz,hs,hb⟩:=info_parts infoB;have:=run_make_rowN (P:=Tryz.prog) 124 tB i _ Tryz.underlying124 hi hz .i64 .i64 n n (Nat.le_refl _) (by rw[hb];unfold Lim at h;omega) (by unfold Lim at h;omega) w
 rwa [hs] at this
end
section
open Go Go.RowKit
theorem ofInt_u16 (a:Nat) (ha:a<65536):(BitVec.ofInt 16 (a:Int)).toNat=a:=by
 rw[BitVec.ofInt_natCast,BitVec.toNat_ofNat];exact Nat.mod_eq_of_lt (by omega)
theorem wrap_u16 (a:Nat) (ha:a<65536):IntKind.u16.wrap (a:Int)=a:=by
 simp[IntKind.wrap,IntKind.bits,IntKind.signed];omega
theorem u16_and_nat (a b:Nat) (ha:a<65536) (hb:b<65536):bits .and .u16 (a:Int) (b:Int)=((a &&& b:Nat):Int):=by
 have hx:a &&& b<2 ^ 16:=Nat.and_lt_two_pow _ (by omega);show IntKind.u16.wrap ((BitVec.ofInt 16 (a:Int) &&& BitVec.ofInt 16 (b:Int)).toNat:Int)=_;rw[BitVec.toNat_and,ofInt_u16 a ha,ofInt_u16 b hb,wrap_u16 _ (by omega)]
theorem u16_or_nat (a b:Nat) (ha:a<65536) (hb:b<65536):bits .or .u16 (a:Int) (b:Int)=((a|||b:Nat):Int):=by
 have hx:a|||b<2 ^ 16:=Nat.or_lt_two_pow (by omega) (by omega);show IntKind.u16.wrap ((BitVec.ofInt 16 (a:Int)|||BitVec.ofInt 16 (b:Int)).toNat:Int)=_;rw[BitVec.toNat_or,ofInt_u16 a ha,ofInt_u16 b hb,wrap_u16 _ (by omega)]
theorem bit_has (S n:Nat) (hS:S<65536):(bits .and .u16 ((S:Int) / 2 ^ n) 1 == 1)=S.testBit n:=by
 have e:((S:Int) / 2 ^ n)=((S / 2 ^ n:Nat):Int):=by simp
 have hlt:S / 2 ^ n<65536:=Nat.lt_of_le_of_lt (Nat.div_le_self _ _) hS;rw[e,show (1:Int)=((1:Nat):Int) from rfl,u16_and_nat _ _ hlt (by omega)];rw[Nat.testBit_eq_decide_div_mod_eq];rw[Nat.and_one_is_mod];rw[Bool.eq_iff_iff];simp only[beq_iff_eq,decide_eq_true_eq];omega
theorem bit_or (T n:Nat) (hT:T<65536) (hn:n<16):bits .or .u16 (T:Int) (IntKind.u16.wrap (2 ^ n))=((T|||1 <<< n:Nat):Int):=by
 have h2:2 ^ n<65536:=by
  have:2 ^ n≤2 ^ 15:=Nat.pow_le_pow_right (by omega) (by omega);omega
 have e:(2:Int) ^ n=((2 ^ n:Nat):Int):=by simp
 rw[e,wrap_u16 _ h2,u16_or_nat _ _ hT h2,Nat.one_shiftLeft]
def bitsOf (l:List Int):Nat:=l.foldl (fun s n=>s|||1 <<< n.toNat) 0
theorem bitsOf_snoc (l:List Int) (n:Int):bitsOf (l++[n])=bitsOf l|||1 <<< n.toNat:=by simp[bitsOf,List.foldl_append]
theorem foldl_testBit (l:List Int) (h:∀ x∈l,0≤x):∀ (s n:Nat),(l.foldl (fun s n=>s|||1 <<< n.toNat) s).testBit n=(s.testBit n || decide ((n:Int)∈l)):=by
 induction l with
 | nil=>intro s n;simp
 | cons x l ih=>
  intro s n;rw[List.foldl_cons,ih (fun y hy=>h y (List.mem_cons_of_mem _ hy)),Nat.testBit_or];have hx:=h x List.mem_cons_self
  have e:(1 <<< x.toNat).testBit n=decide ((n:Int)=x):=by
   rw[Nat.one_shiftLeft,Nat.testBit_two_pow,decide_eq_decide];omega
  rw[e,Bool.or_assoc]
  congr 1
  rw[←Bool.decide_or];simp[List.mem_cons]
theorem testBit_bitsOf {l:List Int} (h:∀ x∈l,0≤x) (n:Nat):(bitsOf l).testBit n=decide ((n:Int)∈l):=by
 rw[bitsOf,foldl_testBit l h];simp
theorem bitsOf_lt {l:List Int} {k:Nat} (h:∀ x∈l,0≤x∧x<k):bitsOf l<2 ^ k:=by
 apply Nat.lt_pow_two_of_testBit;intro i hi;rw[testBit_bitsOf (fun x hx=>(h x hx).1)];simp only[decide_eq_false_iff_not];intro hm;have:=(h _ hm).2;omega
theorem bitsOf_eq {l m:List Int} (h:∀ x∈l,0≤x) (h':∀ x∈m,0≤x):bitsOf l=bitsOf m↔∀ x,x∈l↔x∈m:=by
 constructor
 ·intro e x;by_cases hx:0≤x
  ·obtain ⟨n,rfl⟩:=Int.eq_ofNat_of_zero_le hx;have:=congrArg (fun s=>Nat.testBit s n) e;simp only[testBit_bitsOf h,testBit_bitsOf h',decide_eq_decide] at this;exact this
  ·exact ⟨fun hm=>absurd (h x hm) hx,fun hm=>absurd (h' x hm) hx⟩
 ·intro e;apply Nat.eq_of_testBit_eq;intro i;rw[testBit_bitsOf h,testBit_bitsOf h',decide_eq_decide];exact e _
end
section
open Go Go.RowKit Go.Proofs
structure Fr (g:Nat) (w w':World):Prop where
 os:w'.os=w.os
 tape:w'.tape=w.tape
 output:w'.output=w.output
 size:w.heap.size≤w'.heap.size
 block:∀ k,k<w.heap.size→k≠g→w'.heap[k]? = w.heap[k]?
section
variable {g:Nat} {w a b c:World}
theorem Fr.refl (g:Nat) (w:World):Fr g w w:=⟨rfl,rfl,rfl,Nat.le_refl _,fun _ _ _=>rfl⟩
theorem Fr.trans (h:Fr g a b) (k:Fr g b c):Fr g a c:=
 ⟨k.os.trans h.os,k.tape.trans h.tape,k.output.trans h.output,Nat.le_trans h.size k.size,fun i h1 h2=>(k.block i (Nat.lt_of_lt_of_le h1 h.size) h2).trans (h.block i h1 h2)⟩
theorem Fr.ofBelow (h:Below a.heap.size a b):Fr g a b:=⟨h.os,h.tape,h.output,h.size,fun k h1 _=>h.block k h1⟩
theorem Fr.go (h:Fr g a b) (k:Below b.heap.size b c):Fr g a c:=h.trans (.ofBelow k)
theorem Fr.alloc (h:Fr g a b) (o:Obj):Fr g a (b.alloc o):=h.go (bbox (Below.refl _ _) o)
theorem Fr.drew (h:Fr g a b):Fr g a b.drew:=h.go (Below.refl _ _).drew
theorem Fr.set_ (h:Fr g a b) {p:Addr} (hp:p.block=g∨a.heap.size≤p.block) (u:Value):Fr g a (b.setCell p u):=
 ⟨h.os,h.tape,h.output,by have:=h.size;simp;exact this,fun k h1 h2=>(Below.heap_setCell b p u k (by rcases hp with e|e<;>omega)).trans (h.block k h1 h2)⟩
theorem Fr.bz {B:Nat} (h:Fr g a b) (hg:B≤g) (hB:B≤a.heap.size):Below B a b:=⟨h.os,h.tape,h.output,h.size,fun k hk=>h.block k (by omega) (by omega)⟩
theorem Blk.fr {x:Nat} {t:TypeId} {cs:Array Value} (h:Blk a x t cs) (hf:Fr g a b) (hx:x≠g):Blk b x t cs:=(hf.block x h.lt hx).trans h
theorem Rw.fr {lo hi size n:Nat} {A:Option Addr} {xs:List Value} (h:Rw a lo hi size A n xs) (hf:Fr g a b) (hg:g<lo∨hi≤g):Rw b lo hi size A n xs:=
 ⟨h.1,fun hn=>by
  obtain ⟨k,o,e,h1,h2,hc⟩:=h.2 hn;have h0:=h.1;have hx:xs[0]? = some (xs[0]'(by omega)):=List.getElem?_eq_getElem (by omega);have hlt:k<a.heap.size:=block_lt_of_cell (hc 0 _ hx)
  exact ⟨k,o,e,h1,h2,fun j u hu=>(World.cell?_of_block (a:=⟨k,o+j,none⟩) (hf.block k hlt (by omega))).trans (hc j u hu)⟩⟩
theorem Rd.fr {lo hi size n:Nat} {A:Option Addr} {xs:List Value} (h:Rd a lo hi size A n xs) (hf:Fr g a b) (hg:g<lo∨hi≤g):Rd b lo hi size A n xs:=⟨h.raw.fr hf hg,h.lim⟩
theorem own_fr {base:Nat} {e:TypeId} {size:Nat} {v:Value} {n:Nat} {xs:List Value} (h:a.ownsRow base e size v n xs) (hf:Fr g a b) (hg:g<base):b.ownsRow base e size v n xs:=by
 obtain ⟨h1,h2⟩:=h;refine ⟨h1,?_⟩;rcases h2 with h2|⟨k,cap,cur,hv,hk,hh,r⟩
 ·exact Or.inl h2
 ·exact Or.inr ⟨k,cap,cur,hv,hk,(hf.block k (Blk.lt hh) (by omega)).trans hh,r⟩
variable {base:Nat} {v:Value}
theorem FactsO.fr {fs:List Fct} (h:FactsO a base v fs) (hf:Fr g a b) (hg:g<base):FactsO b base v fs:=⟨own_fr h.1 hf hg,h.2⟩
theorem AtomsO.fr {fs:List Atm} (h:AtomsO a base v fs) (hf:Fr g a b) (hg:g<base):AtomsO b base v fs:=⟨own_fr h.1 hf hg,h.2⟩
theorem IntsO.fr {fs:List Int} (h:IntsO a base v fs) (hf:Fr g a b) (hg:g<base):IntsO b base v fs:=⟨own_fr h.1 hf hg,h.2⟩
theorem AsnO.fr {x:Asn} (h:AsnO a base v x) (hf:Fr g a b) (hg:g<base):AsnO b base v x:=by
 obtain ⟨fv,av,e,h1,h2⟩:=h;exact ⟨fv,av,e,h1.fr hf hg,h2.fr hf hg⟩
end
abbrev tR:Nat:=180
def encU (bs:List Nat):List Value:=bs.map fun b:Nat=>.int .u8 (b:Int)
def Rdr (w:World) (g p:Nat):Prop:=∃ A c bs,Blk w g tR #[.slice A bs.length c,.int .i64 (p:Int)]∧Rw w 0 g 1 A bs.length (encU bs)∧(∀ b∈bs,b<256)∧bs.length≤2000
theorem Rdr.lt {w:World} {g p:Nat} (h:Rdr w g p):g<w.heap.size:=by obtain ⟨_,_,_,h,-⟩:=h;exact h.lt
theorem Rdr.bz {w w':World} {g p:Nat} (h:Rdr w g p) (hb:Below w.heap.size w w'):Rdr w' g p:=by
 obtain ⟨A,c,bs,h1,h2,h3⟩:=h;exact ⟨A,c,bs,h1.nz hb,h2.bz hb,h3⟩
theorem Rdr.set_ {w:World} {g p:Nat} (h:Rdr w g p) {q:Addr} (hq:g<q.block) (u:Value):Rdr (w.setCell q u) g p:=by
 obtain ⟨A,c,bs,h1,h2,h3⟩:=h;exact ⟨A,c,bs,h1.far (by omega) u,h2.keep fun b _ hb=>Below.heap_setCell w q u b (by omega),h3⟩
theorem ofInt_i64n (a:Nat) (ha:a<9223372036854775808):(BitVec.ofInt 64 (a:Int)).toNat=a:=by
 rw[BitVec.ofInt_natCast,BitVec.toNat_ofNat];exact Nat.mod_eq_of_lt (by omega)
theorem wrap_i64n (a:Nat) (ha:a<9223372036854775808):IntKind.i64.wrap (a:Int)=a:=by
 simp[IntKind.wrap,IntKind.bits,IntKind.signed];omega
theorem i64_xor_nat (a b:Nat) (ha:a<9223372036854775808) (hb:b<9223372036854775808):bits .xor .i64 (a:Int) (b:Int)=((a ^^^ b:Nat):Int):=by
 have hx:a ^^^ b<2 ^ 63:=Nat.xor_lt_two_pow (by omega) (by omega);show IntKind.i64.wrap ((BitVec.ofInt 64 (a:Int) ^^^ BitVec.ofInt 64 (b:Int)).toNat:Int)=_;rw[BitVec.toNat_xor,ofInt_i64n a ha,ofInt_i64n b hb,wrap_i64n _ (by omega)]
theorem encU_at {w:World} {lo hi:Nat} {A:Option Addr} {bs:List Nat} (h:Rw w lo hi 1 A bs.length (encU bs)) {k:Nat} (hk:k<bs.length):∃ b o,A=some ⟨b,o,none⟩∧b<hi∧w.cell? ⟨b,o+k,none⟩=some (.int .u8 (bs[k]:Int)):=by
 obtain ⟨b,o,u,e,h1,h2,h3,h4⟩:=h.at1 hk;refine ⟨b,o,e,h2,?_⟩;rw[h4,←h3];simp[encU,hk]
theorem pick_mod {n:Int} (h:1≤n) {x:Nat}:((x % n.toNat:Nat):Int)=(x:Int) % n:=by
 rw[Int.natCast_emod,Int.toNat_of_nonneg (by omega)]
theorem pick_lt {n:Int} (h:1≤n) {x:Nat}:((x % n.toNat:Nat):Int)<n:=by
 rw[pick_mod h];exact Int.emod_lt_of_pos _ (by omega)
theorem c_pick (g p:Nat) (n:Int) (w:World) (h:Rdr w g p) (hp:p≤1000000) :
  Calls Tryz.prog 91 #[.pointer (some ⟨g,0,none⟩),.int .i64 n] w fun e w'=>∃ m:Nat,e=.returned (.int .i64 (m:Int))∧(m=0∨(m:Int)<n)∧Rdr w' g (p+1)∧Fr g w w':=by
 obtain ⟨A,c,bs,k0,hR,hU,hl⟩:=h;have hpi:(p:Int)≤1000000:=by omega
 have hli:(bs.length:Int)≤2000:=by omega
 have HRD:aJ (Rdr (w.setCell ⟨g,1,none⟩ (.int .i64 ((p:Int)+1))) g (p+1)):=by
  refine ⟨A,c,bs,?_,hR.keep fun b _ hb=>Below.heap_setCell w _ _ b (by simp only;omega),hU,hl⟩;have:=k0.set_ 1 (.int .i64 ((p:Int)+1));simpa using this
 have HFR:aJ (Fr g w (w.setCell ⟨g,1,none⟩ (.int .i64 ((p:Int)+1)))):=(Fr.refl g w).set_ (Or.inl rfl) _;have q0:=k0.cell;have f0:=k0.frozen;have hRR:=ax hR;have HU:=ax hU;clear hR hU hp hl;by_cases hn:n<1
 ·(go_enter Tryz.func91,Tryz.ntmps91);(go_wp2_with fail);go_ret;exact ⟨0,rfl,Or.inl rfl,HRD.o,HFR.o⟩
 ·have hn':1≤n:=by omega
  by_cases he:bs.length=0
  ·have he':((bs.length:Int) == 0)=true:=by simp[he]
   clear he;(go_enter Tryz.func91,Tryz.ntmps91);(go_wp2_with fail);go_ret;exact ⟨0,rfl,Or.inl rfl,HRD.o,HFR.o⟩
  ·have he':((bs.length:Int) == 0)=false:=by simpa using he
   by_cases hlt:p<bs.length
   ·obtain ⟨b,o,rfl,hb,c0⟩:=encU_at hRR.o hlt;have hlti:(p:Int)<(bs.length:Int):=by omega
    have hbv:=HU.o _ (List.getElem_mem hlt);obtain ⟨x,hx⟩:∃ x,x=bs[p]:=⟨_,rfl⟩;rw[←hx] at c0 hbv;have hbl:=block_lt_of_cell c0;have hbg:b≠g:=by omega
    clear hx he;(go_enter Tryz.func91,Tryz.ntmps91);(go_wp2_with fail);go_ret;exact ⟨x % n.toNat,ret_int (pick_mod hn').symm,Or.inr (pick_lt hn'),HRD.o,HFR.o⟩
   ·have hle:(bs.length:Int)≤(p:Int):=by omega
    have hpos:0<bs.length:=by omega
    obtain ⟨b,o,rfl,hb,c0⟩:=encU_at hRR.o (Nat.mod_lt p hpos);obtain ⟨b',o',e',hb',c1⟩:=encU_at hRR.o (Nat.mod_lt (p * 7+3) hpos);injection e' with e';injection e' with e1 e2;subst e1 e2;have hbv:=HU.o _ (List.getElem_mem (Nat.mod_lt p hpos));have hbw:=HU.o _ (List.getElem_mem (Nat.mod_lt (p * 7+3) hpos));obtain ⟨x,hx⟩:∃ x,x=bs[p % bs.length]'(Nat.mod_lt p hpos):=⟨_,rfl⟩;obtain ⟨y,hy⟩:∃ y,y=bs[(p * 7+3) % bs.length]'(Nat.mod_lt (p * 7+3) hpos):=⟨_,rfl⟩;rw[←hx] at c0 hbv;rw[←hy] at c1 hbw;have hbl:=block_lt_of_cell c0;have hbg:b≠g:=by omega
    have hnil:¬bs=[]:=fun e=>by rw[e] at he;exact he rfl
    have t1:(p:Int).tmod (bs.length:Int)=((p % bs.length:Nat):Int):=by rw[Int.tmod_eq_emod_of_nonneg (by omega)];exact (Int.natCast_emod _ _).symm
    have t2:((p:Int) * 7+3).tmod (bs.length:Int)=(((p * 7+3) % bs.length:Nat):Int):=by rw[Int.tmod_eq_emod_of_nonneg (by omega)];exact (Int.natCast_emod _ _).symm
    have t3:(p:Int).tdiv (bs.length:Int)=((p / bs.length:Nat):Int):=by rw[Int.tdiv_eq_ediv_of_nonneg (by omega)];exact (Int.natCast_ediv _ _).symm
    have t4:((p / bs.length:Nat):Int)≤1000000:=by have:=Nat.div_le_self p bs.length;omega
    have l1:((p % bs.length:Nat):Int)<(bs.length:Int):=by have:=Nat.mod_lt p hpos;omega
    have l2:(((p * 7+3) % bs.length:Nat):Int)<(bs.length:Int):=by have:=Nat.mod_lt (p * 7+3) hpos;omega
    obtain ⟨i,hi⟩:∃ i,i=p % bs.length:=⟨_,rfl⟩;obtain ⟨j,hj⟩:∃ j,j=(p * 7+3) % bs.length:=⟨_,rfl⟩;obtain ⟨d,hd⟩:∃ d,d=p / bs.length:=⟨_,rfl⟩;rw[←hi] at c0 t1 l1;rw[←hj] at c1 t2 l2;rw[←hd] at t3 t4;clear hx hy he hlt hi hj hd hpos;(go_enter Tryz.func91,Tryz.ntmps91);(go_wp2_with fail)
    have hX:aJ (bits .xor .i64 ((x:Int) * 131+(y:Int) * 1117+(p:Int) * 29+(d:Int) * 53) (((x:Int) * 131+(y:Int) * 1117+(p:Int) * 29+(d:Int) * 53) / 64)=(((x * 131+y * 1117+p * 29+d * 53) ^^^ ((x * 131+y * 1117+p * 29+d * 53) / 64):Nat):Int)):=by
     have:=i64_xor_nat (x * 131+y * 1117+p * 29+d * 53) ((x * 131+y * 1117+p * 29+d * 53) / 64) (by omega) (by omega);show _=_;rw[←this]
     congr 1
    (go_quiet (fail));(go_wp2_with fail);have hRD:Rdr ((w.setCell ⟨g,1,none⟩ (.int .i64 ((p:Int)+1))).drewN nq) g (p+1):=HRD.o.bz (below_drewN (Below.refl _ _) nq);have hFR:Fr g w ((w.setCell ⟨g,1,none⟩ (.int .i64 ((p:Int)+1))).drewN nq):=HFR.o.go (below_drewN (Below.refl _ _) nq);go_ret;exact ⟨((x * 131+y * 1117+p * 29+d * 53) ^^^ ((x * 131+y * 1117+p * 29+d * 53) / 64)) % n.toNat,ret_int (by rw[hX.o,Int.tmod_eq_emod_of_nonneg (Int.natCast_nonneg _),pick_mod hn']),Or.inr (pick_lt hn'),hRD,hFR⟩
theorem own_row_below {w w' : World} {base : Nat} {e : TypeId} {size : Nat} {v : Value} {n : Nat} {xs : List Value} (h : w.ownsRow base e size v n xs) (hg : w.grownBy w' v.ownBlock) (hb : base ≤ w.heap.size) : Below base w w' :=
  ⟨hg.os, hg.tape, hg.output, hg.size, fun k hk => hg.block k (by omega) (fun e => by have := (h.lt k e.symm).1; omega)⟩
theorem wpList_app {P : Program} {ops : Array Oper} {rest : List Oper} {o : Oper} {a : Act} {Q : Exit → Act → World → Prop} {w : World} (hgd : o.guard = none) (s x : Operand) (t : TypeId)
    (ho : o.op = .call { callee := .builtin .append, args := #[s, x], argTypes := #[t, t] })
    {base : Nat} {e : TypeId} {z : Value} {size bytes : Nat} (ht : P.underlying t = some (.slice e)) (hinfo : (P.info? e).map (fun i => (i.zero, i.size, i.bytes)) = some (some z, size, bytes)) (hzs : z.cells.size = size) (hsz : 0 < size) (hby : bytes ≤ 200)
    {v : Value} {n : Nat} {xs : List Value} (hs : a.eval s = v) (hown : w.ownsRow base e size v n xs)
    (ad : Addr) (news : List Value) (hx : a.eval x = .slice (some ad) 1 1) (hl : news.length = size) (hnews : ∀ j u, news[j]? = some u → w.cell? (ad.add j) = some u) (h1 : ∀ u ∈ news, u.oneCell' = true)
    (hn : n + 1 ≤ 1049600) (hb : base ≤ w.heap.size)
    (h : ∀ g c w', w'.ownsRow base e size (.slice (some ⟨g, 0, none⟩) (n + 1) c) (n + 1) (xs ++ news) → w.grownBy w' v.ownBlock → Below base w w' → wpList P ops Q rest (a.put o.dst (.slice (some ⟨g, 0, none⟩) (n + 1) c)) w') : wpList P ops Q (o :: rest) a w := by
  obtain ⟨i, hi, hz, hsize, hbytes⟩ := info_parts hinfo;refine wpList_append_own w hgd s x t ho base e i z size bytes ht hi hz hsize hbytes hzs hsz v n xs hs hown ad 1 1 news hx (by omega) hnews h1 (by unfold maxLen; omega) (Nat.le_trans (Nat.mul_le_mul hn hby) (by omega)) hb ?_;intro v' w' ho' hg' _;obtain ⟨g, c, rfl, -⟩ := ho'.form (by omega);exact h g c w' ho' hg' (own_row_below hown hg' hb)
theorem cell_box (w : World) (u : Value) (t : TypeId) : (w.alloc (.cells #[u] t)).cell? ⟨w.heap.size, 0, none⟩ = some u := (Blk.new w t #[u]).cell 0
theorem own_empty (w : World) (t : TypeId) (size : Nat) : (w.alloc (.cells #[] t)).ownsRow w.heap.size t size (.slice (some ⟨w.heap.size, 0, none⟩) 0 0) 0 [] :=
  ⟨by simp, .inr ⟨w.heap.size, 0, #[], rfl, Nat.le_refl _, heap_alloc_new w _, Nat.le_refl _, by decide, by simp, by simp⟩⟩
theorem IntsO.empty (w : World) {g : Nat} (hg : g = w.heap.size) : IntsO (w.alloc (.cells #[] tI)) g (.slice (some ⟨g, 0, none⟩) 0 0) [] := by
  subst hg;exact ⟨own_empty w _ _, by simp [Lim]⟩
theorem IntsO.nil (w : World) (base : Nat) : IntsO w base (.slice none 0 0) [] := ⟨World.ownsRow_nil _ _ _ _, by simp [Lim]⟩
theorem IntsO.one (w : World) (n : Int) {base : Nat} (hb : base ≤ w.heap.size) : IntsO (w.alloc (.cells #[.int .i64 n] tI)) base (.slice (some ⟨w.heap.size, 0, none⟩) 1 1) [n] :=
  ⟨own_of_blk (Blk.new w _ _) hb rfl (by intro j hj; obtain rfl : j = 0 := by omega
                                         rfl) (Nat.le_refl _) (by decide) rfl, by simp [Lim]⟩
section
variable {ops : Array Oper} {rest : List Oper} {o : Oper} {a : Act} {Q : Exit → Act → World → Prop} {w : World}
theorem appI (hgd : o.guard = none) (s x : Operand) (ho : o.op = .call { callee := .builtin .append, args := #[s, x], argTypes := #[31, 31] })
    {base : Nat} {v : Value} {xs : List Int} (hs : a.eval s = v) (hown : IntsO w base v xs) (g0 : Nat) (n : Int) (hx : a.eval x = .slice (some ⟨g0, 0, none⟩) 1 1) (hc : w.cell? ⟨g0, 0, none⟩ = some (.int .i64 n))
    (hn : xs.length + 1 ≤ 1049600) (hb : base ≤ w.heap.size)
    (h : ∀ g c w', IntsO w' base (.slice (some ⟨g, 0, none⟩) (xs.length + 1) c) (xs ++ [n]) → w.grownBy w' v.ownBlock → Below base w w' → wpList Tryz.prog ops Q rest (a.put o.dst (.slice (some ⟨g, 0, none⟩) (xs.length + 1) c)) w') : wpList Tryz.prog ops Q (o :: rest) a w := by
  refine wpList_app hgd s x 31 ho Tryz.underlying31 infoI rfl (by decide) (by decide) hs hown.1 ⟨g0, 0, none⟩ [.int .i64 n] hx rfl ?_ (by simp [Value.oneCell']) hn hb ?_
  · intro j u hu
    match j, hu with
    | 0, hu => simp at hu; subst hu; exact hc
  · intro g c w' h1 h2 h3
    exact h g c w' ⟨by simpa [encI] using h1, by simp [Lim]; omega⟩ h2 h3
end
theorem c_impl_isTerm (n:Int) (w:World):Calls Tryz.prog 151 #[.int .i64 n] w fun e w'=>e=.returned (.bool (jq n))∧w=w':=by
 by_cases h:0≤n
 ·by_cases h2:n≤8
  all_goals
   (go_enter Tryz.func151,Tryz.ntmps151);go_wp2;go_ret;exact ⟨by simp[jq,h,h2],rfl⟩
 ·(go_enter Tryz.func151,Tryz.ntmps151);go_wp2;go_ret;exact ⟨by simp[jq];omega,rfl⟩
theorem c_spec_l1Is (n:Int) (w:World):Calls Tryz.prog 174 #[.int .i64 n] w fun e w'=>e=.returned (.bool (jq n))∧w=w':=by
 by_cases h:0≤n
 ·by_cases h2:n≤8
  all_goals
   (go_enter Tryz.func174,Tryz.ntmps174);go_wp2;go_ret;exact ⟨by simp[jq,h,h2],rfl⟩
 ·(go_enter Tryz.func174,Tryz.ntmps174);go_wp2;go_ret;exact ⟨by simp[jq];omega,rfl⟩
theorem c_impl_isProgramVar (n:Int) (w:World):Calls Tryz.prog 105 #[.int .i64 n] w fun e w'=>e=.returned (.bool (isProgB n))∧w=w':=by
 by_cases h:1≤n
 ·by_cases h2:n≤4
  all_goals
   (go_enter Tryz.func105,Tryz.ntmps105);go_wp2;go_ret;exact ⟨by simp[isProgB,h,h2],rfl⟩
 ·(go_enter Tryz.func105,Tryz.ntmps105);go_wp2;go_ret;exact ⟨by simp[isProgB];omega,rfl⟩
theorem c_spec_l8Prog (n:Int) (w:World):Calls Tryz.prog 173 #[.int .i64 n] w fun e w'=>e=.returned (.bool (isProgB n))∧w=w':=by
 by_cases h:1≤n
 ·by_cases h2:n≤4
  all_goals
   (go_enter Tryz.func173,Tryz.ntmps173);go_wp2;go_ret;exact ⟨by simp[isProgB,h,h2],rfl⟩
 ·(go_enter Tryz.func173,Tryz.ntmps173);go_wp2;go_ret;exact ⟨by simp[isProgB];omega,rfl⟩
theorem c_impl_FactValid (f:Fct) (w:World):Calls Tryz.prog 150 #[f.val] w fun r w'=>r=.returned (.bool f.valid)∧Below w.heap.size w w':=by
 (go_enter Tryz.func150,Tryz.ntmps150);(go_wp2_with (go_at_call 151;refine (c_impl_isTerm _ _).mono ?_;rintro e w' ⟨rfl,rfl⟩))
 all_goals
  go_ret;exact ⟨zjD (by simp[Fct.valid, *]),(Below.refl _ _).alloc (Nat.le_refl _) _⟩
theorem c_spec_FactValid (f:Fct) (w:World):Calls Tryz.prog 181 #[f.val] w fun r w'=>r=.returned (.bool f.valid)∧Below w.heap.size w w':=by
 (go_enter Tryz.func181,Tryz.ntmps181);(go_wp2_with (go_at_call 174;refine (c_spec_l1Is _ _).mono ?_;rintro e w' ⟨rfl,rfl⟩))
 all_goals
  go_ret;exact ⟨zjD (by simp[Fct.valid, *]),(Below.refl _ _).alloc (Nat.le_refl _) _⟩
theorem c_impl_atomValid (x:Atm) (w:World):Calls Tryz.prog 88 #[x.val] w fun r w'=>r=.returned (.bool x.valid)∧Below w.heap.size w w':=by
 (go_enter Tryz.func88,Tryz.ntmps88);(go_wp2_with (go_at_call 151;refine (c_impl_isTerm _ _).mono ?_;rintro e w' ⟨rfl,rfl⟩))
 all_goals
  go_ret;exact ⟨zjD (by simp_all [Atm.valid]),(Below.refl _ _).alloc (Nat.le_refl _) _⟩
theorem c_spec_l3Atom (x:Atm) (w:World):Calls Tryz.prog 126 #[x.val] w fun r w'=>r=.returned (.bool x.valid)∧Below w.heap.size w w':=by
 (go_enter Tryz.func126,Tryz.ntmps126);(go_wp2_with (go_at_call 174;refine (c_spec_l1Is _ _).mono ?_;rintro e w' ⟨rfl,rfl⟩))
 all_goals
  go_ret;exact ⟨zjD (by simp_all [Atm.valid]),(Below.refl _ _).alloc (Nat.le_refl _) _⟩
theorem c_impl_FactsValid {lo hi:Nat} (A:Option Addr) (c:Nat) (fs:List Fct) (w:World) (h:FactsV w lo hi A fs):Calls Tryz.prog 87 #[.slice A fs.length c] w fun r w'=>r=.returned (.bool (factsValid fs))∧Below w.heap.size w w':=by
 have hl:=h.le;(go_enter Tryz.func87,Tryz.ntmps87);by_cases h12:12<fs.length
 ·go_wp2;go_ret;exact ⟨zjD (by simp[factsValid];omega),Below.refl _ _⟩
 go_wp2
 go_loopw [10] (fun i wr=>∃ k:Nat,k≤fs.length∧i=.int .i64 k∧aJ (fs.all Fct.valid=(fs.drop k).all Fct.valid)∧Below w.heap.size w wr) (fun i _=>fs.length - (intOf i).toNat)
 case atStart=>exact ⟨0,Nat.zero_le _,rfl,by simp[aJ],Below.refl _ _⟩
 case round=>
  obtain ⟨k,hk,rfl,HA,hB⟩:=hrel;by_cases hlt:k<fs.length
  ·obtain ⟨b,off,rfl,c0,c1,c2⟩:=(h.bz hB).at hlt;(go_wp2_with (go_at_call 150;refine (c_impl_FactValid fs[k] _).mono ?_;rintro e w' ⟨rfl,hB2⟩))
   ·go_ret;refine ⟨zjD ?_,bgo (bbox hB _) hB2⟩;have:=HA.o;rw[all_drop _ _ _ hlt] at this
    simp_all [factsValid]
   ·go_round
    case rel=>
     refine ⟨k+1,by omega,by go_num,?_,bgo (bbox hB _) hB2⟩;have:=HA.o;rw[all_drop _ _ _ hlt] at this
     simp_all [aJ]
    case measure=>simp[intOf];omega
  ·go_wp2;go_ret;have e:k=fs.length:=by omega
   refine ⟨zjD ?_,hB⟩;have:=HA.o;subst e
   simp_all [factsValid]
theorem c_spec_FactsValid {lo hi:Nat} (A:Option Addr) (c:Nat) (fs:List Fct) (w:World) (h:FactsV w lo hi A fs):Calls Tryz.prog 127 #[.slice A fs.length c] w fun r w'=>r=.returned (.bool (factsValid fs))∧Below w.heap.size w w':=by
 have hl:=h.le;(go_enter Tryz.func127,Tryz.ntmps127);go_wp2
 go_loopw [3] (fun i wr=>∃ k:Nat,k≤fs.length∧i=.int .i64 k∧aJ (fs.all Fct.valid=(fs.drop k).all Fct.valid)∧Below w.heap.size w wr) (fun i _=>fs.length - (intOf i).toNat)
 case atStart=>exact ⟨0,Nat.zero_le _,rfl,by simp[aJ],Below.refl _ _⟩
 case round=>
  obtain ⟨k,hk,rfl,HA,hB⟩:=hrel;by_cases hlt:k<fs.length
  ·obtain ⟨b,off,rfl,c0,c1,c2⟩:=(h.bz hB).at hlt;(go_wp2_with (go_at_call 181;refine (c_spec_FactValid fs[k] _).mono ?_;rintro e w' ⟨rfl,hB2⟩))
   ·go_ret;refine ⟨zjD ?_,bgo hB hB2⟩;have:=HA.o;rw[all_drop _ _ _ hlt] at this
    simp_all [factsValid]
   ·go_round
    case rel=>
     refine ⟨k+1,by omega,by go_num,?_,bgo hB hB2⟩;have:=HA.o;rw[all_drop _ _ _ hlt] at this
     simp_all [aJ]
    case measure=>simp[intOf];omega
  ·go_wp2;go_ret;have e:k=fs.length:=by omega
   refine ⟨zjD ?_,hB⟩;have:=HA.o;subst e;rw[List.drop_length,List.all_nil] at this;rw[factsValid,this,Bool.and_true,decide_eq_decide];omega
theorem jz {lo hi:Nat} (v:Value) (a:Asn) (w:World) (h:AsnV w lo hi v a):Calls Tryz.prog 26 #[v] w fun r w'=>r=.returned (.bool a.valid)∧Below w.heap.size w w':=by
 obtain ⟨A1,c1,A2,c2,rfl,h1,h2⟩:=h;have hl1:=h1.le;have hl2:=h2.le;(go_enter Tryz.func26,Tryz.ntmps26);by_cases hv:factsValid a.facts=true
 ·by_cases h6:6<a.atoms.length
  ·(go_wp2_with (go_at_call 87;refine (c_impl_FactsValid A1 c1 a.facts _ (h1.bz (bbox (Below.refl _ w) _))).mono ?_;rintro e w' ⟨rfl,hB2⟩;have hB:=bgo (bbox (Below.refl _ w) _) hB2;obtain ⟨hc,hf⟩:=bcell hB2));go_ret;exact ⟨zjD (by simp[Asn.valid];omega),hB⟩
  (go_wp2_with (go_at_call 87;refine (c_impl_FactsValid A1 c1 a.facts _ (h1.bz (bbox (Below.refl _ w) _))).mono ?_;rintro e w' ⟨rfl,hB2⟩;have hB:=bgo (bbox (Below.refl _ w) _) hB2;obtain ⟨hc,hf⟩:=bcell hB2));clear hc hf hB2
  go_loopw [18] (fun i wr=>∃ k:Nat,k≤a.atoms.length∧i=.int .i64 k∧aJ (a.atoms.all Atm.valid=(a.atoms.drop k).all Atm.valid)∧Below w.heap.size w wr) (fun i _=>a.atoms.length - (intOf i).toNat)
  case atStart=>exact ⟨0,Nat.zero_le _,rfl,by simp[aJ],hB⟩
  case round=>
   clear hB;obtain ⟨k,hk,rfl,HA,hB⟩:=hrel;by_cases hlt:k<a.atoms.length
   ·obtain ⟨b,off,rfl,c0,c1,c2⟩:=(h2.bz hB).at hlt;(go_wp2_with (go_at_call 88;refine (c_impl_atomValid a.atoms[k] _).mono ?_;rintro e w' ⟨rfl,hB2⟩))
    ·go_ret;refine ⟨zjD ?_,bgo (bbox hB _) hB2⟩;have:=HA.o;rw[all_drop _ _ _ hlt] at this
     simp_all [Asn.valid]
    ·go_round
     case rel=>
      refine ⟨k+1,by omega,by go_num,?_,bgo (bbox hB _) hB2⟩;have:=HA.o;rw[all_drop _ _ _ hlt] at this
      simp_all [aJ]
     case measure=>simp[intOf];omega
   ·go_wp2;go_ret;have e:k=a.atoms.length:=by omega
    refine ⟨zjD ?_,hB⟩;have:=HA.o;rw[e,List.drop_length,List.all_nil] at this;simp[Asn.valid,hv,this];omega
 ·(go_wp2_with (go_at_call 87;refine (c_impl_FactsValid A1 c1 a.facts _ (h1.bz (bbox (Below.refl _ w) _))).mono ?_;rintro e w' ⟨rfl,hB2⟩;have hB:=bgo (bbox (Below.refl _ w) _) hB2;obtain ⟨hc,hf⟩:=bcell hB2));go_ret;exact ⟨zjD (by simp[Asn.valid,hv]),hB⟩
theorem vz {lo hi:Nat} (v:Value) (a:Asn) (w:World) (h:AsnV w lo hi v a):Calls Tryz.prog 54 #[v] w fun r w'=>r=.returned (.bool a.valid)∧Below w.heap.size w w':=by
 obtain ⟨A1,c1,A2,c2,rfl,h1,h2⟩:=h;have hl1:=h1.le;have hl2:=h2.le;(go_enter Tryz.func54,Tryz.ntmps54);go_wp2;have hb0:=bbox (Below.refl w.heap.size w) (.cells #[.slice A1 a.facts.length c1,.slice A2 a.atoms.length c2] 37);obtain ⟨W0,hW0⟩:∃ W0,W0=w.alloc (.cells #[.slice A1 a.facts.length c1,.slice A2 a.atoms.length c2] 37):=⟨_,rfl⟩;have hcc:∀ o,W0.cell? ⟨w.heap.size,o,none⟩=#[Value.slice A1 a.facts.length c1,.slice A2 a.atoms.length c2][o]?:=by rw[hW0];exact Blk.cell (Blk.new _ _ _)
 have hsz:w.heap.size<W0.heap.size:=by rw[hW0];simp
 rw[←hW0] at hb0 ⊢;clear hW0
 go_loopw [3] (fun i wr=>∃ k:Nat,k≤a.atoms.length∧i=.int .i64 k∧aJ (a.atoms.all Atm.valid=(a.atoms.drop k).all Atm.valid)∧Below W0.heap.size W0 wr) (fun i _=>a.atoms.length - (intOf i).toNat)
 case atStart=>exact ⟨0,Nat.zero_le _,rfl,by simp[aJ],Below.refl _ _⟩
 case round=>
  obtain ⟨k,hk,rfl,HA,hB1⟩:=hrel;have hB:=bgo hb0 hB1;have q0:wr.cell? ⟨w.heap.size,0,none⟩=some (.slice A1 a.facts.length c1):=(hB1.cell hsz).trans (hcc 0);have q1:wr.cell? ⟨w.heap.size,1,none⟩=some (.slice A2 a.atoms.length c2):=(hB1.cell hsz).trans (hcc 1);by_cases hlt:k<a.atoms.length
  ·obtain ⟨b,off,rfl,c0,c1,c2⟩:=(h2.bz hB).at hlt;(go_wp2_with (go_at_call 126;refine (c_spec_l3Atom a.atoms[k] _).mono ?_;rintro e w' ⟨rfl,hB2⟩))
   ·go_ret;refine ⟨zjD ?_,bgo hB hB2⟩;have:=HA.o;rw[all_drop _ _ _ hlt] at this
    simp_all [Asn.valid]
   ·go_round
    case rel=>
     refine ⟨k+1,by omega,by go_num,?_,bgo hB1 hB2⟩;have:=HA.o;rw[all_drop _ _ _ hlt] at this
     simp_all [aJ]
    case measure=>simp[intOf];omega
  ·obtain rfl:k=a.atoms.length:=by omega
   have:=HA.o;rw[List.drop_length,List.all_nil] at this;have HT:=ax this;clear this HA;by_cases h6:a.atoms.length≤6<;>by_cases hv:factsValid a.facts=true
   all_goals
    go_wp2_with (go_at_call 127;refine (c_spec_FactsValid A1 c1 a.facts _ (h1.bz hB)).mono ?_;rintro e w' ⟨rfl,hB2⟩;obtain ⟨hc,hf⟩:=bcell hB2;have q3:wr.heap.size > w.heap.size:=Nat.lt_of_lt_of_le hsz hB1.size)
    all_goals
     go_ret;refine ⟨zjD ?_,bgo hB hB2⟩;rw[Asn.valid,HT.o,Bool.and_true];clear hc hf q0 q1 hcc HT
     simp_all
     try omega
section
variable {P:Program} {w:World} {base:Nat} {e:TypeId} {size:Nat}
theorem run_append_none (t ty:TypeId) (i:TypeInfo) (ht:P.underlying t=some (.slice e)) (hi:P.info? e=some i)
  (v:Value) (n c:Nat) (xs:List Value) (hown:w.ownsRow base e size v n xs) :
  (Builtin.append_ #[t,t] ty #[v,.slice none 0 c]).run P w=.ok v w:=by
 rcases hown.2 with ⟨rfl,rfl⟩|⟨g,cap,cur,rfl,_,_,hnc,_⟩
 ·simp[Builtin.append_,run_underlying ht,sizeOf,typeInfo,hi,Builtin.lenOf,Builtin.firstCells]
 ·simp[Builtin.append_,run_underlying ht,sizeOf,typeInfo,hi,Builtin.lenOf,Builtin.firstCells,hnc,storeCells]
end
theorem wpList_appL {P:Program} {ops:Array Oper} {rest:List Oper} {o:Oper} {a:Act} {Q:Exit→Act→World→Prop} {w:World} (hgd:o.guard=none) (s x:Operand) (t:TypeId)
  (ho:o.op=.call { callee:=.builtin .append,args:=#[s,x],argTypes:=#[t,t] })
  {base:Nat} {e:TypeId} {z:Value} {size bytes:Nat} (ht:P.underlying t=some (.slice e)) (hinfo:(P.info? e).map (fun i=>(i.zero,i.size,i.bytes))=some (some z,size,bytes)) (hzs:z.cells.size=size) (hsz:0<size) (hby:bytes≤200)
  {v:Value} {n:Nat} {xs:List Value} (hs:a.eval s=v) (hown:w.ownsRow base e size v n xs)
  {A:Option Addr} {m c lo hi:Nat} {news:List Value} (hx:a.eval x=.slice A m c) (hR:Rw w lo hi size A m news) (h1:∀ u∈news,u.oneCell'=true)
  (hn:n+m≤1049600) (hb:base≤w.heap.size)
  (h:∀ v' w',w'.ownsRow base e size v' (n+m) (xs++news)→w.grownBy w' v.ownBlock→Below base w w'→wpList P ops Q rest (a.put o.dst v') w'):wpList P ops Q (o :: rest) a w:=by
 obtain ⟨i,hi',hz,hsize,hbytes⟩:=info_parts hinfo
 have key:∀ (ad:Addr),A=some ad→(∀ j u,news[j]? = some u→w.cell? (ad.add j)=some u)→wpList P ops Q (o :: rest) a w:=by
  rintro ad rfl hnews;refine wpList_append_own w hgd s x t ho base e i z size bytes ht hi' hz hsize hbytes hzs hsz v n xs hs hown ad m c news hx hR.1 hnews h1 (by unfold maxLen;omega) (Nat.le_trans (Nat.mul_le_mul hn hby) (by omega)) hb ?_;intro v' w' ho' hg' _;exact h v' w' ho' hg' (own_row_below hown hg' hb)
 by_cases hm:m=0
 ·subst hm;have hnil:news=[]:=List.eq_nil_of_length_eq_zero (by simpa using hR.1);subst hnil
  cases A with
  | some ad=>exact key ad rfl (by simp)
  | none=>
   refine wpList_plain hgd fun K hK=>?_;have hrun:=run_append_none (P:=P) t o.type i ht hi' v n c xs hown;unfold Oper.wp;simp[execOp,ho,resolve,invoke,builtin,hs,hx,hrun,Result.andThen];exact hK _ _ (h v w (by simpa using hown) (World.grownBy.refl _ _) (Below.refl _ _))
 ·have h0:0<m * size:=Nat.mul_pos (by omega) hsz;obtain ⟨b,off,rfl,_,_,hc⟩:=hR.2 h0;exact key _ rfl fun j u hu=>by rw[show (⟨b,off,none⟩:Addr).add j=⟨b,off+j,none⟩ from by unfold Addr.add;split<;>simp_all];exact hc j u hu
theorem wp_appL {P:Program} {o:Oper} {a:Act} {K:Act→World→Prop} {Q:Exit→Act→World→Prop} {w:World} (s x:Operand) (t:TypeId)
  (ho:o.op=.call { callee:=.builtin .append,args:=#[s,x],argTypes:=#[t,t] })
  {base:Nat} {e:TypeId} {z:Value} {size bytes:Nat} (ht:P.underlying t=some (.slice e)) (hinfo:(P.info? e).map (fun i=>(i.zero,i.size,i.bytes))=some (some z,size,bytes)) (hzs:z.cells.size=size) (hsz:0<size) (hby:bytes≤200)
  {v:Value} {n:Nat} {xs:List Value} (hs:a.eval s=v) (hown:w.ownsRow base e size v n xs)
  {A:Option Addr} {m c lo hi:Nat} {news:List Value} (hx:a.eval x=.slice A m c) (hR:Rw w lo hi size A m news) (h1:∀ u∈news,u.oneCell'=true)
  (hn:n+m≤1049600) (hb:base≤w.heap.size)
  (h:∀ v' w',w'.ownsRow base e size v' (n+m) (xs++news)→w.grownBy w' v.ownBlock→Below base w w'→K (a.put o.dst v') w'):Oper.wp P o a w K Q:=by
 obtain ⟨i,hi',hz,hsize,hbytes⟩:=info_parts hinfo
 have key:∀ (ad:Addr),A=some ad→(∀ j u,news[j]? = some u→w.cell? (ad.add j)=some u)→Oper.wp P o a w K Q:=by
  rintro ad rfl hnews;obtain ⟨v',w',hr,h2,h3,h4,h5⟩:=run_append_own_at (P:=P) w base t o.type e i z size bytes ht hi' hz hsize hbytes hzs hsz v n xs hown ad m c news hR.1 hnews h1 (by unfold maxLen;omega) (Nat.le_trans (Nat.mul_le_mul hn hby) (by omega)) hb;unfold Oper.wp execOp;simp only[ho,resolve,invoke,builtin,Sem.run_bind,Sem.run_pure,Result.andThen_ok,List.map_toArray,List.map_cons,List.map_nil,hs,hx,hr];exact h v' w' h2 h3 (own_row_below hown h3 hb)
 by_cases hm:m=0
 ·subst hm;have hnil:news=[]:=List.eq_nil_of_length_eq_zero (by simpa using hR.1);subst hnil
  cases A with
  | some ad=>exact key ad rfl (by simp)
  | none=>
   have hrun:=run_append_none (P:=P) t o.type i ht hi' v n c xs hown;unfold Oper.wp execOp;simp only[ho,resolve,invoke,builtin,Sem.run_bind,Sem.run_pure,Result.andThen_ok,List.map_toArray,List.map_cons,List.map_nil,hs,hx,hrun];exact h v w (by simpa using hown) (World.grownBy.refl _ _) (Below.refl _ _)
 ·have h0:0<m * size:=Nat.mul_pos (by omega) hsz;obtain ⟨b,off,rfl,_,_,hc⟩:=hR.2 h0;exact key _ rfl fun j u hu=>by rw[show (⟨b,off,none⟩:Addr).add j=⟨b,off+j,none⟩ from by unfold Addr.add;split<;>simp_all];exact hc j u hu
theorem encF_one (fs:List Fct):∀ u∈encF fs,u.oneCell'=true:=by
 intro u hu;simp only[encF,List.mem_flatMap] at hu;obtain ⟨f,_,hf⟩:=hu;simp at hf;rcases hf with rfl|rfl|rfl<;>simp[Value.oneCell']
theorem encA_one (fs:List Atm):∀ u∈encA fs,u.oneCell'=true:=by
 intro u hu;simp only[encA,List.mem_flatMap] at hu;obtain ⟨f,_,hf⟩:=hu;simp at hf;rcases hf with rfl|rfl|rfl<;>simp[Value.oneCell']
theorem encI_one (fs:List Int):∀ u∈encI fs,u.oneCell'=true:=by
 intro u hu;simp only[encI,List.mem_map] at hu;obtain ⟨f,_,rfl⟩:=hu;simp[Value.oneCell']
section
variable {ops:Array Oper} {rest:List Oper} {o:Oper} {a:Act} {Q:Exit→Act→World→Prop} {w:World} {base lo hi c:Nat} {v:Value} {A:Option Addr}
theorem appFL (hgd:o.guard=none) (s x:Operand) (ho:o.op=.call { callee:=.builtin .append,args:=#[s,x],argTypes:=#[34,34] })
  {xs ys:List Fct} (hs:a.eval s=v) (hown:FactsO w base v xs) (hx:a.eval x=.slice A ys.length c) (hR:FactsV w lo hi A ys) (hn:xs.length+ys.length≤1049600) (hb:base≤w.heap.size)
  (h:∀ A' c' w',FactsO w' base (.slice A' (xs++ys).length c') (xs++ys)→w.grownBy w' v.ownBlock→Below base w w'→wpList Tryz.prog ops Q rest (a.put o.dst (.slice A' (xs++ys).length c')) w'):wpList Tryz.prog ops Q (o :: rest) a w:=by
 refine wpList_appL hgd s x 34 ho Tryz.underlying34 infoF rfl (by decide) (by decide) hs hown.1 hx hR.raw (encF_one _) hn hb ?_;intro v' w' h1 h2 h3;have hO:FactsO w' base v' (xs++ys):=⟨by rw[List.length_append,show encF (xs++ys)=encF xs++encF ys from List.flatMap_append];exact h1,by simp[Lim];omega⟩;obtain ⟨A',c',rfl,-⟩:=hO.rj;exact h A' c' w' hO h2 h3
theorem appAL (hgd:o.guard=none) (s x:Operand) (ho:o.op=.call { callee:=.builtin .append,args:=#[s,x],argTypes:=#[35,35] })
  {xs ys:List Atm} (hs:a.eval s=v) (hown:AtomsO w base v xs) (hx:a.eval x=.slice A ys.length c) (hR:AtomsV w lo hi A ys) (hn:xs.length+ys.length≤1049600) (hb:base≤w.heap.size)
  (h:∀ A' c' w',AtomsO w' base (.slice A' (xs++ys).length c') (xs++ys)→w.grownBy w' v.ownBlock→Below base w w'→wpList Tryz.prog ops Q rest (a.put o.dst (.slice A' (xs++ys).length c')) w'):wpList Tryz.prog ops Q (o :: rest) a w:=by
 refine wpList_appL hgd s x 35 ho Tryz.underlying35 infoA rfl (by decide) (by decide) hs hown.1 hx hR.raw (encA_one _) hn hb ?_;intro v' w' h1 h2 h3;have hO:AtomsO w' base v' (xs++ys):=⟨by rw[List.length_append,show encA (xs++ys)=encA xs++encA ys from List.flatMap_append];exact h1,by simp[Lim];omega⟩;obtain ⟨A',c',rfl,-⟩:=hO.rj;exact h A' c' w' hO h2 h3
theorem appIL (hgd:o.guard=none) (s x:Operand) (ho:o.op=.call { callee:=.builtin .append,args:=#[s,x],argTypes:=#[31,31] })
  {xs ys:List Int} (hs:a.eval s=v) (hown:IntsO w base v xs) (hx:a.eval x=.slice A ys.length c) (hR:IntsV w lo hi A ys) (hn:xs.length+ys.length≤1049600) (hb:base≤w.heap.size)
  (h:∀ A' c' w',IntsO w' base (.slice A' (xs++ys).length c') (xs++ys)→w.grownBy w' v.ownBlock→Below base w w'→wpList Tryz.prog ops Q rest (a.put o.dst (.slice A' (xs++ys).length c')) w'):wpList Tryz.prog ops Q (o :: rest) a w:=by
 refine wpList_appL hgd s x 31 ho Tryz.underlying31 infoI rfl (by decide) (by decide) hs hown.1 hx hR.raw (encI_one _) hn hb ?_;intro v' w' h1 h2 h3;have hO:IntsO w' base v' (xs++ys):=⟨by rw[List.length_append,show encI (xs++ys)=encI xs++encI ys from List.map_append];exact h1,by simp[Lim];omega⟩;obtain ⟨A',c',rfl,-⟩:=hO.rj;exact h A' c' w' hO h2 h3
end
section
variable {ops:Array Oper} {o:Oper} {a:Act} {K:Act→World→Prop} {Q:Exit→Act→World→Prop} {E:Prop} {w:World} {base lo hi c:Nat} {v:Value} {A:Option Addr}
theorem stepFL (hgd:o.guard=none) (s x:Operand) (ho:o.op=.call { callee:=.builtin .append,args:=#[s,x],argTypes:=#[34,34] })
  {xs ys:List Fct} (hs:a.eval s=v) (hown:FactsO w base v xs) (hx:a.eval x=.slice A ys.length c) (hR:FactsV w lo hi A ys) (hn:xs.length+ys.length≤1049600) (hb:base≤w.heap.size)
  (h:∀ A' c' w',FactsO w' base (.slice A' (xs++ys).length c') (xs++ys)→w.grownBy w' v.ownBlock→Below base w w'→K (a.put o.dst (.slice A' (xs++ys).length c')) w'):if Region.wanted o (yielded ops a.tmps)=true then Oper.wp Tryz.prog o a w K Q else E:=by
 have hw:Region.wanted o (yielded ops a.tmps)=true:=by simp[Region.wanted,hgd]
 rw[if_pos hw];refine wp_appL s x 34 ho Tryz.underlying34 infoF rfl (by decide) (by decide) hs hown.1 hx hR.raw (encF_one _) hn hb ?_;intro v' w' h1 h2 h3;have hO:FactsO w' base v' (xs++ys):=⟨by rw[List.length_append,show encF (xs++ys)=encF xs++encF ys from List.flatMap_append];exact h1,by simp[Lim];omega⟩;obtain ⟨A',c',rfl,-⟩:=hO.rj;exact h A' c' w' hO h2 h3
theorem stepAL (hgd:o.guard=none) (s x:Operand) (ho:o.op=.call { callee:=.builtin .append,args:=#[s,x],argTypes:=#[35,35] })
  {xs ys:List Atm} (hs:a.eval s=v) (hown:AtomsO w base v xs) (hx:a.eval x=.slice A ys.length c) (hR:AtomsV w lo hi A ys) (hn:xs.length+ys.length≤1049600) (hb:base≤w.heap.size)
  (h:∀ A' c' w',AtomsO w' base (.slice A' (xs++ys).length c') (xs++ys)→w.grownBy w' v.ownBlock→Below base w w'→K (a.put o.dst (.slice A' (xs++ys).length c')) w'):if Region.wanted o (yielded ops a.tmps)=true then Oper.wp Tryz.prog o a w K Q else E:=by
 have hw:Region.wanted o (yielded ops a.tmps)=true:=by simp[Region.wanted,hgd]
 rw[if_pos hw];refine wp_appL s x 35 ho Tryz.underlying35 infoA rfl (by decide) (by decide) hs hown.1 hx hR.raw (encA_one _) hn hb ?_;intro v' w' h1 h2 h3;have hO:AtomsO w' base v' (xs++ys):=⟨by rw[List.length_append,show encA (xs++ys)=encA xs++encA ys from List.flatMap_append];exact h1,by simp[Lim];omega⟩;obtain ⟨A',c',rfl,-⟩:=hO.rj;exact h A' c' w' hO h2 h3
end
theorem FactsO.made (w:World) (n:Nat) (h:n≤1049600):FactsO (w.alloc (.cells (madeCells #[.bool false,.int .i64 0,.int .i64 0] (n * 3)) tF)) w.heap.size (.slice (some ⟨w.heap.size,0,none⟩) 0 n) []:=
 ⟨World.ownsRow_made w _ n (Nat.le_refl _) (by unfold maxLen;omega) (by rw[size_madeCells]),by simp[Lim]⟩
theorem AtomsO.made (w:World) (n:Nat) (h:n≤1049600):AtomsO (w.alloc (.cells (madeCells #[.int .i64 0,.int .i64 0,.int .i64 0] (n * 3)) tA)) w.heap.size (.slice (some ⟨w.heap.size,0,none⟩) 0 n) []:=
 ⟨World.ownsRow_made w _ n (Nat.le_refl _) (by unfold maxLen;omega) (by rw[size_madeCells]),by simp[Lim]⟩
theorem FactsO.empty (w:World):FactsO (w.alloc (.cells #[] tF)) w.heap.size (.slice (some ⟨w.heap.size,0,none⟩) 0 0) []:=⟨own_empty w _ _,by simp[Lim]⟩
theorem AtomsO.empty (w:World):AtomsO (w.alloc (.cells #[] tA)) w.heap.size (.slice (some ⟨w.heap.size,0,none⟩) 0 0) []:=⟨own_empty w _ _,by simp[Lim]⟩
theorem FactsO.nil (w:World) (base:Nat):FactsO w base (.slice none 0 0) []:=⟨World.ownsRow_nil _ _ _ _,by simp[Lim]⟩
theorem AtomsO.nil (w:World) (base:Nat):AtomsO w base (.slice none 0 0) []:=⟨World.ownsRow_nil _ _ _ _,by simp[Lim]⟩
def starA (a b:Asn):Asn:=⟨a.facts++b.facts,a.atoms++b.atoms⟩
theorem zjC {a:Asn} (h:a.valid=true):a.facts.length≤12∧a.atoms.length≤6:=by
 simp only[Asn.valid,factsValid,Bool.and_eq_true,decide_eq_true_eq] at h;exact ⟨h.1.1,h.2.1⟩
theorem AsnO.zero (w:World) (base:Nat):AsnO w base (.agg #[.slice none 0 0,.slice none 0 0]) ⟨[],[]⟩:=⟨_,_,rfl,FactsO.nil _ _,AtomsO.nil _ _⟩
theorem blk2 (w:World) (t1 t2:TypeId) (a b:Array Value):Blk ((w.alloc (.cells a t1)).alloc (.cells b t2)) w.heap.size t1 a∧Blk ((w.alloc (.cells a t1)).alloc (.cells b t2)) (w.heap.size+1) t2 b:=
 ⟨(Blk.new w _ _).alloc _,by have:=Blk.new (w.alloc (.cells a t1)) t2 b;simpa using this⟩
theorem blk3 (w:World) (t1 t2 t3:TypeId) (a b c:Array Value):Blk (((w.alloc (.cells a t1)).alloc (.cells b t2)).alloc (.cells c t3)) w.heap.size t1 a∧Blk (((w.alloc (.cells a t1)).alloc (.cells b t2)).alloc (.cells c t3)) (w.heap.size+1) t2 b∧Blk (((w.alloc (.cells a t1)).alloc (.cells b t2)).alloc (.cells c t3)) (w.heap.size+1+1) t3 c:=
 ⟨(blk2 w t1 t2 a b).1.alloc _,(blk2 w t1 t2 a b).2.alloc _,by have:=Blk.new ((w.alloc (.cells a t1)).alloc (.cells b t2)) t3 c;simpa using this⟩
theorem own_setT {w:World} {base:Nat} {e:TypeId} {size:Nat} {v:Value} {n:Nat} {xs:List Value} (h:w.ownsRow base e size v n xs) {g:Nat} {t:TypeId} {cs:Array Value} (hk:Blk w g t cs) (ht:t≠e) (i:Nat) (u:Value):(w.setCell ⟨g,i,none⟩ u).ownsRow base e size v n xs:=by
 obtain ⟨h1,h2⟩:=h;refine ⟨h1,?_⟩;rcases h2 with h2|⟨k,cap,cur,hv,hg,hh,r⟩
 ·exact Or.inl h2
 ·exact Or.inr ⟨k,cap,cur,hv,hg,Blk.far (g:=k) hh (fun e=>Blk.ne_ hk hh ht e.symm) u,r⟩
theorem FactsO.setT {w:World} {base:Nat} {v:Value} {xs:List Fct} (h:FactsO w base v xs) {g:Nat} {t:TypeId} {cs:Array Value} (hk:Blk w g t cs) (ht:t≠tF) (i:Nat) (u:Value):FactsO (w.setCell ⟨g,i,none⟩ u) base v xs:=⟨own_setT h.1 hk ht i u,h.2⟩
theorem AtomsO.setT {w:World} {base:Nat} {v:Value} {xs:List Atm} (h:AtomsO w base v xs) {g:Nat} {t:TypeId} {cs:Array Value} (hk:Blk w g t cs) (ht:t≠tA) (i:Nat) (u:Value):AtomsO (w.setCell ⟨g,i,none⟩ u) base v xs:=⟨own_setT h.1 hk ht i u,h.2⟩
theorem IntsO.setT {w:World} {base:Nat} {v:Value} {xs:List Int} (h:IntsO w base v xs) {g:Nat} {t:TypeId} {cs:Array Value} (hk:Blk w g t cs) (ht:t≠tI) (i:Nat) (u:Value):IntsO (w.setCell ⟨g,i,none⟩ u) base v xs:=⟨own_setT h.1 hk ht i u,h.2⟩
theorem zjA {x:Int}:jq x=true↔0≤x∧x≤8:=by simp[jq]
@[irreducible] def tins (S:Nat) (t:Int):Nat:=if jq t then S|||1 <<< t.toNat else S
theorem tins_lt {S:Nat} (h:S<512) (t:Int):tins S t<512:=by
 unfold tins
 split
 ·rename_i ht;have ht:=zjA.1 ht;rw[Nat.one_shiftLeft]
  exact Nat.or_lt_two_pow (n:=9) h (by
   have:(2:Nat) ^ t.toNat≤2 ^ 8:=Nat.pow_le_pow_right (by omega) (by omega)
   omega)
 ·exact h
theorem tins_bit (S:Nat) (t:Int) (n:Nat):(tins S t).testBit n=(S.testBit n || decide (jq t=true∧t=(n:Int))):=by
 unfold tins
 split
 ·rename_i ht;have hb:=zjA.1 ht;rw[Nat.testBit_or,Nat.one_shiftLeft,Nat.testBit_two_pow]
  congr 1
  rw[decide_eq_decide];constructor
  ·intro e;exact ⟨ht,by omega⟩
  ·intro e;omega
 ·rename_i ht;simp[ht]
def tset (l:List Int):Nat:=l.foldl tins 0
theorem foldl_tins_bit (l:List Int):∀ (S n:Nat),(l.foldl tins S).testBit n=(S.testBit n || decide (jq (n:Int)=true∧(n:Int)∈l)):=by
 induction l with
 | nil=>intro S n;simp
 | cons x l ih=>
  intro S n;rw[List.foldl_cons,ih,tins_bit,Bool.or_assoc]
  congr 1
  rw[←Bool.decide_or,decide_eq_decide];constructor
  ·rintro (⟨h,rfl⟩|⟨h,hm⟩)
   ·exact ⟨h,List.mem_cons_self⟩
   ·exact ⟨h,List.mem_cons_of_mem _ hm⟩
  ·rintro ⟨h,hm⟩;rcases List.mem_cons.1 hm with e|hm
   ·exact Or.inl ⟨e▸h,e.symm⟩
   ·exact Or.inr ⟨h,hm⟩
theorem tset_bit (l:List Int) (n:Nat):(tset l).testBit n=decide (jq (n:Int)=true∧(n:Int)∈l):=by
 rw[tset,foldl_tins_bit];simp
def factT (f:Fct):List Int:=[f.a,f.b]
def atomT (x:Atm):List Int:=[x.a,x.b]
def mz (a:Asn):List Int:=a.facts.flatMap factT++a.atoms.flatMap atomT
attribute [irreducible] tset
theorem foldl_step {α:Type} (f:Nat→α→Nat) (S:Nat) (xs:List α) (k:Nat) (hk:k<xs.length):(xs.drop k).foldl f S=(xs.drop (k+1)).foldl f (f S xs[k]):=by
 rw[List.drop_eq_getElem_cons hk];rfl
theorem tset_terms (a:Asn):tset (mz a)=(a.atoms.foldl (fun S x=>tins (tins S x.a) x.b) (a.facts.foldl (fun S f=>tins (tins S f.a) f.b) 0)):=by
 have h1:∀ (fs:List Fct) (S:Nat),(fs.flatMap factT).foldl tins S=fs.foldl (fun S f=>tins (tins S f.a) f.b) S:=by
  intro fs;induction fs with
  | nil=>intro S;rfl
  | cons f fs ih=>intro S;rw[List.flatMap_cons,List.foldl_append,ih];rfl
 have h2:∀ (fs:List Atm) (S:Nat),(fs.flatMap atomT).foldl tins S=fs.foldl (fun S f=>tins (tins S f.a) f.b) S:=by
  intro fs;induction fs with
  | nil=>intro S;rfl
  | cons f fs ih=>intro S;rw[List.flatMap_cons,List.foldl_append,ih];rfl
 rw[tset,mz,List.foldl_append,h1,h2]
theorem Fr.goB {g base:Nat} {a b c:World} (h:Fr g a b) (k:Below base b c) (hb:a.heap.size≤base):Fr g a c:=
 ⟨k.os.trans h.os,k.tape.trans h.tape,k.output.trans h.output,Nat.le_trans h.size k.size,fun i h1 h2=>(k.block i (by omega)).trans (h.block i h1 h2)⟩
theorem Rdr.belowB {w w':World} {g p base:Nat} (h:Rdr w g p) (hb:Below base w w') (hg:g<base):Rdr w' g p:=by
 obtain ⟨A,c,bs,h1,h2,h3⟩:=h;exact ⟨A,c,bs,h1.bz hb hg,h2.keep fun b _ hlt=>hb.block b (by omega),h3⟩
theorem c_num {lo hi:Nat} (g p:Nat) (A:Option Addr) (c:Nat) (xs:List Int) (w:World) (h:Rdr w g p) (hp:p≤1000000) (hx:IntsV w lo hi A xs) (hg:g<lo∨hi≤g) (hn:0<xs.length) :
  Calls Tryz.prog 106 #[.pointer (some ⟨g,0,none⟩),.slice A xs.length c] w fun e w'=>∃ m∈xs,e=.returned (.int .i64 m)∧Rdr w' g (p+1)∧Fr g w w':=by
 have H:=ax h;have HX:=ax hx;clear h hx;(go_enter Tryz.func106,Tryz.ntmps106);(go_wp2_with fail);refine (c_pick g p _ _ H.o hp).mono ?_;rintro e w1 ⟨m,rfl,hm,hR,hF⟩;have hlt:m<xs.length:=by omega
 obtain ⟨b,o,rfl,c0⟩:=IntsV.at (Rd.fr HX.o hF hg) hlt;have hmi:(m:Int)<(xs.length:Int):=by omega
 have HRF:=ax (And.intro hR hF);clear hm hR hF;(go_wp2_with fail);go_ret;exact ⟨xs[m],List.getElem_mem hlt,rfl,HRF.o.1,HRF.o.2⟩
theorem c_numL (g p:Nat) (xs:List Int) (x n:Nat) (cs:Array Value) (w:World) (h:Rdr w g p) (hp:p≤1000000) (hk:Blk w x tI cs) (hcs:cs=(encI xs).toArray) (hg:g<x) (hn:n=xs.length) (h0:0<xs.length) (hl:xs.length≤100) :
  Calls Tryz.prog 106 #[.pointer (some ⟨g,0,none⟩),.slice (some ⟨x,0,none⟩) n n] w fun e w'=>∃ m∈xs,e=.returned (.int .i64 m)∧Rdr w' g (p+1)∧Fr g w w':=by
 subst hn;refine c_num (lo:=x) (hi:=x+1) g p _ _ xs w h hp ⟨⟨by simp[encI],fun _=>⟨x,0,rfl,Nat.le_refl _,Nat.lt_succ_self _,fun j u hu=>?_⟩⟩,by unfold Lim;omega⟩ (Or.inl hg) h0;rw[Nat.zero_add,hk.cell,hcs];simpa using hu
theorem c_l3Point (g p:Nat) (w:World) (h:Rdr w g p) (hp:p≤999990) :
  Calls Tryz.prog 262 #[.pointer (some ⟨g,0,none⟩)] w fun e w'=>∃ f:Atm,f.valid=true∧e=.returned f.val∧Rdr w' g (p+3)∧Fr g w w':=by
 have H:=ax h;have hlt:=h.lt;clear h;(go_enter Tryz.func262,Tryz.ntmps262);have k0:Blk (w.alloc (.cells #[.int .i64 0,.int .i64 0,.int .i64 0] tA)) w.heap.size tA #[.int .i64 0,.int .i64 0,.int .i64 0]:=Blk.new _ _ _;have HF0:aJ (Fr g w (w.alloc (.cells #[.int .i64 0,.int .i64 0,.int .i64 0] tA))):=(Fr.refl g w).alloc _;(go_wp2_with fail);refine (c_numL g p [1,2,3,5,4,6] _ _ _ _ (H.o.bz bel) (by omega) blks (by rfl) (by first|omega|(simp;omega)) (by rfl) (by decide) (by decide)).mono ?_;rintro e w1 ⟨x,hx,rfl,hR,hF⟩;replace k0:=(k0.alloc _).fr hF (by omega);have HF1:=ax ((HF0.o.alloc _).trans hF);have HR1:=ax hR;have HX:=ax ((by decide:∀ m∈[(1:Int),2,3,5,4,6],jq m=true) x hx);have l1:=k0.lt;clear hR hF hx;(go_wp2_with fail);refine (c_numL g (p+1) [2,0,3,1,5,0,6] _ _ _ _ (HR1.o.bz bel) (by omega) blks (by rfl) (by first|omega|(simp;omega)) (by rfl) (by decide) (by decide)).mono ?_;rintro e w2 ⟨y,hy,rfl,hR,hF⟩;replace k0:=(k0.alloc _).fr hF (by omega);have HF2:=ax ((HF1.o.alloc _).trans hF);have HR2:=ax hR;have HY:=ax ((by decide:∀ m∈[(2:Int),0,3,1,5,0,6],jq m=true) y hy);have l2:=k0.lt;clear hR hF hy;have k1:Blk (w2.alloc (.cells #[.int .i64 1,.int .i64 x,.int .i64 y] tA)) w2.heap.size tA #[.int .i64 1,.int .i64 x,.int .i64 y]:=Blk.new _ _ _;(go_wp2_with fail);refine (c_pick g (p+1+1) 2 _ (HR2.o.bz bel) (by omega)).mono ?_;rintro e w3 ⟨m,rfl,-,hR,hF⟩;replace k0:=(k0.alloc (.cells #[.int .i64 1,.int .i64 x,.int .i64 y] tA)).fr hF (by omega);replace k1:=k1.fr hF (by omega);have HF3:=ax ((HF2.o.alloc _).trans hF);have HR3:=ax hR;clear hR hF;(replace qk0:=k0.cell;replace rk0:=k0.frozen;replace lk0:=k0.lt;replace qk1:=k1.z);have hsz:=HF2.o.size;have hne:w.heap.size≠w2.heap.size:=by omega
 by_cases hm:(m:Int)=0
 ·have hm':((m:Int) == 0)=true:=by simpa using hm
  clear hm;(go_wp2_with fail);refine bodyPost_ret (v:=(Atm.mk 2 x y).val) (by simp[results,Tryz.results262,go_sem,qk0]) rfl ⟨⟨2,x,y⟩,by simp[Atm.valid,HX.o,HY.o],rfl,?_,?_⟩
  ·repeat (first|exact HR3.o|refine Rdr.set_ ?_ (by simp only;omega) _)
  ·repeat (first|exact HF3.o|refine Fr.set_ ?_ (Or.inr (by simp only;omega)) _)
 ·have hm':((m:Int) == 0)=false:=by simpa using hm
  clear hm;(go_wp2_with fail);refine bodyPost_ret (v:=(Atm.mk 1 x y).val) (by simp[results,Tryz.results262,go_sem,qk0]) rfl ⟨⟨1,x,y⟩,by simp[Atm.valid,HX.o,HY.o],rfl,?_,?_⟩
  ·repeat (first|exact HR3.o|refine Rdr.set_ ?_ (by simp only;omega) _)
  ·repeat (first|exact HF3.o|refine Fr.set_ ?_ (Or.inr (by simp only;omega)) _)
end
section
open Go
section
variable {P:Program} {md:Region.Mode} {ops:Array Oper} {S:World→Prop} {Q:Exit→Act→World→Prop} {I:Array Bool→Act→World→Prop}
def dn (D:Array Bool) (j:Nat):Bool:=D.getD j false
theorem dn_ne {D:Array Bool} {i j:Nat} (h:i≠j):dn (D.setIfInBounds i true) j=dn D j:=getD_set_ne false h
theorem dn_self {D:Array Bool} {i:Nat} (h:D.getD i true=false):dn (D.setIfInBounds i true) i=true:=by
 unfold dn;rcases Nat.lt_or_ge i D.size with h'|h'
 ·simp[h']
 ·simp[Array.getElem?_eq_none h'] at h
theorem dn_un {D:Array Bool} {i:Nat} (h:D.getD i true=false):dn D i=false:=by
 unfold dn;rcases Nat.lt_or_ge i D.size with h'|h'
 ·simp[h'] at h ⊢;exact h
 ·simp[Array.getElem?_eq_none h'] at h
theorem dn_keep {D:Array Bool} {i j:Nat} {p q:Prop} (hij:i≠j) (h:dn D j=true→p) (hpq:p→q):dn (D.setIfInBounds i true) j=true→q:=fun e=>hpq (h (by rwa [dn_ne hij] at e))
def parB (md:Region.Mode) (ops:Array Oper) (H:List Nat) (Dz:Array Bool):Nat→Array Bool→Bool
 | 0,D=>decide (D=Dz)
 | n+1,D=>!(Region.ready md ops D).isEmpty&&(Region.ready md ops D).all fun i=>H.contains i&&parB md ops H Dz n (D.setIfInBounds i true)
def ParSteps (P:Program) (md:Region.Mode) (ops:Array Oper) (Q:Exit→Act→World→Prop) (S:World→Prop) (I:Array Bool→Act→World→Prop) (hs:List Nat):Prop:=
 ∀ i∈hs,∀ D a w,i∈Region.ready md ops D→I D a w→S w→wpOp P ops Q i (fun a' w'=>S w'∧I (D.setIfInBounds i true) a' w') a w
theorem ParSteps.nil:ParSteps P md ops Q S I []:=fun _ h=>by cases h
theorem ParSteps.cons {i:Nat} {o:Oper} {hs:List Nat} (ho:ops[i]? = some o)
  (h:∀ (D:Array Bool) (a:Act) (w:World),D.getD i true=false→(∀ e∈o.after.toList,Region.binds md e=true→dn D e.on=true)→I D a w→S w→
   ∀ K':Act→World→Prop,Shut (∀ a w,S w→I (D.setIfInBounds i true) a w→K' a w)→∀ G:Prop,((if Region.wanted o (yielded ops a.tmps)=true then Oper.wp P o a w K' Q else K' (a.put o.dst undef) w)→G)→G)
  (hs':ParSteps P md ops Q S I hs):ParSteps P md ops Q S I (i :: hs):=fun j hj D a w hr hI hS=>by
 rcases List.mem_cons.1 hj with rfl|hj
 ·obtain ⟨h1,o',ho',h2⟩:=mem_ready.1 hr;obtain rfl:o=o':=Option.some.inj (ho.symm.trans ho');exact wpOp_step ho (fun K' hK=>h D a w h1 (fun e he hb=>h2 e (Array.mem_toList_iff.1 he) hb) hI hS K' (fun a w hS hW=>hK a w ⟨hS,hW⟩) _ id)
 ·exact hs' j hj D a w hr hI hS
theorem wpAnyH_par (H:List Nat) (Dz:Array Bool) {fuel:Nat} {D0:Array Bool} {a0:Act} {w0:World} (n:Nat) (hH:parB md ops H Dz n D0=true) (hS:S w0) (J:Act→Array Bool→Act→World→Prop) (h0:J a0 D0 a0 w0)
  (hstep:ParSteps P md ops Q S (J a0) H) (hend:∀ a w,S w→J a0 Dz a w→wpAnyH P md ops Q S fuel Dz a w):wpAnyH P md ops Q S (fuel+n) D0 a0 w0:=by
 generalize hJ:J a0=I at *;clear hJ
 induction n generalizing D0 a0 w0 with
 | zero=>
  unfold parB at hH;obtain rfl:D0=Dz:=of_decide_eq_true hH;exact hend _ _ hS h0
 | succ n ih=>
  unfold parB at hH;simp only[Bool.and_eq_true,Bool.not_eq_true',List.all_eq_true,List.isEmpty_eq_false_iff,List.contains_iff_mem] at hH;refine wpAnyH_ready (fuel:=fuel+n) rfl hH.1 fun i hi=>?_;have h1:=hH.2 i hi;exact wpOp_mono (fun a' w' h=>⟨h.1,ih h1.2 h.1 h.2⟩) (hstep i h1.1 D0 a0 w0 hi h0 hS)
end
section
variable {P:Program} {md:Region.Mode} {S:World→Prop} {Q:Exit→Act→World→Prop}
def lastQ (P:Program) (st:Oper) (Q:Exit→Act→World→Prop):Exit→Act→World→Prop
 | .normal,a,w=>Oper.wp P st a w (Q .normal) Q
 | e,a,w=>Q e a w
def nopOf (st:Oper):Oper:={ st with op:=.assign (.const undef),dst:=none,guard:=none }
theorem wp_monoQ {o:Oper} {a:Act} {w:World} {K K':Act→World→Prop} {Q Q':Exit→Act→World→Prop} (hK:∀ a w,K a w→K' a w)
  (hQ:∀ c a w,Q (.panic c) a w→Q' (.panic c) a w) (hL:LetsOut Q→LetsOut Q') (hh:o.wp P a w K Q):o.wp P a w K' Q':=by
 unfold Oper.wp at *;generalize (execOp a.eval o).run P w=r at *
 cases r with
 | ok n w'=>
  cases n<;>simp only[Oper.upon] at hh ⊢<;>
   first
    | exact hK _ _ hh
    | exact Calls.mono hh (fun e w'' he=>by cases e<;>first|exact hK _ _ he|exact hQ _ _ _ he|exact hL he)
    | exact Rows.mono hh (fun _ _ he=>hK _ _ he)
 | halt x w'=>cases x<;>simp only[Oper.upon] at hh ⊢<;>first|exact hQ _ _ _ hh|exact hh
theorem ready_push (l:List Oper) (st:Oper) (listed:Array Bool):Region.ready md (l++[nopOf st]).toArray listed=Region.ready md (l++[st]).toArray listed:=by
 unfold Region.ready;simp only[List.size_toArray,List.length_append,List.length_cons,List.length_nil];apply List.filter_congr;intro i hi
 congr 1
 simp only[List.getElem?_toArray,List.getElem?_append]
 split
 ·rfl
 ·rcases Nat.eq_zero_or_pos (i - l.length) with h|h
  ·rw[h];rfl
  ·rw[List.getElem?_eq_none (by simp;omega),List.getElem?_eq_none (by simp;omega)]
def topoB (md:Region.Mode) (ops:Array Oper):Bool:=
 (List.range ops.size).all fun i=>match ops[i]? with|some o=>o.after.all fun e=>!Region.binds md e || decide (e.on<i)|none=>true
theorem ready_some {ops:Array Oper} (ht:topoB md ops=true) {listed:Array Bool} (hsz:listed.size=ops.size) {z:Nat} (hz:z<ops.size) (hun:listed.getD z true=false):Region.ready md ops listed≠[]:=by
 have:∀ n z,z<n→z<ops.size→listed.getD z true=false→∃ i,i∈Region.ready md ops listed:=by
  intro n
  induction n with
  | zero=>intro z h;omega
  | succ n ih=>
   intro z hzn hz hun;by_cases hm:∃ j,j<z∧listed.getD j true=false
   ·obtain ⟨j,hj,hju⟩:=hm;exact ih j (by omega) (by omega) hju
   ·refine ⟨z,mem_ready.2 ⟨hun,ops[z],Array.getElem?_eq_getElem hz,fun e he hb=>?_⟩⟩;have h1:=List.all_eq_true.1 ht z (by simpa using hz);rw[Array.getElem?_eq_getElem hz] at h1;simp only[Array.all_eq_true_iff_forall_mem] at h1;have h2:=h1 e he;rw[hb] at h2;simp at h2;cases h3:listed.getD e.on true
    ·exact absurd ⟨e.on,h2,h3⟩ hm
    ·have h4:e.on<listed.size:=by omega
     simp[h4] at h3 ⊢;exact h3
 obtain ⟨i,hi⟩:=this (z+1) z (Nat.lt_succ_self _) hz hun;intro h;rw[h] at hi;cases hi
theorem wpAny_of_last {l:List Oper} {st:Oper} (hg:(l.all fun o=>o.guard.isNone)=true) (hst:st.guard.isNone=true)
  (hs:Region.sinkB md (l++[st]).toArray l.length=true) (hc:Region.chainB md (l++[st]).toArray l.length=true) (ht:topoB md (l++[st]).toArray=true) :
  ∀ (f:Nat) (listed:Array Bool) (a:Act) (w:World),HeadInv md (l++[st]).toArray l.length listed→
   wpAnyH P md (l++[nopOf st]).toArray (lastQ P st Q) S f listed a w→wpAny P md (l++[st]).toArray Q f listed a w:=by
 have hsz:(l++[st]).toArray.size=l.length+1:=by simp
 have hzs:(l++[st]).toArray[l.length]? = some st:=by simp
 have hzn:(l++[nopOf st]).toArray[l.length]? = some (nopOf st):=by simp
 intro f
 induction f with
 | zero=>
  intro listed a w inv h;have hun:=inv.tail l.length (Nat.le_refl _) (by omega);exact absurd ((ready_push l st listed).symm.trans h.1) (ready_some ht inv.size (by omega) hun)
 | succ f ih=>
  intro listed a w inv h;have hun:=inv.tail l.length (Nat.le_refl _) (by omega);refine ⟨fun h0=>absurd h0 (ready_some ht inv.size (by omega) hun),fun i hi=>?_⟩;have hi':i∈Region.ready md (l++[nopOf st]).toArray listed:=by rw[ready_push];exact hi
  have h1:=h.2 i hi';obtain ⟨_,oi,hoi,_⟩:=mem_ready.1 hi;have hil:i<l.length+1:=by have:=(Array.getElem?_eq_some_iff.1 hoi).1;omega
  by_cases hiz:i=l.length
  ·subst hiz
   have hall:∀ j,j<l.length→listed.getD j true=true:=by
    intro j hj;cases hu:listed.getD j true
    ·exact absurd hi (tail_waits hs hc (by omega) inv _ j rfl hj hu l.length (Nat.le_refl _))
    ·rfl
   have hnil:Region.ready md (l++[st]).toArray (listed.setIfInBounds l.length true)=[]:=by
    rw[List.eq_nil_iff_forall_not_mem];intro j hj;obtain ⟨hju,oj,hoj,_⟩:=mem_ready.1 hj;have hjl:j<l.length+1:=by have:=(Array.getElem?_eq_some_iff.1 hoj).1;omega
    by_cases e:l.length=j
    ·subst e;have:l.length<listed.size:=by have:=inv.size;omega
     simp[this] at hju
    ·rw[getD_set_ne true e,hall j (by omega)] at hju;cases hju
   unfold wpOp at h1 ⊢;simp only[hzn,hzs] at h1 ⊢;have hw1:Region.wanted (nopOf st) (yielded (l++[nopOf st]).toArray a.tmps)=true:=by simp[Region.wanted,nopOf]
   have hgs:st.guard=none:=by simpa using hst
   have hw2:Region.wanted st (yielded (l++[st]).toArray a.tmps)=true:=by simp[Region.wanted,hgs]
   rw[hw1,if_pos rfl] at h1;rw[hw2,if_pos rfl];refine Or.inl ?_
   have h2:wpAnyH P md (l++[nopOf st]).toArray (lastQ P st Q) S f (listed.setIfInBounds l.length true) a w:=by
    rcases h1 with h1|⟨h1,_⟩
    ·unfold Oper.wp at h1;simp[nopOf,execOp,Oper.upon,Act.put,Act.eval] at h1;exact h1.2
    ·simp[Oper.asks,nopOf,execOp] at h1;exact absurd h1 (by intro h;cases h;rename_i h;cases h)
   have h3:lastQ P st Q .normal a w:=by
    rw[←ready_push] at hnil
    cases f with
    | zero=>exact h2.2
    | succ f=>exact h2.1 hnil
   refine Oper.wp_mono (fun a' w' hq=>?_) h3
   cases f with
   | zero=>exact ⟨hnil,hq⟩
   | succ f=>exact ⟨fun _=>hq,by rw[hnil];simp⟩
  ·have hlt:i<l.length:=by omega
   have e1:(l++[st]).toArray[i]? = some l[i]:=by simp[List.getElem?_append,hlt]
   have e2:(l++[nopOf st]).toArray[i]? = some l[i]:=by simp[List.getElem?_append,hlt]
   have hgi:l[i].guard=none:=by have:=List.all_eq_true.1 hg l[i] (List.getElem_mem hlt);simpa using this
   unfold wpOp at h1 ⊢;simp only[e1,e2] at h1 ⊢;have hw1:Region.wanted l[i] (yielded (l++[nopOf st]).toArray a.tmps)=true:=by simp[Region.wanted,hgi]
   have hw2:Region.wanted l[i] (yielded (l++[st]).toArray a.tmps)=true:=by simp[Region.wanted,hgi]
   rw[hw1,if_pos rfl] at h1;rw[hw2,if_pos rfl];rcases h1 with h1|⟨h1,h2⟩
   ·exact Or.inl (wp_monoQ (K:=fun a' w'=>S w'∧wpAnyH P md (l++[nopOf st]).toArray (lastQ P st Q) S f (listed.setIfInBounds i true) a' w') (fun a' w' hk=>ih _ _ _ (inv.set hi hlt) hk.2) (fun c a w h=>h) (fun h=>h) h1)
   ·exact Or.inr ⟨h1,h2⟩
theorem wp_region_last {l:List Oper} {st:Oper} {id:Nat} {a:Act} {w:World} (hm:P.follows .mixedOrders=true) (hg:(l.all fun o=>o.guard.isNone)=true) (hst:st.guard.isNone=true)
  (hs:Region.sinkB .any (l++[st]).toArray l.length=true) (hc:Region.chainB .any (l++[st]).toArray l.length=true) (ht:topoB .any (l++[st]).toArray=true) (hS:S w.drew)
  (h:S w.drew→wpAnyH P .any (l++[nopOf st]).toArray (lastQ P st Q) S (l.length+1) (Array.replicate (l.length+1) false) a w.drew):(Code.region id (l++[st]).toArray true).wp P Q a w:=by
 refine wp_region_any hm ?_;have e:(l++[st]).toArray.size=l.length+1:=by simp
 rw[e];refine wpAny_of_last hg hst hs hc ht _ _ _ _ ⟨by simp,fun j oj _ hl=>?_,fun t _ ht=>?_⟩ (h hS)
 ·rw[getD_replicate_false] at hl;cases hl
 ·exact getD_in (by simpa using ht) (getD_replicate_false _ _)
def lastB (L:List Oper):Bool:=
 match L.getLast? with
 | none=>false
 | some st=>(L.dropLast.all fun o=>o.guard.isNone)&&st.guard.isNone&&Region.sinkB .any L.toArray L.dropLast.length&&Region.chainB .any L.toArray L.dropLast.length&&topoB .any L.toArray
theorem wp_region_last' {L:List Oper} {id:Nat} {a:Act} {w:World} (hne:L≠[]) (hm:P.follows .mixedOrders=true) (hB:lastB L=true) (hS:S w.drew)
  (h:S w.drew→wpAnyH P .any (L.dropLast++[nopOf (L.getLast hne)]).toArray (lastQ P (L.getLast hne) Q) S L.length (Array.replicate L.length false) a w.drew):(Code.region id L.toArray true).wp P Q a w:=by
 have e:L.dropLast++[L.getLast hne]=L:=List.dropLast_concat_getLast hne;unfold lastB at hB;rw[List.getLast?_eq_some_getLast hne] at hB;simp only[Bool.and_eq_true] at hB;obtain ⟨⟨⟨⟨h1,h2⟩,h3⟩,h4⟩,h5⟩:=hB;have hl:L.dropLast.length+1=L.length:=by have:=congrArg List.length e;simpa using this
 have key:=wp_region_last (P:=P) (S:=S) (Q:=Q) (l:=L.dropLast) (st:=L.getLast hne) (id:=id) (a:=a) (w:=w) hm h1 h2 (by rw[e];exact h3) (by rw[e];exact h4) (by rw[e];exact h5) hS (by rw[hl];exact h)
 rwa [e] at key
end
end
section
open Go Go.RowKit Go.Proofs
end
section
open Go Go.RowKit
def StateV (w:World) (lo hi:Nat) (v:Value) (s:Ste):Prop:=
 ∃ A1 c1 A2 c2,v=.agg #[.slice A1 s.values.length c1,.slice A2 s.heap.length c2]∧IntsV w lo hi A1 s.values∧IntsV w lo hi A2 s.heap
section
variable {w w':World} {lo hi lo' hi':Nat} {v:Value} {s:Ste}
theorem StateV.bz (h:StateV w lo hi v s) (hb:Below w.heap.size w w'):StateV w' lo hi v s:=by
 obtain ⟨A1,c1,A2,c2,e,h1,h2⟩:=h;exact ⟨A1,c1,A2,c2,e,h1.bz hb,h2.bz hb⟩
theorem StateV.abv {l:Nat} (h:StateV w lo hi v s) (hb:Abv l w w') (hl:l≤lo):StateV w' lo hi v s:=by
 obtain ⟨A1,c1,A2,c2,e,h1,h2⟩:=h;exact ⟨A1,c1,A2,c2,e,Rd.abv h1 hb hl,Rd.abv h2 hb hl⟩
theorem StateV.mono (h:StateV w lo hi v s) (e1:lo'≤lo) (e2:hi≤hi'):StateV w lo' hi' v s:=by
 obtain ⟨A1,c1,A2,c2,e,h1,h2⟩:=h;exact ⟨A1,c1,A2,c2,e,h1.mono e1 e2,h2.mono e1 e2⟩
end
def addrB (n:Int):Bool:=decide (1≤n∧n≤8)
def valB (n:Int):Bool:=decide (0≤n∧n≤8)
def cellB (n:Int):Bool:=decide (n = -1) || valB n
def Ste.valid (s:Ste):Bool:=decide (s.values.length=8)&&decide (s.heap.length=8)&&(s.values.all valB&&s.heap.all cellB)
def cont (h:List Int) (a:Int):Int:=if addrB a then (h[(a-1).toNat]?).getD (-1) else -1
def allocB (h:List Int) (a:Int):Bool:=decide (0≤cont h a)
def tval (vs:List Int) (t:Int):Int:=if t=0 then 0 else (vs[(t-1).toNat]?).getD 0
def Fct.holds (vs:List Int) (f:Fct):Bool:=decide (tval vs f.a=tval vs f.b) == f.eq
def factsHold (fs:List Fct) (vs:List Int):Bool:=factsValid fs&&decide (vs.length=8)&&fs.all (Fct.holds vs)
theorem Ste.valid_len {s:Ste} (h:s.valid=true):s.values.length=8∧s.heap.length=8:=by
 simp[Ste.valid] at h;exact h.1
theorem cont_le {h:List Int} (hh:h.all cellB=true) (a:Int) : -1≤cont h a∧cont h a≤8:=by
 unfold cont
 split
 ·cases e:h[(a-1).toNat]? with
  | none=>simp
  | some v=>
   have:=List.all_eq_true.1 hh v (List.mem_of_getElem? e);simp[cellB,valB] at this;simp only[Option.getD_some];omega
 ·omega
theorem tval_le {vs:List Int} (hh:vs.all valB=true) (t:Int):0≤tval vs t∧tval vs t≤8:=by
 unfold tval
 split
 ·omega
 ·cases e:vs[(t-1).toNat]? with
  | none=>simp
  | some v=>
   have:=List.all_eq_true.1 hh v (List.mem_of_getElem? e);simpa[valB] using this
def walkF (h:List Int):Nat→Int→Int→Option (List Int)
 | 0,x,tz0=>if x=tz0 then some [] else none
 | n+1,x,tz0=>if x=tz0 then some [] else if allocB h x then (walkF h n (cont h x) tz0).map (x :: ·) else none
theorem walkF_here (h:List Int) (n:Nat) (x:Int):walkF h n x x=some []:=by cases n<;>simp[walkF]
theorem walkF_stop (h:List Int) (n:Nat) {x tz0:Int} (hne:x≠tz0) (hs:allocB h x=false∨n=0):walkF h n x tz0=none:=by
 cases n with
 | zero=>simp[walkF,hne]
 | succ n=>
  rcases hs with hs|hs
  ·simp[walkF,hne,hs]
  ·cases hs
theorem walkF_on (h:List Int) (n:Nat) {x tz0:Int} (hne:x≠tz0) (hs:allocB h x=true):walkF h (n+1) x tz0=(walkF h n (cont h x) tz0).map (x :: ·):=by simp[walkF,hne,hs]
theorem cont_alloc {h:List Int} {a:Int} (ha:allocB h a=true):addrB a=true∧0≤cont h a:=by
 simp only[allocB,decide_eq_true_eq] at ha;refine ⟨?_,ha⟩;unfold cont at ha
 split at ha
 ·assumption
 ·omega
def addAll:List Int→List Int→Option (List Int)
 | seen,[]=>some seen
 | seen,c :: cs=>if c∈seen then none else addAll (seen++[c]) cs
def atomCells (s:Ste) (x:Atm):Option (List Int):=
 if x.kind=2 then walkF s.heap 8 (tval s.values x.a) (tval s.values x.b) else if cont s.heap (tval s.values x.a)=tval s.values x.b then some [tval s.values x.a] else none
def partAtoms (s:Ste):List Int→List Atm→Option (List Int)
 | seen,[]=>some seen
 | seen,x :: xs=>(atomCells s x).bind fun cs=>(addAll seen cs).bind fun seen'=>partAtoms s seen' xs
def partOf (s:Ste) (a:Asn):Option (List Int):=if s.valid&&a.valid&&factsHold a.facts s.values then partAtoms s [] a.atoms else none
def cellsL (S:Nat) (k:Nat):List Int:=((List.range' 1 k).filter fun n=>S.testBit n).map fun n:Nat=>(n:Int)
theorem walkF_addr (h:List Int):∀ (n:Nat) (x tz0:Int) (cs:List Int),walkF h n x tz0=some cs→cs.length≤n∧∀ c∈cs,addrB c=true∧allocB h c=true:=by
 intro n
 induction n with
 | zero=>intro x tz0 cs hw;simp only[walkF] at hw;split at hw<;>simp_all
 | succ n ih=>
  intro x tz0 cs hw;simp only[walkF] at hw
  split at hw
  ·obtain rfl:=Option.some.inj hw;simp
  ·split at hw
   ·rename_i ha;obtain ⟨ds,hd,rfl⟩:=Option.map_eq_some_iff.1 hw;have:=ih _ _ _ hd;refine ⟨by simp;omega,fun c hc=>?_⟩;rcases List.mem_cons.1 hc with rfl|hc
    ·exact ⟨(cont_alloc ha).1,ha⟩
    ·exact this.2 c hc
   ·cases hw
theorem atomCells_addr {s:Ste} {x:Atm} (hs:s.valid=true) {cs:List Int} (h:atomCells s x=some cs):cs.length≤8∧∀ c∈cs,addrB c=true∧allocB s.heap c=true:=by
 unfold atomCells at h
 split at h
 ·exact walkF_addr _ _ _ _ _ h
 ·split at h
  ·rename_i hc;obtain rfl:=Option.some.inj h;have hv:s.values.all valB=true:=by simp only[Ste.valid,Bool.and_eq_true] at hs;exact hs.2.1
   have:=tval_le hv x.b;have ha:allocB s.heap (tval s.values x.a)=true:=by simp only[allocB,decide_eq_true_eq];omega
   refine ⟨by simp,fun c hcc=>?_⟩;obtain rfl:c=tval s.values x.a:=by simpa using hcc
   exact ⟨(cont_alloc ha).1,ha⟩
  ·cases h
theorem addAll_mem:∀ (cs seen out:List Int),addAll seen cs=some out→out=seen++cs:=by
 intro cs
 induction cs with
 | nil=>intro seen out h;simp only[addAll,Option.some.injEq] at h;simp[h]
 | cons c cs ih=>
  intro seen out h;simp only[addAll] at h
  split at h
  ·cases h
  ·rw[ih _ _ h];simp
end
section
open Go Go.RowKit Go.Proofs
def Und (v:Value) (hi:Nat):Prop:=∀ g,v.ownBlock=some g→g<hi
theorem IntsO.und {w:World} {base:Nat} {v:Value} {xs:List Int} (h:IntsO w base v xs):Und v w.heap.size:=fun g hg=>(h.1.lt g hg).2
theorem FactsO.und {w:World} {base:Nat} {v:Value} {xs:List Fct} (h:FactsO w base v xs):Und v w.heap.size:=fun g hg=>(h.1.lt g hg).2
theorem AtomsO.und {w:World} {base:Nat} {v:Value} {xs:List Atm} (h:AtomsO w base v xs):Und v w.heap.size:=fun g hg=>(h.1.lt g hg).2
theorem Und.mono {v:Value} {a b:Nat} (h:Und v a) (hab:a≤b):Und v b:=fun g hg=>Nat.lt_of_lt_of_le (h g hg) hab
structure Mk (p:Nat→Prop) (w w':World):Prop where
 os:w'.os=w.os
 tape:w'.tape=w.tape
 output:w'.output=w.output
 size:w.heap.size≤w'.heap.size
 block:∀ k,k<w.heap.size→¬p k→w'.heap[k]? = w.heap[k]?
section
variable {p q:Nat→Prop} {w a b:World}
theorem Mk.refl (p:Nat→Prop) (w:World):Mk p w w:=⟨rfl,rfl,rfl,Nat.le_refl _,fun _ _ _=>rfl⟩
theorem Mk.trans (h:Mk p w a) (h2:Mk p a b):Mk p w b:=⟨h2.os.trans h.os,h2.tape.trans h.tape,h2.output.trans h.output,Nat.le_trans h.size h2.size,fun k hk hp=>(h2.block k (Nat.lt_of_lt_of_le hk h.size) hp).trans (h.block k hk hp)⟩
theorem Mk.mono (h:Mk p w a) (hpq:∀ k,p k→q k):Mk q w a:=⟨h.os,h.tape,h.output,h.size,fun k hk hq=>h.block k hk fun hp=>hq (hpq k hp)⟩
theorem Mk.set (h:Mk p w a) {x:Addr} (hx:p x.block) (u:Value):Mk p w (a.setCell x u):=h.trans ⟨rfl,rfl,rfl,by simp,fun k _ hk=>Below.heap_setCell a x u k (fun e=>hk (e▸hx))⟩
theorem Mk.bz {lo:Nat} (h:Mk p w a) (hp:∀ k,p k→lo≤k) (hl:lo≤w.heap.size):Below lo w a:=⟨h.os,h.tape,h.output,h.size,fun k hk=>h.block k (by omega) fun hp'=>by have:=hp k hp';omega⟩
theorem Mk.abv {hi:Nat} (h:Mk p w a) (hp:∀ k,p k→k<hi):Abv hi w a:=⟨h.size,fun k h1 h2=>h.block k h2 fun hp'=>by have:=hp k hp';omega⟩
theorem Mk.blk {g:Nat} {t:TypeId} {cs:Array Value} (h:Mk p w a) (hk:Blk w g t cs) (hg:¬p g):Blk a g t cs:=(h.block g hk.lt hg).trans hk
end
theorem own_mk {p:Nat→Prop} {w w':World} {base:Nat} {e:TypeId} {size:Nat} {v:Value} {n:Nat} {xs:List Value} (h:w.ownsRow base e size v n xs) (hb:Mk p w w') (hp:∀ g,v.ownBlock=some g→¬p g):w'.ownsRow base e size v n xs:=by
 obtain ⟨h1,h2⟩:=h;refine ⟨h1,?_⟩;rcases h2 with h2|⟨g,cap,cur,hv,hg,hh,r⟩
 ·exact Or.inl h2
 ·exact Or.inr ⟨g,cap,cur,hv,hg,(hb.block g (Blk.lt hh) (hp g (by rw[hv];rfl))).trans hh,r⟩
def StateO (w:World) (base:Nat) (v:Value) (s:Ste):Prop:=∃ fv av,v=.agg #[fv,av]∧IntsO w base fv s.values∧IntsO w base av s.heap∧∀ g,fv.ownBlock=some g→av.ownBlock≠some g
theorem StateO.bz {w w':World} {base:Nat} {v:Value} {s:Ste} (h:StateO w base v s) (hb:Below w.heap.size w w'):StateO w' base v s:=by
 obtain ⟨fv,av,e,h1,h2,h3⟩:=h;exact ⟨fv,av,e,h1.bz hb,h2.bz hb,h3⟩
theorem StateO.abv {w w':World} {base lo:Nat} {v:Value} {s:Ste} (h:StateO w base v s) (hb:Abv lo w w') (hl:lo≤base):StateO w' base v s:=by
 obtain ⟨fv,av,e,h1,h2,h3⟩:=h;exact ⟨fv,av,e,h1.abv hb hl,h2.abv hb hl,h3⟩
theorem StateO.bq {w:World} {base base':Nat} {v:Value} {s:Ste} (h:StateO w base v s) (hb:base'≤base):StateO w base' v s:=by
 obtain ⟨fv,av,e,h1,h2,h3⟩:=h;exact ⟨fv,av,e,h1.bq hb,h2.bq hb,h3⟩
theorem StateO.rj {w:World} {base:Nat} {v:Value} {s:Ste} (h:StateO w base v s):StateV w base w.heap.size v s:=by
 obtain ⟨fv,av,e,h1,h2,h3⟩:=h;obtain ⟨A1,c1,rfl,g1⟩:=h1.rj;obtain ⟨A2,c2,rfl,g2⟩:=h2.rj;exact ⟨A1,c1,A2,c2,e,g1,g2⟩
theorem IntsO.mk {p:Nat→Prop} {w w':World} {base:Nat} {v:Value} {xs:List Int} (h:IntsO w base v xs) (hb:Mk p w w') (hp:∀ g,v.ownBlock=some g→¬p g):IntsO w' base v xs:=⟨own_mk h.1 hb hp,h.2⟩
theorem FactsO.mk {p:Nat→Prop} {w w':World} {base:Nat} {v:Value} {xs:List Fct} (h:FactsO w base v xs) (hb:Mk p w w') (hp:∀ g,v.ownBlock=some g→¬p g):FactsO w' base v xs:=⟨own_mk h.1 hb hp,h.2⟩
theorem AtomsO.mk {p:Nat→Prop} {w w':World} {base:Nat} {v:Value} {xs:List Atm} (h:AtomsO w base v xs) (hb:Mk p w w') (hp:∀ g,v.ownBlock=some g→¬p g):AtomsO w' base v xs:=⟨own_mk h.1 hb hp,h.2⟩
end
section
open Go Go.RowKit Go.Proofs
attribute [local go_sem ↓] Go.wp_at_zero Go.wp_at_succ
theorem set_same {α:Type} {L:List α} {i:Nat} {x:α} (h:L[i]? = some x):L.set i x=L:=by
 apply List.ext_getElem?;intro k;rw[List.getElem?_set]
 split
 ·rename_i e;subst e
  split
  ·exact h.symm
  ·rename_i hn;rw[List.getElem?_eq_none (by omega)] at h;cases h
 ·rfl
theorem flat3_set {α:Type} (f0 f1 f2:α→Value):∀ (L:List α) (j:Nat) (x:α),j<L.length→((L.set j x).flatMap fun x=>[f0 x,f1 x,f2 x])=(((L.flatMap fun x=>[f0 x,f1 x,f2 x]).set (j*3) (f0 x)).set (j*3+1) (f1 x)).set (j*3+2) (f2 x):=by
 intro L
 induction L with
 | nil=>intro j x h;simp at h
 | cons g L ih=>
  intro j x h
  cases j with
  | zero=>simp
  | succ j=>
   have e:=ih j x (by simpa using h);rw[List.set_cons_succ,List.flatMap_cons,e,List.flatMap_cons,show (j+1)*3=j*3+1+1+1 from by omega,show j*3+1+1+1+1=(j*3+1)+1+1+1 from by omega,show j*3+1+1+1+2=(j*3+2)+1+1+1 from by omega];simp only[List.cons_append,List.nil_append,List.set_cons_succ]
theorem Pre.setL {cs:Array Value} {L:List Value} {m:Nat} (h:Pre cs L m) (i:Nat) (u:Value) (hs:m≤cs.size) (hl:m≤L.length):Pre (cs.setIfInBounds i u) (L.set i u) m:=by
 intro j hj;by_cases e:i=j
 ·subst e;rw[Array.getElem?_setIfInBounds_self,if_pos (by omega),List.getElem?_set_self (by omega)]
 ·rw[Array.getElem?_setIfInBounds_ne e,List.getElem?_set_ne e];exact h j hj
theorem FactsO.open_ {w:World} {base:Nat} {A:Option Addr} {n c k:Nat} {fs:List Fct} (h:FactsO w base (.slice A n c) fs) (hk:k<fs.length):∃ g cur,n=fs.length∧A=some ⟨g,0,none⟩∧base≤g∧Blk w g tF cur∧fs.length * 3≤cur.size∧cur[k*3]? = some (.bool fs[k].eq)∧cur[k*3+1]? = some (.int .i64 fs[k].a)∧cur[k*3+2]? = some (.int .i64 fs[k].b)∧
  (∀ (i:Nat) (u:Value) (gs:List Fct),encF gs=(encF fs).set i u→gs.length=fs.length→FactsO (w.setCell ⟨g,i,none⟩ u) base (.slice A n c) gs):=by
 obtain ⟨⟨hl,h2⟩,hL⟩:=h;rcases h2 with ⟨e,hn⟩|⟨g,cap,cur,e,hb,hh,hn,hm,hs,ht⟩
 ·omega
 ·injection e with e1 e2 e3;subst e1 e2 e3;have hK:Blk w g tF cur:=hh
  have hP:Pre cur (encF fs) (fs.length * 3):=by
   intro j hj;rw[←ht,List.getElem?_take,if_pos hj];simp
  obtain ⟨t0,t1,t2⟩:=flat3 (fun f:Fct=>.bool f.eq) (fun f=>.int .i64 f.a) (fun f=>.int .i64 f.b) fs k hk;refine ⟨g,cur,rfl,rfl,hb,hK,by rw[hs];exact Nat.mul_le_mul hn (Nat.le_refl _),(hP _ (by omega)).trans t0,(hP _ (by omega)).trans t1,(hP _ (by omega)).trans t2,?_⟩;intro i u gs he hg;refine ⟨?_,by rw[hg];exact hL⟩;rw[he,hg];exact own_of_blk (hK.set_ i u) hb (by rw[List.length_set,hl]) (hP.setL i u (by rw[hs];exact Nat.mul_le_mul hn (Nat.le_refl _)) (by rw[hl];exact Nat.le_refl _)) hn hm (by simpa using hs)
theorem AtomsO.open_ {w:World} {base:Nat} {A:Option Addr} {n c k:Nat} {fs:List Atm} (h:AtomsO w base (.slice A n c) fs) (hk:k<fs.length):∃ g cur,n=fs.length∧A=some ⟨g,0,none⟩∧base≤g∧Blk w g tA cur∧fs.length * 3≤cur.size∧cur[k*3]? = some (.int .i64 fs[k].kind)∧cur[k*3+1]? = some (.int .i64 fs[k].a)∧cur[k*3+2]? = some (.int .i64 fs[k].b)∧
  (∀ (i:Nat) (u:Value) (gs:List Atm),encA gs=(encA fs).set i u→gs.length=fs.length→AtomsO (w.setCell ⟨g,i,none⟩ u) base (.slice A n c) gs):=by
 obtain ⟨⟨hl,h2⟩,hL⟩:=h;rcases h2 with ⟨e,hn⟩|⟨g,cap,cur,e,hb,hh,hn,hm,hs,ht⟩
 ·omega
 ·injection e with e1 e2 e3;subst e1 e2 e3;have hK:Blk w g tA cur:=hh
  have hP:Pre cur (encA fs) (fs.length * 3):=by
   intro j hj;rw[←ht,List.getElem?_take,if_pos hj];simp
  obtain ⟨t0,t1,t2⟩:=flat3 (fun f:Atm=>.int .i64 f.kind) (fun f=>.int .i64 f.a) (fun f=>.int .i64 f.b) fs k hk;refine ⟨g,cur,rfl,rfl,hb,hK,by rw[hs];exact Nat.mul_le_mul hn (Nat.le_refl _),(hP _ (by omega)).trans t0,(hP _ (by omega)).trans t1,(hP _ (by omega)).trans t2,?_⟩;intro i u gs he hg;refine ⟨?_,by rw[hg];exact hL⟩;rw[he,hg];exact own_of_blk (hK.set_ i u) hb (by rw[List.length_set,hl]) (hP.setL i u (by rw[hs];exact Nat.mul_le_mul hn (Nat.le_refl _)) (by rw[hl];exact Nat.le_refl _)) hn hm (by simpa using hs)
theorem FactsV.one {w:World} {g:Nat} {f:Fct} (h:Blk w g tF #[.bool f.eq,.int .i64 f.a,.int .i64 f.b]):FactsV w g (g+1) (some ⟨g,0,none⟩) [f]:=
 ⟨⟨by simp,fun _=>⟨g,0,rfl,Nat.le_refl _,Nat.lt_succ_self _,fun j u hu=>by rw[Nat.zero_add,h.cell];simpa using hu⟩⟩,by simp[Lim]⟩
theorem AtomsV.one {w:World} {g:Nat} {f:Atm} (h:Blk w g tA #[.int .i64 f.kind,.int .i64 f.a,.int .i64 f.b]):AtomsV w g (g+1) (some ⟨g,0,none⟩) [f]:=
 ⟨⟨by simp,fun _=>⟨g,0,rfl,Nat.le_refl _,Nat.lt_succ_self _,fun j u hu=>by rw[Nat.zero_add,h.cell];simpa using hu⟩⟩,by simp[Lim]⟩
theorem FactsV.cl {w:World} {lo hi b o k:Nat} {fs:List Fct} (h:FactsV w lo hi (some ⟨b,o,none⟩) fs) (hk:k<fs.length):w.cell? ⟨b,o+k*3,none⟩=some (.bool fs[k].eq)∧w.cell? ⟨b,o+k*3+1,none⟩=some (.int .i64 fs[k].a)∧w.cell? ⟨b,o+k*3+2,none⟩=some (.int .i64 fs[k].b):=by
 obtain ⟨b',o',e,hc⟩:=h.at hk;simp only[Option.some.injEq,Addr.mk.injEq,and_true] at e;obtain ⟨rfl,rfl⟩:=e;exact hc
theorem AtomsV.cl {w:World} {lo hi b o k:Nat} {fs:List Atm} (h:AtomsV w lo hi (some ⟨b,o,none⟩) fs) (hk:k<fs.length):w.cell? ⟨b,o+k*3,none⟩=some (.int .i64 fs[k].kind)∧w.cell? ⟨b,o+k*3+1,none⟩=some (.int .i64 fs[k].a)∧w.cell? ⟨b,o+k*3+2,none⟩=some (.int .i64 fs[k].b):=by
 obtain ⟨b',o',e,hc⟩:=h.at hk;simp only[Option.some.injEq,Addr.mk.injEq,and_true] at e;obtain ⟨rfl,rfl⟩:=e;exact hc
theorem FactsV.blt {w:World} {lo hi k:Nat} {A:Option Addr} {fs:List Fct} (h:FactsV w lo hi A fs) (hk:k<fs.length):∃ b o,A=some ⟨b,o,none⟩∧b<w.heap.size:=by
 obtain ⟨b,o,e,hc,-⟩:=h.at hk;exact ⟨b,o,e,block_lt_of_cell hc⟩
theorem AtomsV.blt {w:World} {lo hi k:Nat} {A:Option Addr} {fs:List Atm} (h:AtomsV w lo hi A fs) (hk:k<fs.length):∃ b o,A=some ⟨b,o,none⟩∧b<w.heap.size:=by
 obtain ⟨b,o,e,hc,-⟩:=h.at hk;exact ⟨b,o,e,block_lt_of_cell hc⟩
theorem IntsV.blt {w:World} {lo hi k:Nat} {A:Option Addr} {fs:List Int} (h:IntsV w lo hi A fs) (hk:k<fs.length):∃ b o,A=some ⟨b,o,none⟩∧b<w.heap.size:=by
 obtain ⟨b,o,e,hc⟩:=h.at hk;exact ⟨b,o,e,block_lt_of_cell hc⟩
theorem BoolsV.blt {w:World} {lo hi k:Nat} {A:Option Addr} {fs:List Bool} (h:BoolsV w lo hi A fs) (hk:k<fs.length):∃ b o,A=some ⟨b,o,none⟩∧b<w.heap.size:=by
 obtain ⟨b,o,e,hc⟩:=h.at hk;exact ⟨b,o,e,block_lt_of_cell hc⟩
theorem own_ofBlk {w:World} {g base size:Nat} {t:TypeId} (h:Blk w g t #[]) (hb:base≤g):w.ownsRow base t size (.slice (some ⟨g,0,none⟩) 0 0) 0 []:=⟨by simp,.inr ⟨g,0,#[],rfl,hb,h,Nat.le_refl _,by decide,by simp,by simp⟩⟩
theorem FactsO.ofBlk {w:World} {g base:Nat} (h:Blk w g tF #[]) (hb:base≤g):FactsO w base (.slice (some ⟨g,0,none⟩) 0 0) []:=⟨own_ofBlk h hb,by simp[Lim]⟩
theorem AtomsO.ofBlk {w:World} {g base:Nat} (h:Blk w g tA #[]) (hb:base≤g):AtomsO w base (.slice (some ⟨g,0,none⟩) 0 0) []:=⟨own_ofBlk h hb,by simp[Lim]⟩
theorem IntsO.ofBlk {w:World} {g base:Nat} (h:Blk w g tI #[]) (hb:base≤g):IntsO w base (.slice (some ⟨g,0,none⟩) 0 0) []:=⟨own_ofBlk h hb,by simp[Lim]⟩
theorem Blk.zm {w w':World} {g base size n:Nat} {t e:TypeId} {cs:Array Value} {v:Value} {xs:List Value} (h:Blk w g t cs) (ho:w.ownsRow base e size v n xs) (hg:w.grownBy w' v.ownBlock) (ht:t≠e):Blk w' g t cs:=by
 refine h.grown hg ?_;intro he;rcases ho.2 with ⟨rfl,_⟩|⟨k,cap,cur,rfl,_,hh,_⟩
 ·simp[Value.ownBlock] at he
 ·simp only[Value.ownBlock,Option.some.injEq] at he;exact Blk.ne_ h hh ht he
theorem own_grownO {w w':World} {base base' size size' n n':Nat} {e e':TypeId} {v v':Value} {xs xs':List Value} (h:w.ownsRow base' e' size' v' n' xs') (ho:w.ownsRow base e size v n xs) (hg:w.grownBy w' v.ownBlock) (ht:e'≠e):w'.ownsRow base' e' size' v' n' xs':=by
 obtain ⟨h1,h2⟩:=h;refine ⟨h1,?_⟩;rcases h2 with h2|⟨k,cap,cur,hv,hk,hh,r⟩
 ·exact Or.inl h2
 ·exact Or.inr ⟨k,cap,cur,hv,hk,Blk.zm hh ho hg ht,r⟩
theorem FactsO.grownA {w w':World} {b b':Nat} {v v':Value} {xs:List Fct} {ys:List Atm} (h:FactsO w b v xs) (ho:AtomsO w b' v' ys) (hg:w.grownBy w' v'.ownBlock):FactsO w' b v xs:=⟨own_grownO h.1 ho.1 hg (by decide),h.2⟩
theorem AtomsO.grownF {w w':World} {b b':Nat} {v v':Value} {xs:List Atm} {ys:List Fct} (h:AtomsO w b v xs) (ho:FactsO w b' v' ys) (hg:w.grownBy w' v'.ownBlock):AtomsO w' b v xs:=⟨own_grownO h.1 ho.1 hg (by decide),h.2⟩
theorem Rd.keepB {w w':World} {lo hi size n B:Nat} {A:Option Addr} {xs:List Value} (h:Rd w lo hi size A n xs) (hb:Below B w w') (hh:hi≤B):Rd w' lo hi size A n xs:=h.keep fun b _ h2=>hb.block b (by omega)
theorem FactsV.keepB {w w':World} {lo hi B:Nat} {A:Option Addr} {xs:List Fct} (h:FactsV w lo hi A xs) (hb:Below B w w') (hh:hi≤B):FactsV w' lo hi A xs:=Rd.keepB h hb hh
theorem AtomsV.keepB {w w':World} {lo hi B:Nat} {A:Option Addr} {xs:List Atm} (h:AtomsV w lo hi A xs) (hb:Below B w w') (hh:hi≤B):AtomsV w' lo hi A xs:=Rd.keepB h hb hh
theorem IntsV.keepB {w w':World} {lo hi B:Nat} {A:Option Addr} {xs:List Int} (h:IntsV w lo hi A xs) (hb:Below B w w') (hh:hi≤B):IntsV w' lo hi A xs:=Rd.keepB h hb hh
theorem BoolsV.keepB {w w':World} {lo hi B:Nat} {A:Option Addr} {xs:List Bool} (h:BoolsV w lo hi A xs) (hb:Below B w w') (hh:hi≤B):BoolsV w' lo hi A xs:=Rd.keepB h hb hh
theorem c_spec_l3Star {lo hi lo' hi':Nat} (v v':Value) (a b:Asn) (w:World) (h:AsnV w lo hi v a) (h':AsnV w lo' hi' v' b) (hn1:a.facts.length+b.facts.length≤1049600) (hn2:a.atoms.length+b.atoms.length≤1049600) :
  Calls Tryz.prog 110 #[v,v'] w fun e w'=>∃ r,e=.returned r∧AsnO w' w.heap.size r (starA a b)∧Below w.heap.size w w':=by
 obtain ⟨A1,c1,A2,c2,rfl,h1,h2⟩:=h;obtain ⟨A3,c3,A4,c4,rfl,h3,h4⟩:=h';(go_enter Tryz.func110,Tryz.ntmps110);have kk:=blk3 w 37 37 37 #[.slice A1 a.facts.length c1,.slice A2 a.atoms.length c2] #[.slice A3 b.facts.length c3,.slice A4 b.atoms.length c4] #[.slice none 0 0,.slice none 0 0];have hB:Below w.heap.size w (((w.alloc (.cells #[.slice A1 a.facts.length c1,.slice A2 a.atoms.length c2] 37)).alloc (.cells #[.slice A3 b.facts.length c3,.slice A4 b.atoms.length c4] 37)).alloc (.cells #[.slice none 0 0,.slice none 0 0] 37)):=bel;obtain ⟨k0,k1,k2⟩:=kk;(go_wp2_with fail);have hz:=k2.lt;generalize (((w.alloc (.cells #[.slice A1 a.facts.length c1,.slice A2 a.atoms.length c2] 37)).alloc (.cells #[.slice A3 b.facts.length c3,.slice A4 b.atoms.length c4] 37)).alloc (.cells #[.slice none 0 0,.slice none 0 0] 37))=W at k0 k1 k2 hB hz ⊢;have tok3:True:=trivial;have tok6:True:=trivial;have tok10:True:=trivial;have tok13:True:=trivial
 go_region_held3 (fun w'=>(∀ i,w'.cell? ⟨w.heap.size,i,none⟩=#[.slice A1 a.facts.length c1,.slice A2 a.atoms.length c2][i]?)∧(∀ i,w'.cell? ⟨w.heap.size+1,i,none⟩=#[.slice A3 b.facts.length c3,.slice A4 b.atoms.length c4][i]?))
  (exact ⟨Blk.cell blks,Blk.cell blks⟩)
  (first
   | (have _t:=tok3;clear _t tok3;refine stepFL (xs:=[]) rfl _ _ rfl rfl (FactsO.ofBlk (base:=w.heap.size) blks (by first|omega|(simp;omega))) rfl (h1.bz bel) (by first|omega|(simp;omega)) (by first|omega|(simp;omega)) ?_;intro F1 e1 w1 hO1 hg1 hB1;have hBw1:Below w.heap.size w w1:=Below.trans bel hB1;simp only[List.nil_append] at hO1;have m10:=Blk.zm (g:=w.heap.size) (hg:=hg1) blks (FactsO.ofBlk (base:=w.heap.size) blks (by first|omega|(simp;omega))).1 (by decide);have m11:=Blk.zm (g:=w.heap.size+1) (hg:=hg1) blks (FactsO.ofBlk (base:=w.heap.size) blks (by first|omega|(simp;omega))).1 (by decide);have m12:=Blk.zm (g:=w.heap.size+1+1) (hg:=hg1) blks (FactsO.ofBlk (base:=w.heap.size) blks (by first|omega|(simp;omega))).1 (by decide);have lt1:=m12.lt;(try (have za:Blk w1 (W.heap.size+1) tA #[]:=?zz;case zz=>(refine Blk.zm (hg:=hg1) ?_ (FactsO.ofBlk (base:=w.heap.size) blks (by first|omega|(simp;omega))).1 (by decide);(repeat (first|(with_reducible assumption)|(with_reducible exact Blk.new _ _ _)|((with_reducible apply Blk.far);(case hp=>(first|exact Nat.le_refl _|(simp;done)|(simp;omega)|(simp only;omega)|omega)))|(with_reducible apply Blk.set_)|((with_reducible refine Blk.newE ?_);(simp;done))|(with_reducible apply Blk.alloc)|(with_reducible apply Blk.drew)|(with_reducible apply Blk.drewN)));done)));(try (have za:Blk w1 W.heap.size tA #[]:=?zz;case zz=>(refine Blk.zm (hg:=hg1) ?_ (FactsO.ofBlk (base:=w.heap.size) blks (by first|omega|(simp;omega))).1 (by decide);(repeat (first|(with_reducible assumption)|(with_reducible exact Blk.new _ _ _)|((with_reducible apply Blk.far);(case hp=>(first|exact Nat.le_refl _|(simp;done)|(simp;omega)|(simp only;omega)|omega)))|(with_reducible apply Blk.set_)|((with_reducible refine Blk.newE ?_);(simp;done))|(with_reducible apply Blk.alloc)|(with_reducible apply Blk.drew)|(with_reducible apply Blk.drewN)));done))))
   | (have _t:=tok6;clear _t tok6;refine stepFL (xs:=a.facts) rfl _ _ rfl rfl (FactsO.bz (w:=w1) hO1 bel) rfl (h3.bz bel) (by first|omega|(simp;omega)) (by first|omega|(simp;omega)) ?_;intro F2 e2 w2 hO2 hg2 hB2;have hBw2:Below w.heap.size w w2:=Below.trans bel hB2;have m20:=Blk.zm (g:=w.heap.size) (hg:=hg2) blks (FactsO.bz (w:=w1) hO1 bel).1 (by decide);have m21:=Blk.zm (g:=w.heap.size+1) (hg:=hg2) blks (FactsO.bz (w:=w1) hO1 bel).1 (by decide);have m22:=Blk.zm (g:=w.heap.size+1+1) (hg:=hg2) blks (FactsO.bz (w:=w1) hO1 bel).1 (by decide);have lt2:=m22.lt;(try (have zb:Blk w2 w1.heap.size tA #[]:=?zz;case zz=>(refine Blk.zm (hg:=hg2) ?_ (FactsO.bz (w:=w1) hO1 bel).1 (by decide);(repeat (first|(with_reducible assumption)|(with_reducible exact Blk.new _ _ _)|((with_reducible apply Blk.far);(case hp=>(first|exact Nat.le_refl _|(simp;done)|(simp;omega)|(simp only;omega)|omega)))|(with_reducible apply Blk.set_)|((with_reducible refine Blk.newE ?_);(simp;done))|(with_reducible apply Blk.alloc)|(with_reducible apply Blk.drew)|(with_reducible apply Blk.drewN)));done)));(try (have zb:=Blk.zm (hg:=hg2) (Blk.nz za bel) (FactsO.bz (w:=w1) hO1 bel).1 (by decide))))
   | (have _t:=tok10;clear _t tok10;refine stepAL (xs:=[]) rfl _ _ rfl rfl (AtomsO.ofBlk (base:=w.heap.size) blks (by first|omega|(simp;omega))) rfl (h2.bz bel) (by first|omega|(simp;omega)) (by first|omega|(simp;omega)) ?_;intro F3 e3 w3 hO3 hg3 hB3;have hBw3:Below w.heap.size w w3:=Below.trans bel hB3;simp only[List.nil_append] at hO3;have m30:=Blk.zm (g:=w.heap.size) (hg:=hg3) blks (AtomsO.ofBlk (base:=w.heap.size) blks (by first|omega|(simp;omega))).1 (by decide);have m31:=Blk.zm (g:=w.heap.size+1) (hg:=hg3) blks (AtomsO.ofBlk (base:=w.heap.size) blks (by first|omega|(simp;omega))).1 (by decide);have m32:=Blk.zm (g:=w.heap.size+1+1) (hg:=hg3) blks (AtomsO.ofBlk (base:=w.heap.size) blks (by first|omega|(simp;omega))).1 (by decide);have lt3:=m32.lt;have hP3:=FactsO.grownA (FactsO.bz (w:=w2) hO2 bel) (AtomsO.ofBlk (base:=w.heap.size) blks (by first|omega|(simp;omega))) hg3)
   | (have _t:=tok13;clear _t tok13;refine stepAL (xs:=a.atoms) rfl _ _ rfl rfl (AtomsO.bz (w:=w3) hO3 bel) rfl (h4.bz bel) (by first|omega|(simp;omega)) (by first|omega|(simp;omega)) ?_;intro F4 e4 w4 hO4 hg4 hB4;have hBw4:Below w.heap.size w w4:=Below.trans bel hB4;have m40:=Blk.zm (g:=w.heap.size) (hg:=hg4) blks (AtomsO.bz (w:=w3) hO3 bel).1 (by decide);have m41:=Blk.zm (g:=w.heap.size+1) (hg:=hg4) blks (AtomsO.bz (w:=w3) hO3 bel).1 (by decide);have m42:=Blk.zm (g:=w.heap.size+1+1) (hg:=hg4) blks (AtomsO.bz (w:=w3) hO3 bel).1 (by decide);have lt4:=m42.lt;have hP4:=FactsO.grownA (FactsO.bz (w:=w3) hP3 bel) (AtomsO.bz (w:=w3) hO3 bel) hg4;have c42:=m42.cell;have f42:=m42.frozen))
 all_goals
  (go_wp2_with fail);refine bodyPost_ret (v:=.agg #[.slice F2 (a.facts++b.facts).length e2,.slice F4 (a.atoms++b.atoms).length e4]) (by simp[results,Tryz.results110,go_sem,c42]) rfl ⟨_,rfl,⟨_,_,rfl,?_,?_⟩,bel⟩
  ·exact (hP4.setT m42 (by decide) _ _).setT (m42.set_ _ _) (by decide) _ _
  ·exact (hO4.setT m42 (by decide) _ _).setT (m42.set_ _ _) (by decide) _ _
end
section
open Go Go.RowKit Go.Proofs
theorem FactsV.oneB {w:World} {g:Nat} {e:Bool} {x y:Int} (h:Blk w g tF #[.bool e,.int .i64 x,.int .i64 y]):FactsV w g (g+1) (some ⟨g,0,none⟩) [⟨e,x,y⟩]:=FactsV.one (f:=⟨e,x,y⟩) h
theorem AtomsV.oneB {w:World} {g:Nat} {e:Int} {x y:Int} (h:Blk w g tA #[.int .i64 e,.int .i64 x,.int .i64 y]):AtomsV w g (g+1) (some ⟨g,0,none⟩) [⟨e,x,y⟩]:=AtomsV.one (f:=⟨e,x,y⟩) h
theorem c_l3Draw (g p:Nat) (w:World) (h:Rdr w g p) (hp:p≤999900) :
  Calls Tryz.prog 228 #[.pointer (some ⟨g,0,none⟩)] w fun e w'=>∃ r a q,e=.returned r∧AsnO w' w.heap.size r a∧a.valid=true∧a.facts.length≤2∧a.atoms.length≤4∧Rdr w' g q∧q≤p+30∧Fr g w w':=by
 have H:=ax h;have hlt:=h.lt;clear h;(go_enter Tryz.func228,Tryz.ntmps228);have kr:Blk ((w.alloc (.cells #[.slice none 0 0,.slice none 0 0] 37)).alloc (.cells #[.slice none 0 0,.slice none 0 0] 37)) w.heap.size 37 #[.slice none 0 0,.slice none 0 0]:=blks;have ka:Blk ((w.alloc (.cells #[.slice none 0 0,.slice none 0 0] 37)).alloc (.cells #[.slice none 0 0,.slice none 0 0] 37)) (w.heap.size+1) 37 #[.slice none 0 0,.slice none 0 0]:=blks;have HF0:aJ (Fr g w ((w.alloc (.cells #[.slice none 0 0,.slice none 0 0] 37)).alloc (.cells #[.slice none 0 0,.slice none 0 0] 37))):=((Fr.refl g w).alloc _).alloc _;(go_wp2_with fail);refine (c_numL g p [1,0,2,0] _ _ _ _ (H.o.bz bel) (by omega) blks (by rfl) (by first|omega|(simp;omega)) (by rfl) (by decide) (by decide)).mono ?_;rintro e w1 ⟨m,hm,rfl,hR,hF⟩;replace kr:=(kr.alloc _).fr hF (by omega);replace ka:=(ka.alloc _).fr hF (by omega);have HF1:aJ (Fr g w w1):=(HF0.o.alloc _).trans hF;obtain ⟨k0,rfl⟩:=Int.eq_ofNat_of_zero_le ((by decide:∀ m∈[(1:Int),0,2,0],0≤m) m hm);have hk2:k0≤2:=by have:=(by decide:∀ m∈[(1:Int),0,2,0],m≤2) _ hm;omega
 have HR1:=ax hR;clear hm hR hF HF0 H;(go_wp2_with fail)
 go_loopw [4] (fun i wr=>∃ (k:Nat) (fs:List Fct) (A:Option Addr) (c q:Nat),i=.int .i64 k∧k+fs.length≤2∧FactsO wr w.heap.size (.slice A fs.length c) fs∧aJ (∀ f∈fs,f.valid=true)∧Blk wr w.heap.size 37 #[.slice none 0 0,.slice none 0 0]∧Blk wr (w.heap.size+1) 37 #[.slice A fs.length c,.slice none 0 0]∧Rdr wr g q∧q+3 * k≤p+7∧aJ (Fr g w wr)) (fun i _=>(intOf i).toNat)
 case atStart=>exact ⟨k0,[],none,0,p+1,rfl,by simpa using hk2,FactsO.nil _ _,(fun f hf=>by cases hf),kr,ka,HR1.o,by omega,HF1⟩
 case round=>
  clear kr ka HF1 HR1 hk2;obtain ⟨k,fs,A,c,q,rfl,hkx,hO,HV,kr,ka,hR,hq,HF⟩:=hrel;have HO:=ax hO;have HRR:=ax hR;have hsz:=HF.o.size;have lr:=kr.lt;have la:=ka.lt;clear hO hR;by_cases hk:0<k
  ·have hki:(0:Int)<(k:Int):=by omega
   (go_wp2_with fail);refine wp_region_noPanic ?_;refine wp_region_last' (S:=(fun w'=>∀ i,w'.cell? ⟨w.heap.size+1,i,none⟩=#[.slice A fs.length c,.slice none 0 0][i]?)) (by simp) (by kernel_rfl) (by kernel_rfl) (Blk.cell blks) (fun aH=>?_);simp only[List.dropLast,List.getLast,nopOf,List.cons_append,List.nil_append,List.length_cons,List.length_nil,Nat.zero_add,Nat.reduceAdd];refine tk2 0 rfl aH (h:=tk2 1 rfl aH (h:=tk2 2 rfl aH (h:=?_)));(try simp only[zz]);refine tk2 5 rfl aH (h:=tk2 8 rfl aH (h:=?_));(try simp only[zz])
   refine wpAnyH_par [3,4,6,7,9,10] #[true,true,true,true,true,true,true,true,true,true,true,false,false,false,false,false] 6 (by kernel_rfl) aH
    (fun a0 D a w'=>Fr g wr w'∧(∃ q',Rdr w' g q'∧q'≤q+(dn D 3).toNat+(dn D 7).toNat+(dn D 10).toNat)∧∃ v17 v18 v20 v21 v23 v24,a=((((((a0.put (some 17) v17).put (some 18) v18).put (some 20) v20).put (some 21) v21).put (some 23) v23).put (some 24) v24)∧
     (dn D 3=true→∃ m:Nat,v17=.int .i64 (m:Int))∧
     (dn D 4=true→∃ b,v18=.bool b)∧
     (dn D 6=true→∃ x,v20=.slice (some ⟨x,0,none⟩) 4 4∧g<x∧Blk w' x tI #[.int .i64 1,.int .i64 2,.int .i64 3,.int .i64 5])∧
     (dn D 7=true→∃ m,m∈[(1:Int),2,3,5]∧v21=.int .i64 m)∧
     (dn D 9=true→∃ x,v23=.slice (some ⟨x,0,none⟩) 5 5∧g<x∧Blk w' x tI #[.int .i64 0,.int .i64 2,.int .i64 3,.int .i64 1,.int .i64 6])∧
     (dn D 10=true→∃ m,m∈[(0:Int),2,3,1,6]∧v24=.int .i64 m)) ?start ?steps ?fin
   case start=>
    refine ⟨(Fr.refl g wr).drew,⟨q,HRR.o.bz bel,by omega⟩,u17,u18,u20,u21,u23,u24,rfl,?_,?_,?_,?_,?_,?_⟩
    all_goals exact fun h=>absurd h (by decide)
   case steps=>
    refine ParSteps.cons rfl (fun D a w' hu hd hI hS K' hK G hG=>?_) (ParSteps.cons rfl (fun D a w' hu hd hI hS K' hK G hG=>?_) (ParSteps.cons rfl (fun D a w' hu hd hI hS K' hK G hG=>?_) (ParSteps.cons rfl (fun D a w' hu hd hI hS K' hK G hG=>?_) (ParSteps.cons rfl (fun D a w' hu hd hI hS K' hK G hG=>?_) (ParSteps.cons rfl (fun D a w' hu hd hI hS K' hK G hG=>?_) (ParSteps.nil))))))
    ·obtain ⟨hF,⟨q',hR,hq'⟩,v17,v18,v20,v21,v23,v24,ha,h3,h4,h6,h7,h9,h10⟩:=hI;rw[ha] at hG;clear ha a;replace hq':=ax hq';replace hR:=ax hR;replace hF:=ax hF;replace hS:=ax hS;replace h3:=ax h3;replace h4:=ax h4;replace h6:=ax h6;replace h7:=ax h7;replace h9:=ax h9;replace h10:=ax h10;refine hG ?_;clear hG;(try simp only[zz]);go_simp;refine (c_pick g q' 3 _ hR.o (by have:=hq'.o;have:=Bool.toNat_le (dn D 3);have:=Bool.toNat_le (dn D 7);have:=Bool.toNat_le (dn D 10);omega)).mono ?_;rintro e w2 ⟨m,rfl,-,hR2,hF2⟩;have hF3:=hF.o.trans hF2;exact hK.out _ _ (fun i=>(ka.fr hF3 (by omega)).cell i) ⟨hF3,⟨q'+1,hR2,(by have z:=hq'.o;rw[dn_un hu] at z;rw[dn_self hu,dn_ne (show 3≠7 by decide),dn_ne (show 3≠10 by decide)];simp only[Bool.toNat_true,Bool.toNat_false] at z ⊢;omega)⟩,(.int .i64 (m:Int)),v18,v20,v21,v23,v24,rfl,fun _=>⟨m,rfl⟩,dn_keep (by decide) h4.o id,dn_keep (by decide) h6.o (fun ⟨x,e,hx,hb⟩=>⟨x,e,hx,hb.fr hF2 (by omega)⟩),dn_keep (by decide) h7.o id,dn_keep (by decide) h9.o (fun ⟨x,e,hx,hb⟩=>⟨x,e,hx,hb.fr hF2 (by omega)⟩),dn_keep (by decide) h10.o id⟩
    ·obtain ⟨hF,⟨q',hR,hq'⟩,v17,v18,v20,v21,v23,v24,ha,h3,h4,h6,h7,h9,h10⟩:=hI;rw[ha] at hG;clear ha a;replace hq':=ax hq';replace hR:=ax hR;replace hF:=ax hF;replace hS:=ax hS;replace h3:=ax h3;replace h4:=ax h4;replace h6:=ax h6;replace h7:=ax h7;replace h9:=ax h9;replace h10:=ax h10;have d3:dn D 3=true:=hd ⟨3,.data⟩ (by simp) (by decide);obtain ⟨m,rfl⟩:=h3.o d3;clear h3 hd;refine hG ?_;clear hG;(try simp only[zz]);go_simp;exact hK.out _ _ hS.o ⟨hF.o,⟨q',hR.o,(by rw[dn_ne (show 4≠3 by decide),dn_ne (show 4≠7 by decide),dn_ne (show 4≠10 by decide)];exact hq'.o)⟩,(.int .i64 (m:Int)),(.bool ((m:Int) == 0)),v20,v21,v23,v24,rfl,fun _=>⟨m,rfl⟩,fun _=>⟨_,rfl⟩,dn_keep (by decide) h6.o id,dn_keep (by decide) h7.o id,dn_keep (by decide) h9.o id,dn_keep (by decide) h10.o id⟩
    ·obtain ⟨hF,⟨q',hR,hq'⟩,v17,v18,v20,v21,v23,v24,ha,h3,h4,h6,h7,h9,h10⟩:=hI;rw[ha] at hG;clear ha a;replace hq':=ax hq';replace hR:=ax hR;replace hF:=ax hF;replace hS:=ax hS;replace h3:=ax h3;replace h4:=ax h4;replace h6:=ax h6;replace h7:=ax h7;replace h9:=ax h9;replace h10:=ax h10;refine hG ?_;clear hG;(try simp only[zz]);go_simp;have hF3:=hF.o.alloc (.cells #[.int .i64 1,.int .i64 2,.int .i64 3,.int .i64 5] tI);exact hK.out _ _ (fun i=>(ka.fr hF3 (by omega)).cell i) ⟨hF3,⟨q',hR.o.bz bel,(by rw[dn_ne (show 6≠3 by decide),dn_ne (show 6≠7 by decide),dn_ne (show 6≠10 by decide)];exact hq'.o)⟩,v17,v18,(.slice (some ⟨w'.heap.size,0,none⟩) 4 4),v21,v23,v24,rfl,dn_keep (by decide) h3.o id,dn_keep (by decide) h4.o id,fun _=>⟨w'.heap.size,rfl,hR.o.lt,Blk.new _ _ _⟩,dn_keep (by decide) h7.o id,dn_keep (by decide) h9.o (fun ⟨x,e,hx,hb⟩=>⟨x,e,hx,hb.alloc _⟩),dn_keep (by decide) h10.o id⟩
    ·obtain ⟨hF,⟨q',hR,hq'⟩,v17,v18,v20,v21,v23,v24,ha,h3,h4,h6,h7,h9,h10⟩:=hI;rw[ha] at hG;clear ha a;replace hq':=ax hq';replace hR:=ax hR;replace hF:=ax hF;replace hS:=ax hS;replace h3:=ax h3;replace h4:=ax h4;replace h6:=ax h6;replace h7:=ax h7;replace h9:=ax h9;replace h10:=ax h10;have d6:dn D 6=true:=hd ⟨6,.data⟩ (by simp) (by decide);obtain ⟨x,rfl,hx,hb⟩:=h6.o d6;clear h6 hd;refine hG ?_;clear hG;(try simp only[zz]);go_simp;refine (c_numL g q' [(1:Int),2,3,5] x 4 _ _ hR.o (by have:=hq'.o;have:=Bool.toNat_le (dn D 3);have:=Bool.toNat_le (dn D 7);have:=Bool.toNat_le (dn D 10);omega) hb (by rfl) hx (by rfl) (by decide) (by decide)).mono ?_;rintro e w2 ⟨m,hm,rfl,hR2,hF2⟩;have hF3:=hF.o.trans hF2;exact hK.out _ _ (fun i=>(ka.fr hF3 (by omega)).cell i) ⟨hF3,⟨q'+1,hR2,(by have z:=hq'.o;rw[dn_un hu] at z;rw[dn_self hu,dn_ne (show 7≠3 by decide),dn_ne (show 7≠10 by decide)];simp only[Bool.toNat_true,Bool.toNat_false] at z ⊢;omega)⟩,v17,v18,(.slice (some ⟨x,0,none⟩) 4 4),(.int .i64 m),v23,v24,rfl,dn_keep (by decide) h3.o id,dn_keep (by decide) h4.o id,fun _=>⟨x,rfl,hx,hb.fr hF2 (by omega)⟩,fun _=>⟨m,hm,rfl⟩,dn_keep (by decide) h9.o (fun ⟨x,e,hx,hb⟩=>⟨x,e,hx,hb.fr hF2 (by omega)⟩),dn_keep (by decide) h10.o id⟩
    ·obtain ⟨hF,⟨q',hR,hq'⟩,v17,v18,v20,v21,v23,v24,ha,h3,h4,h6,h7,h9,h10⟩:=hI;rw[ha] at hG;clear ha a;replace hq':=ax hq';replace hR:=ax hR;replace hF:=ax hF;replace hS:=ax hS;replace h3:=ax h3;replace h4:=ax h4;replace h6:=ax h6;replace h7:=ax h7;replace h9:=ax h9;replace h10:=ax h10;refine hG ?_;clear hG;(try simp only[zz]);go_simp;have hF3:=hF.o.alloc (.cells #[.int .i64 0,.int .i64 2,.int .i64 3,.int .i64 1,.int .i64 6] tI);exact hK.out _ _ (fun i=>(ka.fr hF3 (by omega)).cell i) ⟨hF3,⟨q',hR.o.bz bel,(by rw[dn_ne (show 9≠3 by decide),dn_ne (show 9≠7 by decide),dn_ne (show 9≠10 by decide)];exact hq'.o)⟩,v17,v18,v20,v21,(.slice (some ⟨w'.heap.size,0,none⟩) 5 5),v24,rfl,dn_keep (by decide) h3.o id,dn_keep (by decide) h4.o id,dn_keep (by decide) h6.o (fun ⟨x,e,hx,hb⟩=>⟨x,e,hx,hb.alloc _⟩),dn_keep (by decide) h7.o id,fun _=>⟨w'.heap.size,rfl,hR.o.lt,Blk.new _ _ _⟩,dn_keep (by decide) h10.o id⟩
    ·obtain ⟨hF,⟨q',hR,hq'⟩,v17,v18,v20,v21,v23,v24,ha,h3,h4,h6,h7,h9,h10⟩:=hI;rw[ha] at hG;clear ha a;replace hq':=ax hq';replace hR:=ax hR;replace hF:=ax hF;replace hS:=ax hS;replace h3:=ax h3;replace h4:=ax h4;replace h6:=ax h6;replace h7:=ax h7;replace h9:=ax h9;replace h10:=ax h10;have d9:dn D 9=true:=hd ⟨9,.data⟩ (by simp) (by decide);obtain ⟨x,rfl,hx,hb⟩:=h9.o d9;clear h9 hd;refine hG ?_;clear hG;(try simp only[zz]);go_simp;refine (c_numL g q' [(0:Int),2,3,1,6] x 5 _ _ hR.o (by have:=hq'.o;have:=Bool.toNat_le (dn D 3);have:=Bool.toNat_le (dn D 7);have:=Bool.toNat_le (dn D 10);omega) hb (by rfl) hx (by rfl) (by decide) (by decide)).mono ?_;rintro e w2 ⟨m,hm,rfl,hR2,hF2⟩;have hF3:=hF.o.trans hF2;exact hK.out _ _ (fun i=>(ka.fr hF3 (by omega)).cell i) ⟨hF3,⟨q'+1,hR2,(by have z:=hq'.o;rw[dn_un hu] at z;rw[dn_self hu,dn_ne (show 10≠3 by decide),dn_ne (show 10≠7 by decide)];simp only[Bool.toNat_true,Bool.toNat_false] at z ⊢;omega)⟩,v17,v18,v20,v21,(.slice (some ⟨x,0,none⟩) 5 5),(.int .i64 m),rfl,dn_keep (by decide) h3.o id,dn_keep (by decide) h4.o id,dn_keep (by decide) h6.o (fun ⟨x,e,hx,hb⟩=>⟨x,e,hx,hb.fr hF2 (by omega)⟩),dn_keep (by decide) h7.o id,fun _=>⟨x,rfl,hx,hb.fr hF2 (by omega)⟩,fun _=>⟨m,hm,rfl⟩⟩
   case fin=>
    rintro a w4 aH ⟨hF,⟨q',hR,hq'⟩,v17,v18,v20,v21,v23,v24,rfl,h3,h4,h6,h7,h9,h10⟩;obtain ⟨m3,rfl⟩:=h3 (by decide);obtain ⟨b4,rfl⟩:=h4 (by decide);obtain ⟨m7,hm7,rfl⟩:=h7 (by decide);obtain ⟨m10,hm10,rfl⟩:=h10 (by decide);replace hq':q'≤q+3:=hq';clear h6 h9;(try simp only[zz]);have ka4:=ka.fr hF (by omega);have kr4:=kr.fr hF (by omega);have HO4:=ax (HO.o.fr hF hlt);have HF4:=ax (HF.o.trans hF);have HR4:=ax hR;have hM7:=ax ((by decide:∀ m∈[(1:Int),2,3,5],jq m=true) m7 hm7);have hM10:=ax ((by decide:∀ m∈[(0:Int),2,3,1,6],jq m=true) m10 hm10);have hsz4:=HF4.o.size;have hlen:fs.length+1≤1049600:=by omega
    clear hF hR hm7 hm10 ka kr HF HRR HO;refine tk2 11 rfl aH (h:=?_);refine rdc 12 rfl fun K hK=>?_;(try simp only[zz]);go_simp;refine hK.out _ _ (Blk.cell blks) ?_;clear aH hK K;intro aH;(try simp only[zz]);refine rdc 13 rfl fun K hK=>?_;skip;(refine stepFL (ys:=[⟨b4,m7,m10⟩]) (base:=w.heap.size) rfl _ _ rfl rfl (HO4.o.bz bel) rfl (FactsV.oneB (Blk.newE rfl)) (by simpa using hlen) (by first|omega|(simp;omega)) ?_;intro A' c' w5 o5 hg5 hB5;have ka5:=Blk.zm (g:=w.heap.size+1) (hg:=hg5) blks (HO4.o.bz (bbox (Below.refl _ _) _)).1 (by decide);have kr5:=Blk.zm (g:=w.heap.size) (hg:=hg5) blks (HO4.o.bz (bbox (Below.refl _ _) _)).1 (by decide);rw[List.length_append,List.length_singleton];clear hg5);refine hK.out _ _ (Blk.cell blks) ?_;clear aH hK K;intro aH;(try simp only[zz]);refine tk2 14 rfl aH (h:=?_);(try simp only[zz]);(replace qka5:=ka5.z);refine rdc 15 rfl fun K hK=>?_;go_simp;refine hK.out _ _ (Blk.cell blks) (fun aH=>?_);clear hK K;refine wpAnyH_done (by kernel_rfl) ?_ _;unfold lastQ;go_simp;refine NoPanic.normal ?_;have hF5:Fr g w w5:=(HF4.o.alloc _).goB hB5 (Nat.le_refl _);have hR5:Rdr w5 g q':=(HR4.o.bz (bbox (Below.refl _ _) _)).belowB hB5 hlt;(go_wp2_with fail)
    go_round
    case rel=>exact ⟨k - 1,fs++[⟨b4,m7,m10⟩],A',c',q',by go_num,by simp;omega,by rw[List.length_append,List.length_singleton] at o5 ⊢;exact o5.setT ka5 (by decide) 0 _,(fun f hf=>by
     rcases List.mem_append.1 hf with hf|hf
     ·exact HV.o f hf
     ·rw[List.mem_singleton.1 hf];simp[Fct.valid,hM7.o,hM10.o]),kr5.far (by simp) _,by simpa using ka5.set_ 0 (.slice A' (fs.length+1) c'),hR5.set_ (by simp only;omega) _,by omega,hF5.set_ (Or.inr (by simp only;omega)) _⟩
    case measure=>simp[intOf];omega
  ·obtain rfl:k=0:=by omega
   (go_wp2_with fail);refine (c_numL g q [2,1,3,2,0,4] _ _ _ _ (HRR.o.bz bel) (by omega) blks (by rfl) (by first|omega|(simp;omega)) (by rfl) (by decide) (by decide)).mono ?_;rintro e w2 ⟨m,hm,rfl,hR,hF⟩;replace kr:=(kr.alloc _).fr hF (by omega);replace ka:=(ka.alloc _).fr hF (by omega);have HF2:aJ (Fr g w w2):=(HF.o.alloc _).trans hF;have hO2:=(HO.o.bz (bbox (Below.refl _ _) (.cells #[.int .i64 2,.int .i64 1,.int .i64 3,.int .i64 2,.int .i64 0,.int .i64 4] tI))).fr hF hlt;obtain ⟨k1,rfl⟩:=Int.eq_ofNat_of_zero_le ((by decide:∀ m∈[(2:Int),1,3,2,0,4],0≤m) m hm);have hk4:k1≤4:=by have:=(by decide:∀ m∈[(2:Int),1,3,2,0,4],m≤4) _ hm;omega
   have HR2:=ax hR;clear hm hR hF HF HRR HO;(go_wp2_with fail)
   go_loopw [5] (fun i wx=>∃ (k:Nat) (xs:List Atm) (B:Option Addr) (d q':Nat),i=.int .i64 k∧k+xs.length≤4∧AtomsO wx w.heap.size (.slice B xs.length d) xs∧aJ (∀ x∈xs,x.valid=true)∧FactsO wx w.heap.size (.slice A fs.length c) fs∧Blk wx w.heap.size 37 #[.slice none 0 0,.slice none 0 0]∧Blk wx (w.heap.size+1) 37 #[.slice A fs.length c,.slice B xs.length d]∧Rdr wx g q'∧q'+3 * k≤p+20∧aJ (Fr g w wx)) (fun i _=>(intOf i).toNat)
   case atStart=>exact ⟨k1,[],none,0,q+1,rfl,by simpa using hk4,AtomsO.nil _ _,(fun f hf=>by cases hf),hO2,kr,ka,HR2.o,by omega,HF2⟩
   case round=>
    clear kr ka HF2 HR2 hO2 hk4;obtain ⟨k,xs,B,d,q',rfl,hkx',hO,HX,hOf,kr,ka,hR,hq',HF⟩:=hrel;have HO:=ax hO;have HOF:=ax hOf;have HRR:=ax hR;have hsz:=HF.o.size;have lr:=kr.lt;have la:=ka.lt;clear hO hR hOf;by_cases hk:0<k
    ·have hki:(0:Int)<(k:Int):=by omega
     (go_wp2_with fail);refine wp_region_noPanic ?_;refine wp_region_last' (S:=(fun w'=>∀ i,w'.cell? ⟨w.heap.size+1,i,none⟩=#[.slice A fs.length c,.slice B xs.length d][i]?)) (by simp) (by kernel_rfl) (by kernel_rfl) (Blk.cell blks) (fun aH=>?_);simp only[List.dropLast,List.getLast,nopOf,List.cons_append,List.nil_append,List.length_cons,List.length_nil,Nat.zero_add,Nat.reduceAdd];refine tk2 0 rfl aH (h:=tk2 1 rfl aH (h:=tk2 2 rfl aH (h:=?_)));refine rdc 3 rfl fun K hK=>?_;(try simp only[zz]);(go_simp;refine (c_l3Point g q' _ (HRR.o.bz bel) (by omega)).mono ?_;rintro e w4 ⟨x,hx,rfl,hR,hF⟩;have ka4:=ka.drew.fr hF (by omega);have kr4:=kr.drew.fr hF (by omega);have HF4:=ax ((HF.o.drew).trans hF);have HO4:=ax ((HO.o.bz (Below.refl _ _).drew).fr hF hlt);have HOF4:=ax ((HOF.o.bz (Below.refl _ _).drew).fr hF hlt);have HR4:=ax hR;have HX4:=ax hx;have hsz4:=HF4.o.size;clear hR hF hx ka kr HF HRR HO HOF);refine hK.out _ _ (ka4.cell) ?_;clear aH hK K;intro aH;(try simp only[zz]);have hlen:xs.length+1≤1049600:=by omega
     refine rdc 4 rfl fun K hK=>?_;(try simp only[zz]);go_simp;refine hK.out _ _ (Blk.cell blks) ?_;clear aH hK K;intro aH;(try simp only[zz]);refine rdc 5 rfl fun K hK=>?_;skip;(refine stepAL (ys:=[x]) (base:=w.heap.size) rfl _ _ rfl rfl (HO4.o.bz bel) rfl (AtomsV.one (f:=x) (Blk.newE rfl)) (by simpa using hlen) (by first|omega|(simp;omega)) ?_;intro A' c' w5 o5 hg5 hB5;have ka5:=Blk.zm (g:=w.heap.size+1) (hg:=hg5) blks (HO4.o.bz (bbox (Below.refl _ _) _)).1 (by decide);have kr5:=Blk.zm (g:=w.heap.size) (hg:=hg5) blks (HO4.o.bz (bbox (Below.refl _ _) _)).1 (by decide);have of5:=FactsO.grownA (HOF4.o.bz (bbox (Below.refl _ _) _)) (HO4.o.bz (bbox (Below.refl _ _) _)) hg5;rw[List.length_append,List.length_singleton];clear hg5);refine hK.out _ _ (Blk.cell blks) ?_;clear aH hK K;intro aH;(try simp only[zz]);refine tk2 6 rfl aH (h:=?_);(try simp only[zz]);(replace qka5:=ka5.z);refine rdc 7 rfl fun K hK=>?_;go_simp;refine hK.out _ _ (Blk.cell blks) (fun aH=>?_);clear hK K;refine wpAnyH_done (by kernel_rfl) ?_ _;unfold lastQ;go_simp;refine NoPanic.normal ?_;have hF5:Fr g w w5:=(HF4.o.alloc _).goB hB5 (Nat.le_refl _);have hR5:Rdr w5 g (q'+3):=(HR4.o.bz (bbox (Below.refl _ _) _)).belowB hB5 hlt;(go_wp2_with fail)
     go_round
     case rel=>exact ⟨k - 1,xs++[x],A',c',q'+3,by go_num,by simp;omega,by rw[List.length_append,List.length_singleton] at o5 ⊢;exact o5.setT ka5 (by decide) 1 _,(fun f hf=>by
      rcases List.mem_append.1 hf with hf|hf
      ·exact HX.o f hf
      ·rw[List.mem_singleton.1 hf];exact HX4.o),of5.setT ka5 (by decide) 1 _,kr5.far (by simp) _,by simpa using ka5.set_ 1 (.slice A' (xs.length+1) c'),hR5.set_ (by simp only;omega) _,by omega,hF5.set_ (Or.inr (by simp only;omega)) _⟩
     case measure=>simp[intOf];omega
    ·obtain rfl:k=0:=by omega
     (replace qka:=ka.z;replace qkr:=kr.cell;replace rkr:=kr.frozen;replace lkr:=kr.lt);have hne:w.heap.size≠w.heap.size+1:=by omega
     have HVAL:aJ ((⟨fs,xs⟩:Asn).valid=true):=by
      show _=_;simp only[Asn.valid,factsValid,Bool.and_eq_true,decide_eq_true_eq,List.all_eq_true];exact ⟨⟨by omega,HV.o⟩,by omega,HX.o⟩
     (go_wp2_with fail);refine bodyPost_ret (v:=.agg #[.slice A fs.length c,.slice B xs.length d]) (by simp[results,Tryz.results228,go_sem,qkr]) rfl ⟨_,⟨fs,xs⟩,q',rfl,⟨_,_,rfl,?_,?_⟩,HVAL.o,by simp only;omega,by simp only;omega,?_,by omega,?_⟩
     ·exact (HOF.o.setT kr (by decide) 0 _).setT (kr.set_ 0 _) (by decide) 1 _
     ·exact (HO.o.setT kr (by decide) 0 _).setT (kr.set_ 0 _) (by decide) 1 _
     ·exact (HRR.o.set_ (by simp only;omega) _).set_ (by simp only;omega) _
     ·exact (HF.o.set_ (Or.inr (by simp only;omega)) _).set_ (Or.inr (by simp only;omega)) _
theorem c_l3Copy {lo hi:Nat} (v:Value) (a:Asn) (w:World) (h:AsnV w lo hi v a) :
  Calls Tryz.prog 124 #[v] w fun e w'=>∃ r,e=.returned r∧AsnO w' w.heap.size r a∧Below w.heap.size w w':=by
 have hV:=ax h;obtain ⟨A1,c1,A2,c2,rfl,h1,h2⟩:=h;have HL:=ax (And.intro h1.le h2.le);clear h1 h2;have e0:aJ (starA a ⟨[],[]⟩=a):=by show _=_;simp[starA]
 (go_enter Tryz.func124,Tryz.ntmps124);have kr:Blk ((w.alloc (.cells #[.slice A1 a.facts.length c1,.slice A2 a.atoms.length c2] 37)).alloc (.cells #[.slice none 0 0,.slice none 0 0] 37)) (w.heap.size+1) 37 #[.slice none 0 0,.slice none 0 0]:=blks;(go_wp2_with fail);refine (c_spec_l3Star _ _ a ⟨[],[]⟩ _ (hV.o.bz bel) (⟨none,0,none,0,rfl,Rd.nil _ 0 0 _ _,Rd.nil _ 0 0 _ _⟩) (by simpa using HL.o.1) (by simpa using HL.o.2)).mono ?_;rintro e w1 ⟨r,rfl,o,hB1⟩;have hB:=bgo (w:=w) bel hB1;replace kr:=kr.nz hB1;rw[e0.o] at o;replace o:=o.bq (base':=w.heap.size) (by simp;omega);obtain ⟨fv,av,rfl,o1,o2⟩:=o;obtain ⟨F,e1,rfl,-⟩:=o1.rj;obtain ⟨G,e2,rfl,-⟩:=o2.rj;have O1:=ax o1;have O2:=ax o2;(replace qkr:=kr.cell;replace rkr:=kr.frozen;replace lkr:=kr.lt);clear o1 o2 hB1;(go_wp2_with fail);refine bodyPost_ret (v:=.agg #[.slice F a.facts.length e1,.slice G a.atoms.length e2]) (by simp[results,Tryz.results124,go_sem,qkr]) rfl ⟨_,rfl,⟨_,_,rfl,?_,?_⟩,bel⟩
 ·exact (O1.o.setT kr (by decide) 0 _).setT (kr.set_ 0 _) (by decide) 1 _
 ·exact (O2.o.setT kr (by decide) 0 _).setT (kr.set_ 0 _) (by decide) 1 _
theorem c_l1Mutate {lo hi:Nat} (g p:Nat) (A:Option Addr) (c:Nat) (fs:List Fct) (w:World) (h:Rdr w g p) (hp:p≤999990) (hf:FactsV w lo hi A fs) (hl:fs.length≤1000) :
  Calls Tryz.prog 146 #[.pointer (some ⟨g,0,none⟩),.slice A fs.length c] w fun e w'=>∃ r fs' q,e=.returned r∧FactsO w' w.heap.size r fs'∧fs'.length≤fs.length+13∧Rdr w' g q∧q≤p+2∧Fr g w w':=by
 have H:=ax h;have HF:=ax hf;have hlt:=h.lt;have hli:(fs.length:Int)≤1000:=by omega
 clear h hf;(go_enter Tryz.func146,Tryz.ntmps146);(go_wp2_with (at_builtin;refine appFL (xs:=[]) (ys:=fs) rfl _ _ rfl (v:=.slice (some ⟨w.heap.size,0,none⟩) 0 0) rfl (FactsO.empty w) rfl (HF.o.bz bel) (by simp;omega) (by simp) ?_;intro A1 d1 w1 o1 hg1 hB1;simp only[List.nil_append] at o1 ⊢));have HF1:aJ (Fr g w w1):=((Fr.refl g w).alloc _).goB hB1 (Nat.le_refl _);have HR1:aJ (Rdr w1 g p):=(H.o.bz (bbox (Below.refl _ _) _)).belowB hB1 hlt;have HO1:=ax o1;clear o1 hg1 hB1;refine (c_pick g p 40 _ HR1.o (by omega)).mono ?_;rintro e w2 ⟨m,rfl,-,hR,hF⟩;have HF2:=ax (HF1.o.trans hF);have HR2:=ax hR;have HO2:=ax (HO1.o.fr hF hlt);have hsz2:=HF2.o.size;clear hR hF HF1 HR1 HO1;by_cases hm0:(m:Int)=0
 ·have e0:((m:Int) == 0)=true:=by simpa using hm0
  clear hm0;(go_wp2_with fail);refine (c_numL g (p+1) [-1,9,9223372036854775807] _ _ _ _ (HR2.o.bz bel) (by omega) blks (by rfl) (by first|omega|(simp;omega)) (by rfl) (by decide) (by decide)).mono ?_;rintro e w3 ⟨x,-,rfl,hR,hF⟩;have HF3:=ax ((HF2.o.alloc _).trans hF);have HR3:=ax hR;have HO3:=ax ((HO2.o.bz (bbox (Below.refl _ _) (.cells #[.int .i64 (-1),.int .i64 9,.int .i64 9223372036854775807] tI))).fr hF hlt);have hsz3:=HF3.o.size;clear hR hF;(go_wp2_with (at_builtin;refine appFL (ys:=[⟨false,x,0⟩]) (base:=w.heap.size) rfl _ _ rfl rfl (HO3.o.bz bel) rfl (FactsV.oneB (Blk.newE rfl)) (by simp;omega) (by simp;omega) ?_;intro A4 d4 w4 o4 hg4 hB4;rw[List.length_append,List.length_singleton] at o4 ⊢));have hF4:Fr g w w4:=(HF3.o.alloc _).goB hB4 (Nat.le_refl _);have hR4:Rdr w4 g (p+1+1):=(HR3.o.bz (bbox (Below.refl _ _) _)).belowB hB4 hlt;have HH:=ax (And.intro hF4 (And.intro hR4 o4));clear hF4 hR4 o4 hg4 hB4;go_ret;exact ⟨.slice A4 (fs.length+1) d4,fs++[⟨false,x,0⟩],p+1+1,rfl,HH.o.2.2,by simp,HH.o.2.1,by omega,HH.o.1⟩
 ·have e0:((m:Int) == 0)=false:=by simpa using hm0
  clear hm0;by_cases hm1:(m:Int)=1
  ·have e1:((m:Int) == 1)=true:=by simpa using hm1
   clear hm1;(go_wp2_with fail)
   go_loopw [5] (fun o wx=>∃ (xs:List Fct) (B:Option Addr) (d:Nat),o=.slice B xs.length d∧(xs.length≤13∨xs.length≤fs.length)∧FactsO wx w.heap.size (.slice B xs.length d) xs∧aJ (Rdr wx g (p+1))∧aJ (Fr g w wx)) (fun o _=>13 - (match o with | .slice _ n _=>n|_=>0))
   case atStart=>exact ⟨fs,A1,d1,rfl,Or.inr (Nat.le_refl _),HO2.o,HR2.o,HF2.o⟩
   case round=>
    clear HF2 HR2 HO2 hsz2;obtain ⟨xs,B,d,rfl,hx,hO,HR,HF⟩:=hrel;have HO:=ax hO;have hsz:=HF.o.size;have HX:=ax hx;clear hO hx;by_cases hle:xs.length≤12
    ·have hlei:(xs.length:Int)≤12:=by omega
     (go_wp2_with (at_builtin;refine appFL (ys:=[⟨true,1,2⟩]) (base:=w.heap.size) rfl _ _ rfl rfl (HO.o.bz bel) rfl (FactsV.oneB (Blk.newE rfl)) (by simp;omega) (by simp;omega) ?_;intro A4 d4 w4 o4 hg4 hB4;rw[List.length_append,List.length_singleton] at o4 ⊢));have hF4:Fr g w w4:=(HF.o.alloc _).goB hB4 (Nat.le_refl _);have hR4:Rdr w4 g (p+1):=(HR.o.bz (bbox (Below.refl _ _) _)).belowB hB4 hlt
     go_round
     case rel=>exact ⟨xs++[⟨true,1,2⟩],A4,d4,by simp,Or.inl (by simp;omega),by simpa using o4,hR4,hF4⟩
     case measure=>simp;omega
    ·have hlei:¬(xs.length:Int)≤12:=by omega
     (go_wp2_with fail);go_ret;exact ⟨.slice B xs.length d,rfl,xs,HO.o,by have:=HX.o;omega,p+1,HR.o,by omega,HF.o⟩
  ·have e1:((m:Int) == 1)=false:=by simpa using hm1
   clear hm1;(go_wp2_with fail);go_ret;exact ⟨_,fs,p+1,rfl,HO2.o,by omega,HR2.o,by omega,HF2.o⟩
theorem c_l3Mutate {lo hi:Nat} (g p:Nat) (v:Value) (a:Asn) (w:World) (h:Rdr w g p) (hp:p≤999900) (ha:AsnV w lo hi v a) (hl:a.facts.length≤900) (hl2:a.atoms.length≤900) :
  Calls Tryz.prog 79 #[.pointer (some ⟨g,0,none⟩),v] w fun e w'=>∃ r a' q,e=.returned r∧AsnO w' w.heap.size r a'∧a'.facts.length≤a.facts.length+14∧a'.atoms.length≤a.atoms.length+7∧Rdr w' g q∧q≤p+4∧Fr g w w':=by
 have H:=ax h;have hV:=ax ha;have hlt:=h.lt;obtain ⟨A1,c1,A2,c2,rfl,-,-⟩:=ha;clear h;(go_enter Tryz.func79,Tryz.ntmps79);have kr:Blk ((w.alloc (.cells #[.slice A1 a.facts.length c1,.slice A2 a.atoms.length c2] 37)).alloc (.cells #[.slice none 0 0,.slice none 0 0] 37)) (w.heap.size+1) 37 #[.slice none 0 0,.slice none 0 0]:=blks;(go_wp2_with fail);refine (c_l3Copy _ a _ (hV.o.bz bel)).mono ?_;rintro e w1 ⟨r,rfl,o,hB1⟩;have hB:=bgo (w:=w) bel hB1;replace kr:=kr.nz hB1;replace o:=o.bq (base':=w.heap.size) (by simp;omega);obtain ⟨fv,av,rfl,o1,o2⟩:=o;obtain ⟨F,e1,rfl,-⟩:=o1.rj;obtain ⟨G,e2,rfl,-⟩:=o2.rj;have HF1:aJ (Fr g w w1):=Fr.ofBelow hB;have HR1:aJ (Rdr w1 g p):=H.o.bz hB;have l1:=kr.lt;obtain ⟨x2,hx2⟩:∃ x2,x2=w1.heap.size:=⟨_,rfl⟩;have lx:w.heap.size+2≤x2:=by omega
 have ko:Blk (w1.alloc (.cells #[.slice F a.facts.length e1,.slice G a.atoms.length e2] 37)) x2 37 #[.slice F a.facts.length e1,.slice G a.atoms.length e2]:=by rw[hx2];exact Blk.new _ _ _
 have O1:=ax (o1.bz (bbox (Below.refl _ _) (.cells #[.slice F a.facts.length e1,.slice G a.atoms.length e2] 37)));have O2:=ax (o2.bz (bbox (Below.refl _ _) (.cells #[.slice F a.facts.length e1,.slice G a.atoms.length e2] 37)));clear hB1 hB o1 o2;(go_wp2_with fail);refine (c_pick g p 50 _ (HR1.o.bz bel) (by omega)).mono ?_;rintro e w2 ⟨m,rfl,-,hR,hF⟩;rw[←hx2];replace kr:=(kr.alloc (.cells #[.slice F a.facts.length e1,.slice G a.atoms.length e2] 37)).fr hF (by omega);replace ko:=ko.fr hF (by omega);have HF2:=ax ((HF1.o.alloc _).trans hF);have HR2:=ax hR;have HO1:=ax (O1.o.fr hF hlt);have HO2:=ax (O2.o.fr hF hlt);have lk:=ko.lt;have hne:w.heap.size+1≠x2:=by omega
 clear hR hF HF1 HR1 O1 O2 l1 hx2;(replace qko:=ko.z;replace qkr:=kr.cell;replace rkr:=kr.frozen;replace lkr:=kr.lt);by_cases hm0:(m:Int)=0
 ·have t0:((m:Int) == 0)=true:=by simpa using hm0
  clear hm0;(go_wp2_with (at_builtin;refine appFL (xs:=a.facts) (ys:=[⟨false,9,0⟩]) (base:=w.heap.size) rfl _ _ rfl rfl (HO1.o.bz bel) rfl (FactsV.oneB (Blk.newE rfl)) (by simp;omega) (by simp;omega) ?_;intro A4 d4 w4 o4 hg4 hB4;rw[List.length_append,List.length_singleton] at o4 ⊢));have hF4:Fr g w w4:=(HF2.o.alloc _).goB hB4 (Nat.le_refl _);have hR4:Rdr w4 g (p+1):=(HR2.o.bz (bbox (Below.refl _ _) _)).belowB hB4 hlt;have k4:=Blk.zm (hg:=hg4) (ko.alloc _) (HO1.o.bz (bbox (Below.refl _ _) _)).1 (by decide);have kr4:=Blk.zm (hg:=hg4) (kr.alloc _) (HO1.o.bz (bbox (Below.refl _ _) _)).1 (by decide);have oa4:=AtomsO.grownF (HO2.o.bz (bbox (Below.refl _ _) _)) (HO1.o.bz (bbox (Below.refl _ _) _)) hg4;have hrd:FactsV w4 w.heap.size w4.heap.size A4 (a.facts++[⟨false,9,0⟩]):=o4.readsI.2;have hsz4:=hF4.size;have HH:=ax (And.intro hF4 (And.intro hR4 (And.intro oa4 hrd)));clear hF4 hR4 oa4 hrd o4 hg4 hB4 ko kr qko qkr rkr lkr;have hmut:=c_l1Mutate g (p+1) A4 d4 (a.facts++[⟨false,9,0⟩]) w4 HH.o.2.1 (by omega) HH.o.2.2.2 (by simp;omega);rw[List.length_append,List.length_singleton] at hmut;refine hmut.mono ?_;clear hmut;rintro e w5 ⟨r5,fs',q,rfl,o5,hlen5,hR5,hq5,hF5⟩;obtain ⟨B,d5,rfl,-⟩:=o5.rj;replace k4:=k4.fr hF5 (by omega);replace kr4:=kr4.fr hF5 (by omega);have HFs:=ax (HH.o.1.trans hF5);have HAs:=ax (HH.o.2.2.1.fr hF5 hlt);have HRs:=ax hR5;have HOs:=ax (o5.bq (base':=w.heap.size) hsz4);have HLn:=ax hlen5;clear hF5 hR5 o5 HH hlen5;(replace qk4:=k4.z;replace qkr4:=kr4.cell;replace rkr4:=kr4.frozen;replace lkr4:=kr4.lt);(go_wp2_with fail);have krx:=kr4.far (p:=⟨x2,0,none⟩) (by simp only;omega) (.slice B fs'.length d5);refine bodyPost_ret (v:=.agg #[.slice B fs'.length d5,.slice G a.atoms.length e2]) (by simp[results,Tryz.results79,go_sem,qkr4]) rfl ⟨_,⟨fs',a.atoms⟩,q,rfl,⟨_,_,rfl,?_,?_⟩,by have:=HLn.o;simp only[List.length_append,List.length_singleton] at this ⊢;omega,by simp only;omega,?_,by omega,?_⟩
  ·exact ((HOs.o.setT k4 (by decide) 0 _).setT krx (by decide) 0 _).setT (krx.set_ 0 _) (by decide) 1 _
  ·exact ((HAs.o.setT k4 (by decide) 0 _).setT krx (by decide) 0 _).setT (krx.set_ 0 _) (by decide) 1 _
  ·exact ((HRs.o.set_ (by simp only;omega) _).set_ (by simp only;omega) _).set_ (by simp only;omega) _
  ·exact ((HFs.o.set_ (Or.inr (by simp only;omega)) _).set_ (Or.inr (by simp only;omega)) _).set_ (Or.inr (by simp only;omega)) _
 ·have t0:((m:Int) == 0)=false:=by simpa using hm0
  clear hm0;by_cases hm1:(m:Int)=1
  ·have t1:((m:Int) == 1)=true:=by simpa using hm1
   clear hm1;(go_wp2_with fail);refine wp_region_noPanic ?_;refine wp_region_last' (S:=(fun w'=>∀ i,w'.cell? ⟨x2,i,none⟩=#[.slice F a.facts.length e1,.slice G a.atoms.length e2][i]?)) (by simp) (by kernel_rfl) (by kernel_rfl) (Blk.cell blks) (fun aH=>?_);simp only[List.dropLast,List.getLast,nopOf,List.cons_append,List.nil_append,List.length_cons,List.length_nil,Nat.zero_add,Nat.reduceAdd];refine tk2 0 rfl aH (h:=tk2 1 rfl aH (h:=tk2 2 rfl aH (h:=?_)));(try simp only[zz]);refine tk2 5 rfl aH (h:=?_);(try simp only[zz])
   refine wpAnyH_par [3,4,6,7] #[true,true,true,true,true,true,true,true,false,false,false,false,false] 4 (by kernel_rfl) aH
    (fun a0 D a w'=>Fr g w2 w'∧(∃ q',Rdr w' g q'∧q'≤(p+1)+(dn D 4).toNat+(dn D 7).toNat)∧∃ v25 v26 v28 v29,a=((((a0.put (some 25) v25).put (some 26) v26).put (some 28) v28).put (some 29) v29)∧
     (dn D 3=true→∃ x,v25=.slice (some ⟨x,0,none⟩) 3 3∧g<x∧Blk w' x tI #[.int .i64 0,.int .i64 3,.int .i64 1])∧
     (dn D 4=true→∃ m,m∈[(0:Int),3,1]∧v26=.int .i64 m)∧
     (dn D 6=true→∃ x,v28=.slice (some ⟨x,0,none⟩) 3 3∧g<x∧Blk w' x tI #[.int .i64 1,.int .i64 9,.int .i64 (-1)])∧
     (dn D 7=true→∃ m,m∈[(1:Int),9,-1]∧v29=.int .i64 m)) ?start ?steps ?fin
   case start=>
    refine ⟨(Fr.refl g w2).drew,⟨(p+1),HR2.o.bz bel,by omega⟩,undef,undef,undef,undef,rfl,?_,?_,?_,?_⟩
    all_goals exact fun h=>absurd h (by decide)
   case steps=>
    refine ParSteps.cons rfl (fun D a w' hu hd hI hS K' hK G hG=>?_) (ParSteps.cons rfl (fun D a w' hu hd hI hS K' hK G hG=>?_) (ParSteps.cons rfl (fun D a w' hu hd hI hS K' hK G hG=>?_) (ParSteps.cons rfl (fun D a w' hu hd hI hS K' hK G hG=>?_) (ParSteps.nil))))
    ·obtain ⟨hF,⟨q',hR,hq'⟩,v25,v26,v28,v29,ha,h3,h4,h6,h7⟩:=hI;rw[ha] at hG;clear ha a;replace hq':=ax hq';replace hR:=ax hR;replace hF:=ax hF;replace hS:=ax hS;replace h3:=ax h3;replace h4:=ax h4;replace h6:=ax h6;replace h7:=ax h7;refine hG ?_;clear hG;(try simp only[zz]);go_simp;have hF3:=hF.o.alloc (.cells #[.int .i64 0,.int .i64 3,.int .i64 1] tI);exact hK.out _ _ (fun i=>(ko.fr hF3 (by omega)).cell i) ⟨hF3,⟨q',hR.o.bz bel,(by rw[dn_ne (show 3≠4 by decide),dn_ne (show 3≠7 by decide)];exact hq'.o)⟩,(.slice (some ⟨w'.heap.size,0,none⟩) 3 3),v26,v28,v29,rfl,fun _=>⟨w'.heap.size,rfl,hR.o.lt,Blk.new _ _ _⟩,dn_keep (by decide) h4.o id,dn_keep (by decide) h6.o (fun ⟨x,e,hx,hb⟩=>⟨x,e,hx,hb.alloc _⟩),dn_keep (by decide) h7.o id⟩
    ·obtain ⟨hF,⟨q',hR,hq'⟩,v25,v26,v28,v29,ha,h3,h4,h6,h7⟩:=hI;rw[ha] at hG;clear ha a;replace hq':=ax hq';replace hR:=ax hR;replace hF:=ax hF;replace hS:=ax hS;replace h3:=ax h3;replace h4:=ax h4;replace h6:=ax h6;replace h7:=ax h7;have d3:dn D 3=true:=hd ⟨3,.data⟩ (by simp) (by decide);obtain ⟨x,rfl,hx,hb⟩:=h3.o d3;clear h3 hd;refine hG ?_;clear hG;(try simp only[zz]);go_simp;refine (c_numL g q' [(0:Int),3,1] x 3 _ _ hR.o (by have:=hq'.o;have:=Bool.toNat_le (dn D 4);have:=Bool.toNat_le (dn D 7);omega) hb (by rfl) hx (by rfl) (by decide) (by decide)).mono ?_;rintro e w2 ⟨m,hm,rfl,hR2,hF2⟩;have hF3:=hF.o.trans hF2;exact hK.out _ _ (fun i=>(ko.fr hF3 (by omega)).cell i) ⟨hF3,⟨q'+1,hR2,(by have z:=hq'.o;rw[dn_un hu] at z;rw[dn_self hu,dn_ne (show 4≠7 by decide)];simp only[Bool.toNat_true,Bool.toNat_false] at z ⊢;omega)⟩,(.slice (some ⟨x,0,none⟩) 3 3),(.int .i64 m),v28,v29,rfl,fun _=>⟨x,rfl,hx,hb.fr hF2 (by omega)⟩,fun _=>⟨m,hm,rfl⟩,dn_keep (by decide) h6.o (fun ⟨x,e,hx,hb⟩=>⟨x,e,hx,hb.fr hF2 (by omega)⟩),dn_keep (by decide) h7.o id⟩
    ·obtain ⟨hF,⟨q',hR,hq'⟩,v25,v26,v28,v29,ha,h3,h4,h6,h7⟩:=hI;rw[ha] at hG;clear ha a;replace hq':=ax hq';replace hR:=ax hR;replace hF:=ax hF;replace hS:=ax hS;replace h3:=ax h3;replace h4:=ax h4;replace h6:=ax h6;replace h7:=ax h7;refine hG ?_;clear hG;(try simp only[zz]);go_simp;have hF3:=hF.o.alloc (.cells #[.int .i64 1,.int .i64 9,.int .i64 (-1)] tI);exact hK.out _ _ (fun i=>(ko.fr hF3 (by omega)).cell i) ⟨hF3,⟨q',hR.o.bz bel,(by rw[dn_ne (show 6≠4 by decide),dn_ne (show 6≠7 by decide)];exact hq'.o)⟩,v25,v26,(.slice (some ⟨w'.heap.size,0,none⟩) 3 3),v29,rfl,dn_keep (by decide) h3.o (fun ⟨x,e,hx,hb⟩=>⟨x,e,hx,hb.alloc _⟩),dn_keep (by decide) h4.o id,fun _=>⟨w'.heap.size,rfl,hR.o.lt,Blk.new _ _ _⟩,dn_keep (by decide) h7.o id⟩
    ·obtain ⟨hF,⟨q',hR,hq'⟩,v25,v26,v28,v29,ha,h3,h4,h6,h7⟩:=hI;rw[ha] at hG;clear ha a;replace hq':=ax hq';replace hR:=ax hR;replace hF:=ax hF;replace hS:=ax hS;replace h3:=ax h3;replace h4:=ax h4;replace h6:=ax h6;replace h7:=ax h7;have d6:dn D 6=true:=hd ⟨6,.data⟩ (by simp) (by decide);obtain ⟨x,rfl,hx,hb⟩:=h6.o d6;clear h6 hd;refine hG ?_;clear hG;(try simp only[zz]);go_simp;refine (c_numL g q' [(1:Int),9,-1] x 3 _ _ hR.o (by have:=hq'.o;have:=Bool.toNat_le (dn D 4);have:=Bool.toNat_le (dn D 7);omega) hb (by rfl) hx (by rfl) (by decide) (by decide)).mono ?_;rintro e w2 ⟨m,hm,rfl,hR2,hF2⟩;have hF3:=hF.o.trans hF2;exact hK.out _ _ (fun i=>(ko.fr hF3 (by omega)).cell i) ⟨hF3,⟨q'+1,hR2,(by have z:=hq'.o;rw[dn_un hu] at z;rw[dn_self hu,dn_ne (show 7≠4 by decide)];simp only[Bool.toNat_true,Bool.toNat_false] at z ⊢;omega)⟩,v25,v26,(.slice (some ⟨x,0,none⟩) 3 3),(.int .i64 m),rfl,dn_keep (by decide) h3.o (fun ⟨x,e,hx,hb⟩=>⟨x,e,hx,hb.fr hF2 (by omega)⟩),dn_keep (by decide) h4.o id,fun _=>⟨x,rfl,hx,hb.fr hF2 (by omega)⟩,fun _=>⟨m,hm,rfl⟩⟩
   case fin=>
    rintro a w4 aH ⟨hF,⟨q',hR,hq'⟩,v25,v26,v28,v29,rfl,h3,h4,h6,h7⟩;obtain ⟨m4,hm4,rfl⟩:=h4 (by decide);obtain ⟨m7,hm7,rfl⟩:=h7 (by decide);replace hq':q'≤(p+1)+2:=hq';clear h3 h6;(try simp only[zz]);have ko4:=ko.fr hF (by omega);have kr4:=kr.fr hF (by omega);have HA4:=ax (HO2.o.fr hF hlt);have HOf4:=ax (HO1.o.fr hF hlt);have HF4:=ax (HF2.o.trans hF);have HR4:=ax hR;have hsz4:=HF4.o.size;have hlen:a.atoms.length+1≤1049600:=by omega
    clear hF hR hm4 hm7 ko kr qko qkr rkr lkr HF2 HR2 HO1 HO2;refine tk2 8 rfl aH (h:=?_);refine rdc 9 rfl fun K hK=>?_;(try simp only[zz]);go_simp;refine hK.out _ _ (Blk.cell blks) ?_;clear aH hK K;intro aH;(try simp only[zz]);refine rdc 10 rfl fun K hK=>?_;skip;(refine stepAL (ys:=[⟨m4,m7,2⟩]) (base:=w.heap.size) rfl _ _ rfl rfl (HA4.o.bz bel) rfl (AtomsV.oneB (Blk.newE rfl)) (by simpa using hlen) (by first|omega|(simp;omega)) ?_;intro A' c' w5 o5 hg5 hB5;have ko5:=Blk.zm (g:=x2) (hg:=hg5) blks (HA4.o.bz (bbox (Below.refl _ _) _)).1 (by decide);have kr5:=Blk.zm (g:=w.heap.size+1) (hg:=hg5) blks (HA4.o.bz (bbox (Below.refl _ _) _)).1 (by decide);have of5:=FactsO.grownA (HOf4.o.bz (bbox (Below.refl _ _) _)) (HA4.o.bz (bbox (Below.refl _ _) _)) hg5;rw[List.length_append,List.length_singleton] at o5 ⊢;clear hg5);refine hK.out _ _ (Blk.cell blks) ?_;clear aH hK K;intro aH;(try simp only[zz]);refine tk2 11 rfl aH (h:=?_);(try simp only[zz]);(replace qko5:=ko5.z;replace qkr5:=kr5.cell;replace rkr5:=kr5.frozen;replace lkr5:=kr5.lt);refine rdc 12 rfl fun K hK=>?_;go_simp;refine hK.out _ _ (Blk.cell blks) (fun aH=>?_);clear hK K;refine wpAnyH_done (by kernel_rfl) ?_ _;unfold lastQ;go_simp;refine NoPanic.normal ?_;have hF5:Fr g w w5:=(HF4.o.alloc _).goB hB5 (Nat.le_refl _);have hR5:Rdr w5 g q':=(HR4.o.bz (bbox (Below.refl _ _) _)).belowB hB5 hlt;have HH:=ax (And.intro hF5 (And.intro hR5 (And.intro of5 o5)));have krx:=kr5.far (p:=⟨x2,1,none⟩) (by simp only;omega) (.slice A' (a.atoms.length+1) c');clear hF5 hR5 of5 o5 hB5;(go_wp2_with fail);refine bodyPost_ret (v:=.agg #[.slice F a.facts.length e1,.slice A' (a.atoms.length+1) c']) (by simp[results,Tryz.results79,go_sem,qkr5]) rfl ⟨_,⟨a.facts,a.atoms++[⟨m4,m7,2⟩]⟩,q',rfl,⟨_,_,rfl,?_,?_⟩,by simp only;omega,by simp,?_,by omega,?_⟩
    ·exact ((HH.o.2.2.1.setT ko5 (by decide) 1 _).setT krx (by decide) 0 _).setT (krx.set_ 0 _) (by decide) 1 _
    ·exact ((HH.o.2.2.2.setT ko5 (by decide) 1 _).setT krx (by decide) 0 _).setT (krx.set_ 0 _) (by decide) 1 _
    ·exact ((HH.o.2.1.set_ (by simp only;omega) _).set_ (by simp only;omega) _).set_ (by simp only;omega) _
    ·exact ((HH.o.1.set_ (Or.inr (by simp only;omega)) _).set_ (Or.inr (by simp only;omega)) _).set_ (Or.inr (by simp only;omega)) _
  ·have t1:((m:Int) == 1)=false:=by simpa using hm1
   clear hm1;by_cases hm2:(m:Int)=2
   ·have t2:((m:Int) == 2)=true:=by simpa using hm2
    clear hm2;(go_wp2_with fail)
    go_loopg [] (a.atoms.length+7 - a.atoms.length) (fun gh wx=>∃ (xs:List Atm) (B:Option Addr) (d:Nat),7≤gh+xs.length∧(xs.length≤7∨xs.length≤a.atoms.length)∧aJ (AtomsO wx w.heap.size (.slice B xs.length d) xs)∧aJ (FactsO wx w.heap.size (.slice F a.facts.length e1) a.facts)∧Blk wx x2 37 #[.slice F a.facts.length e1,.slice B xs.length d]∧Blk wx (w.heap.size+1) 37 #[.slice none 0 0,.slice none 0 0]∧aJ (Rdr wx g (p+1))∧aJ (Fr g w wx))
    case atStart=>exact ⟨a.atoms,G,e2,by omega,Or.inr (Nat.le_refl _),HO2.o,HO1.o,ko,kr,HR2.o,HF2.o⟩
    case round=>
     clear ko kr qko qkr rkr lkr HF2 HR2 HO1 HO2;obtain ⟨xs,B,d,hgh,hx,HO,HOF,ko,kr,HR,HF⟩:=hrel;have hsz:=HF.o.size;have HX:=ax hx;have lk:=ko.lt;(replace qko:=ko.z;replace qkr:=kr.cell;replace rkr:=kr.frozen;replace lkr:=kr.lt);clear hx;by_cases hle:xs.length≤6
     ·have hlei:(xs.length:Int)≤6:=by omega
      (go_wp2_with (at_builtin;refine appAL (ys:=[⟨2,1,1⟩]) (base:=w.heap.size) rfl _ _ rfl rfl (HO.o.bz bel) rfl (AtomsV.oneB (Blk.newE rfl)) (by simp;omega) (by simp;omega) ?_;intro A4 d4 w4 o4 hg4 hB4;rw[List.length_append,List.length_singleton] at o4 ⊢;have ko4:=Blk.zm (g:=x2) (hg:=hg4) (ko.alloc _) (HO.o.bz (bbox (Below.refl _ _) _)).1 (by decide);have kr4:=Blk.zm (g:=w.heap.size+1) (hg:=hg4) (kr.alloc _) (HO.o.bz (bbox (Below.refl _ _) _)).1 (by decide);have of4:=FactsO.grownA (HOF.o.bz (bbox (Below.refl _ _) _)) (HO.o.bz (bbox (Below.refl _ _) _)) hg4;(replace qko4:=ko4.z;replace qkr4:=kr4.cell;replace rkr4:=kr4.frozen;replace lkr4:=kr4.lt);clear hg4));have hF4:Fr g w w4:=(HF.o.alloc _).goB hB4 (Nat.le_refl _);have hR4:Rdr w4 g (p+1):=(HR.o.bz (bbox (Below.refl _ _) _)).belowB hB4 hlt
      go_roundg (7 - (xs.length+1))
      case rel=>exact ⟨xs++[⟨2,1,1⟩],A4,d4,by simp;omega,Or.inl (by simp;omega),by simpa[aJ] using o4.setT ko4 (by decide) 1 (.slice A4 (xs.length+1) d4),by simpa[aJ] using of4.setT ko4 (by decide) 1 (.slice A4 (xs.length+1) d4),by simpa using ko4.set_ 1 (.slice A4 (xs.length+1) d4),kr4.far (by simp only;omega) _,hR4.set_ (by simp only;omega) _,hF4.set_ (Or.inr (by simp only;omega)) _⟩
      case measure=>omega
     ·have hlei:¬(xs.length:Int)≤6:=by omega
      (go_wp2_with fail);refine bodyPost_ret (v:=.agg #[.slice F a.facts.length e1,.slice B xs.length d]) (by simp[results,Tryz.results79,go_sem,qkr]) rfl ⟨_,rfl,⟨a.facts,xs⟩,⟨_,_,rfl,?_,?_⟩,by simp only;omega,by have:=HX.o;simp only;omega,p+1,?_,by omega,?_⟩
      ·exact (HOF.o.setT kr (by decide) 0 _).setT (kr.set_ 0 _) (by decide) 1 _
      ·exact (HO.o.setT kr (by decide) 0 _).setT (kr.set_ 0 _) (by decide) 1 _
      ·exact (HR.o.set_ (by simp only;omega) _).set_ (by simp only;omega) _
      ·exact (HF.o.set_ (Or.inr (by simp only;omega)) _).set_ (Or.inr (by simp only;omega)) _
   ·have t2:((m:Int) == 2)=false:=by simpa using hm2
    clear hm2;(go_wp2_with fail);refine bodyPost_ret (v:=.agg #[.slice F a.facts.length e1,.slice G a.atoms.length e2]) (by simp[results,Tryz.results79,go_sem,qkr]) rfl ⟨_,a,p+1,rfl,⟨_,_,rfl,?_,?_⟩,by omega,by omega,?_,by omega,?_⟩
    ·exact (HO1.o.setT kr (by decide) 0 _).setT (kr.set_ 0 _) (by decide) 1 _
    ·exact (HO2.o.setT kr (by decide) 0 _).setT (kr.set_ 0 _) (by decide) 1 _
    ·exact (HR2.o.set_ (by simp only;omega) _).set_ (by simp only;omega) _
    ·exact (HF2.o.set_ (Or.inr (by simp only;omega)) _).set_ (Or.inr (by simp only;omega)) _
def FactsI (w:World) (lo hi:Nat) (v:Value) (fs:List Fct):Prop:=FactsO w lo v fs∧Und v hi
def AtomsI (w:World) (lo hi:Nat) (v:Value) (fs:List Atm):Prop:=AtomsO w lo v fs∧Und v hi
def IntsI (w:World) (lo hi:Nat) (v:Value) (fs:List Int):Prop:=IntsO w lo v fs∧Und v hi
def AsnI (w:World) (lo hi:Nat) (v:Value) (a:Asn):Prop:=∃ fv av,v=.agg #[fv,av]∧FactsI w lo hi fv a.facts∧AtomsI w lo hi av a.atoms
section
variable {w w':World} {lo hi lo' hi' a b:Nat} {v:Value}
theorem und_range {w:World} {base:Nat} {e:TypeId} {size:Nat} {v:Value} {n:Nat} {xs:List Value} {hi:Nat} (h:w.ownsRow base e size v n xs) (hu:Und v hi):∀ g,v.ownBlock=some g→base≤g∧g<hi:=fun g hg=>⟨(h.lt g hg).1,hu g hg⟩
theorem FactsI.bz {fs:List Fct} (h:FactsI w lo hi v fs) (hb:Below w.heap.size w w'):FactsI w' lo hi v fs:=⟨h.1.bz hb,h.2⟩
theorem AtomsI.bz {fs:List Atm} (h:AtomsI w lo hi v fs) (hb:Below w.heap.size w w'):AtomsI w' lo hi v fs:=⟨h.1.bz hb,h.2⟩
theorem IntsI.bz {fs:List Int} (h:IntsI w lo hi v fs) (hb:Below w.heap.size w w'):IntsI w' lo hi v fs:=⟨h.1.bz hb,h.2⟩
theorem AsnI.bz {x:Asn} (h:AsnI w lo hi v x) (hb:Below w.heap.size w w'):AsnI w' lo hi v x:=by
 obtain ⟨fv,av,e,h1,h2⟩:=h;exact ⟨fv,av,e,h1.bz hb,h2.bz hb⟩
theorem FactsI.mk {fs:List Fct} (h:FactsI w lo hi v fs) (hb:Mk (fun g=>a≤g∧g<b) w w') (hd:hi≤a∨b≤lo):FactsI w' lo hi v fs:=
 ⟨h.1.mk hb fun g hg hp=>by have:=und_range h.1.1 h.2 g hg;omega,h.2⟩
theorem AtomsI.mk {fs:List Atm} (h:AtomsI w lo hi v fs) (hb:Mk (fun g=>a≤g∧g<b) w w') (hd:hi≤a∨b≤lo):AtomsI w' lo hi v fs:=
 ⟨h.1.mk hb fun g hg hp=>by have:=und_range h.1.1 h.2 g hg;omega,h.2⟩
theorem IntsI.mk {fs:List Int} (h:IntsI w lo hi v fs) (hb:Mk (fun g=>a≤g∧g<b) w w') (hd:hi≤a∨b≤lo):IntsI w' lo hi v fs:=
 ⟨h.1.mk hb fun g hg hp=>by have:=und_range h.1.1 h.2 g hg;omega,h.2⟩
theorem AsnI.mk {x:Asn} (h:AsnI w lo hi v x) (hb:Mk (fun g=>a≤g∧g<b) w w') (hd:hi≤a∨b≤lo):AsnI w' lo hi v x:=by
 obtain ⟨fv,av,e,h1,h2⟩:=h;exact ⟨fv,av,e,h1.mk hb hd,h2.mk hb hd⟩
theorem FactsI.form {fs:List Fct} (h:FactsI w lo hi v fs):∃ A c,v=.slice A fs.length c:=by obtain ⟨A,c,e,-⟩:=h.1.rj;exact ⟨A,c,e⟩
theorem AtomsI.form {fs:List Atm} (h:AtomsI w lo hi v fs):∃ A c,v=.slice A fs.length c:=by obtain ⟨A,c,e,-⟩:=h.1.rj;exact ⟨A,c,e⟩
theorem IntsI.form {fs:List Int} (h:IntsI w lo hi v fs):∃ A c,v=.slice A fs.length c:=by obtain ⟨A,c,e,-⟩:=h.1.rj;exact ⟨A,c,e⟩
theorem AsnI.form {x:Asn} (h:AsnI w lo hi v x):∃ A c B d,v=.agg #[.slice A x.facts.length c,.slice B x.atoms.length d]:=by
 obtain ⟨fv,av,rfl,h1,h2⟩:=h;obtain ⟨A,c,rfl⟩:=h1.form;obtain ⟨B,d,rfl⟩:=h2.form;exact ⟨A,c,B,d,rfl⟩
theorem IntsI.rj {A:Option Addr} {n c:Nat} {fs:List Int} (h:IntsI w lo hi (.slice A n c) fs):IntsV w lo w.heap.size A fs:=h.1.readsI.2
theorem AsnI.rj {x:Asn} (h:AsnI w lo hi v x):AsnV w lo w.heap.size v x:=by
 obtain ⟨fv,av,e,h1,h2⟩:=h;exact AsnO.rj ⟨fv,av,e,h1.1,h2.1⟩
theorem FactsO.I {fs:List Fct} (h:FactsO w lo v fs):FactsI w lo w.heap.size v fs:=⟨h,h.und⟩
theorem AtomsO.I {fs:List Atm} (h:AtomsO w lo v fs):AtomsI w lo w.heap.size v fs:=⟨h,h.und⟩
theorem IntsO.I {fs:List Int} (h:IntsO w lo v fs):IntsI w lo w.heap.size v fs:=⟨h,h.und⟩
theorem AsnO.I {x:Asn} (h:AsnO w lo v x):AsnI w lo w.heap.size v x:=by
 obtain ⟨fv,av,e,h1,h2⟩:=h;exact ⟨fv,av,e,h1.I,h2.I⟩
theorem AsnI.len {x:Asn} (h:AsnI w lo hi v x):x.facts.length≤1049600∧x.atoms.length≤1049600:=by
 obtain ⟨fv,av,e,h1,h2⟩:=h;exact ⟨h1.1.2,h2.1.2⟩
theorem IntsI.len {x:List Int} (h:IntsI w lo hi v x):x.length≤1049600:=h.1.2
theorem Mk.keepB {B:Nat} {w0:World} (h:Below B w0 w) (hm:Mk (fun g=>a≤g∧g<b) w w') (hB:B≤a) (hs:B≤w.heap.size):Below B w0 w':=
 h.trans (hm.bz (fun k hk=>by omega) hs)
end
end
end Go.Proofs.YtjaohekkmlkinaaGreat
