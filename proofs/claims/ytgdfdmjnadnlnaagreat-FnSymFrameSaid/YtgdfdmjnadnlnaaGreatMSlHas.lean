/- Words for memory: slices that read as lists of cells, whole blocks, prefixes. Plain lemmas; no program. -/
import Derived.WalkKit
import Derived.Lib.Hide
import Derived.BigQuiet
import Derived.Deep.QuietTactic
import Derived.Deep.AppendLies
import Derived.Deep.Draws
import Derived.Deep.RegionHeld
import Derived.Deep.RegionHeld3
import Derived.OwnWalk
import Derived.StillTailTactics
import Derived.Test.YtgdfdmjnadnlnaaGreatProg
import Derived.ProofKit
import Derived.OpenShut
import Derived.Deep.Slices
import Derived.ChangeSame
import Derived.Laws.BitsAllLaws
import Derived.Laws.BitsLemmas
import Derived.StillTail
import Derived.RangeFuncWrites
import Derived.RangeFuncLeaves
import Derived.RangeFuncBound
import Derived.RangeFuncCalls
import Derived.OwnWalkIn
import Derived.TacticsInMore
import Derived.LoopNIn
import Derived.LoopIn
import Derived.OrdersIn
set_option linter.unusedSimpArgs false
set_option linter.unusedVariables false
set_option maxRecDepth 100000
set_option maxHeartbeats 25600000
namespace Go.Proofs.YtgdfdmjnadnlnaaGreat
section
open Go Go.RowKit
def aJ (p:Prop):Prop:=p
theorem aJ.o {p:Prop} (h:aJ p):p:=h
theorem ax {p:Prop} (h:p):aJ p:=h
abbrev Lim (n:Nat):Prop:=n≤1049600
theorem ret_bool {a b:Bool} (h:a=b):Ending.returned (.bool a)=.returned (.bool b):=by rw[h]
theorem ret_int {k:IntKind} {a b:Int} (h:a=b):Ending.returned (.int k a)=.returned (.int k b):=by rw[h]
def Rw (w:World) (lo hi size:Nat) (A:Option Addr) (n:Nat) (xs:List Value):Prop:=
 xs.length=n * size∧(0<n * size→∃ b o,A=some ⟨b,o,none⟩∧lo≤b∧b<hi∧∀ j u,xs[j]? = some u→w.cell? ⟨b,o+j,none⟩=some u)
structure Rd (w:World) (lo hi size:Nat) (A:Option Addr) (n:Nat) (xs:List Value):Prop where
 raw:Rw w lo hi size A n xs
 lim:Lim n
section
variable {w w':World} {lo hi lo' hi' size n:Nat} {A:Option Addr} {xs:List Value}
theorem Rw.keep (h:Rw w lo hi size A n xs) (hk:∀ b,lo≤b→b<hi→w'.heap[b]? = w.heap[b]?):Rw w' lo hi size A n xs:=
 ⟨h.1,fun hn=>by
  obtain ⟨b,o,e,h1,h2,hc⟩:=h.2 hn
  exact ⟨b,o,e,h1,h2,fun j u hu=>(World.cell?_of_block (a:=⟨b,o+j,none⟩) (hk b h1 h2)).trans (hc j u hu)⟩⟩
theorem Rw.mono (h:Rw w lo hi size A n xs) (h1:lo'≤lo) (h2:hi≤hi'):Rw w lo' hi' size A n xs:=
 ⟨h.1,fun hn=>by
  obtain ⟨b,o,e,g1,g2,hc⟩:=h.2 hn
  exact ⟨b,o,e,by omega,by omega,hc⟩⟩
theorem Rd.keep (h:Rd w lo hi size A n xs) (hk:∀ b,lo≤b→b<hi→w'.heap[b]? = w.heap[b]?):Rd w' lo hi size A n xs:=⟨h.raw.keep hk,h.lim⟩
theorem Rd.mono (h:Rd w lo hi size A n xs) (h1:lo'≤lo) (h2:hi≤hi'):Rd w lo' hi' size A n xs:=⟨h.raw.mono h1 h2,h.lim⟩
theorem Rd.le (h:Rd w lo hi size A n xs):n≤1049600:=h.lim
theorem Rd.nil (w:World) (lo hi size:Nat) (A:Option Addr):Rd w lo hi size A 0 []:=⟨⟨by simp,fun h=>absurd h (by omega)⟩,by simp[Lim]⟩
theorem Rw.at1 (h:Rw w lo hi 1 A n xs) {k:Nat} (hk:k<n):∃ b o u,A=some ⟨b,o,none⟩∧lo≤b∧b<hi∧xs[k]? = some u∧w.cell? ⟨b,o+k,none⟩=some u:=by
 obtain ⟨b,o,e,h1,h2,hc⟩:=h.2 (by omega);have hl:k<xs.length:=by have:=h.1;omega
 exact ⟨b,o,xs[k],e,h1,h2,List.getElem?_eq_getElem hl,hc k _ (List.getElem?_eq_getElem hl)⟩
theorem Rw.form (h:Rw w lo hi size A n xs) (hn:0<n * size):∃ b o,A=some ⟨b,o,none⟩∧lo≤b∧b<hi∧∀ j u,xs[j]? = some u→w.cell? ⟨b,o+j,none⟩=some u:=h.2 hn
end
def Blk (w:World) (g:Nat) (t:TypeId) (cs:Array Value):Prop:=w.heap[g]? = some (.cells cs t (0,0))
section
variable {w w':World} {g:Nat} {t:TypeId} {cs:Array Value}
theorem Blk.lt (h:Blk w g t cs):g<w.heap.size:=by
 rcases Nat.lt_or_ge g w.heap.size with hlt|hge
 ·exact hlt
 ·unfold Blk at h;rw[Array.getElem?_eq_none hge] at h;cases h
theorem Blk.cell (h:Blk w g t cs) (i:Nat):w.cell? ⟨g,i,none⟩=cs[i]?:=cell_of_row w g i cs t (0,0) h
theorem Blk.frozen (h:Blk w g t cs) (i:Nat):w.frozen? ⟨g,i,none⟩=false:=by
 unfold Blk at h;simp[World.frozen?,h]
theorem Blk.z (h:Blk w g t cs):(∀ i:Nat,w.cell? ⟨g,i,none⟩=cs[i]?)∧(∀ i:Nat,w.frozen? ⟨g,i,none⟩=false)∧g<w.heap.size:=⟨h.cell,h.frozen,h.lt⟩
theorem Blk.new (w:World) (t:TypeId) (cs:Array Value):Blk (w.alloc (.cells cs t)) w.heap.size t cs:=heap_alloc_new w _
theorem Blk.newE {w:World} {g:Nat} {t:TypeId} {cs:Array Value} (hg:g=w.heap.size):Blk (w.alloc (.cells cs t)) g t cs:=by subst hg;exact Blk.new w t cs
theorem Blk.drew (h:Blk w g t cs):Blk w.drew g t cs:=h
theorem Blk.drewN (h:Blk w g t cs) (n:Nat):Blk (w.drewN n) g t cs:=h
theorem Blk.alloc (h:Blk w g t cs) (o:Obj):Blk (w.alloc o) g t cs:=(Below.heap_alloc w o g h.lt).trans h
theorem Blk.set_ (h:Blk w g t cs) (i:Nat) (u:Value):Blk (w.setCell ⟨g,i,none⟩ u) g t (cs.setIfInBounds i u):=by
 unfold Blk at h ⊢;simp[World.setCell,Array.getElem?_modify,h]
theorem Blk.far (h:Blk w g t cs) {p:Addr} (hp:g≠p.block) (u:Value):Blk (w.setCell p u) g t cs:=(Below.heap_setCell w p u g hp).trans h
theorem Blk.bz {B:Nat} (h:Blk w g t cs) (hb:Below B w w') (hg:g<B):Blk w' g t cs:=(hb.block g hg).trans h
theorem Blk.grown {row:Option Nat} (h:Blk w g t cs) (hb:w.grownBy w' row) (hg:some g≠row):Blk w' g t cs:=(hb.block g h.lt hg).trans h
theorem Blk.ne_ {g2:Nat} {t2:TypeId} {cs2:Array Value} (h:Blk w g t cs) (h2:Blk w g2 t2 cs2) (ht:t≠t2):g≠g2:=by
 rintro rfl;unfold Blk at h h2;rw[h] at h2;injection h2 with h2;injection h2 with _ h3;exact ht h3
end
def Pre (cs:Array Value) (L:List Value) (m:Nat):Prop:=∀ j,j<m→cs[j]? = L[j]?
theorem Pre.zero (cs:Array Value) (L:List Value):Pre cs L 0:=fun j h=>absurd h (by omega)
theorem Pre.take {cs:Array Value} {L:List Value} (h:Pre cs L L.length):cs.toList.take L.length=L:=by
 apply List.ext_getElem?;intro j;rw[List.getElem?_take];by_cases hj:j<L.length
 ·rw[if_pos hj];simpa using h j hj
 ·rw[if_neg hj];simp;omega
theorem own_of_blk {w:World} {g base n size cap:Nat} {t:TypeId} {cs:Array Value} {L:List Value} (h:Blk w g t cs) (hb:base≤g) (hL:L.length=n * size) (hp:Pre cs L (n * size)) (hnc:n≤cap) (hc:cap≤maxLen) (hs:cs.size=cap * size) :
  w.ownsRow base t size (.slice (some ⟨g,0,none⟩) n cap) n L:=by
 refine ⟨hL,.inr ⟨g,cap,cs,rfl,hb,h,hnc,hc,hs,?_⟩⟩;rw[←hL] at hp ⊢;exact hp.take
theorem own_reads {w:World} {base:Nat} {e:TypeId} {size:Nat} {v:Value} {n:Nat} {xs:List Value} (h:w.ownsRow base e size v n xs) (hl:Lim n):∃ A c,v=.slice A n c∧Rd w base w.heap.size size A n xs:=by
 obtain ⟨h1,h2⟩:=h;rcases h2 with ⟨rfl,rfl⟩|⟨g,cap,cur,rfl,hb,hg,hn,hm,hs,ht⟩
 ·exact ⟨none,0,rfl,⟨⟨h1,fun hn=>absurd hn (by omega)⟩,hl⟩⟩
 ·refine ⟨_,_,rfl,⟨⟨h1,fun hn0=>⟨g,0,rfl,hb,Blk.lt hg,fun j u hu=>?_⟩⟩,hl⟩⟩;rw[Nat.zero_add,cell_of_row w g j cur e (0,0) hg];rw[←ht,List.getElem?_take] at hu
  split at hu
  ·simpa using hu
  ·cases hu
theorem own_below {w w':World} {base:Nat} {e:TypeId} {size:Nat} {v:Value} {n:Nat} {xs:List Value} (h:w.ownsRow base e size v n xs) (hb:Below w.heap.size w w'):w'.ownsRow base e size v n xs:=by
 obtain ⟨h1,h2⟩:=h;refine ⟨h1,?_⟩;rcases h2 with h2|⟨g,cap,cur,hv,hg,hh,r⟩
 ·exact Or.inl h2
 ·exact Or.inr ⟨g,cap,cur,hv,hg,(hb.block g (Blk.lt hh)).trans hh,r⟩
theorem own_lower {w:World} {base base':Nat} {e:TypeId} {size:Nat} {v:Value} {n:Nat} {xs:List Value} (h:w.ownsRow base e size v n xs) (hb:base'≤base):w.ownsRow base' e size v n xs:=by
 obtain ⟨h1,h2⟩:=h;refine ⟨h1,?_⟩;rcases h2 with h2|⟨g,cap,cur,hv,hg,r⟩
 ·exact Or.inl h2
 ·exact Or.inr ⟨g,cap,cur,hv,by omega,r⟩
theorem below_drewN {B:Nat} {a w:World} (h:Below B a w) (n:Nat):Below B a (w.drewN n):=⟨h.os,h.tape,h.output,h.size,h.block⟩
theorem btoB {w w':World} {B:Nat} (h:Below w.heap.size w w') (hB:B≤w.heap.size):Below B w w':=h.mono hB
theorem bgo {w a b:World} (h:Below w.heap.size w a) (h2:Below a.heap.size a b):Below w.heap.size w b:=h.trans (h2.mono h.size)
theorem bbox {w a:World} (h:Below w.heap.size w a) (o:Obj):Below w.heap.size w (a.alloc o):=h.alloc h.size o
theorem Rw.bz {w w':World} {lo hi size n:Nat} {A:Option Addr} {xs:List Value} (h:Rw w lo hi size A n xs) (hb:Below w.heap.size w w'):Rw w' lo hi size A n xs:=
 ⟨h.1,fun hn=>by
  obtain ⟨b,o,e,h1,h2,hc⟩:=h.2 hn;have h0:=h.1;have hx:xs[0]? = some (xs[0]'(by omega)):=List.getElem?_eq_getElem (by omega);have hlt:b<w.heap.size:=block_lt_of_cell (hc 0 _ hx)
  exact ⟨b,o,e,h1,h2,fun j u hu=>(World.cell?_of_block (a:=⟨b,o+j,none⟩) (hb.block b hlt)).trans (hc j u hu)⟩⟩
theorem Rd.bz {w w':World} {lo hi size n:Nat} {A:Option Addr} {xs:List Value} (h:Rd w lo hi size A n xs) (hb:Below w.heap.size w w'):Rd w' lo hi size A n xs:=⟨h.raw.bz hb,h.lim⟩
theorem Blk.nz {w w':World} {g:Nat} {t:TypeId} {cs:Array Value} (h:Blk w g t cs) (hb:Below w.heap.size w w'):Blk w' g t cs:=h.bz hb h.lt
structure Abv (lo:Nat) (w w':World):Prop where
 size:w.heap.size≤w'.heap.size
 block:∀ k,lo≤k→k<w.heap.size→w'.heap[k]? = w.heap[k]?
theorem Abv.refl (lo:Nat) (w:World):Abv lo w w:=⟨Nat.le_refl _,fun _ _ _=>rfl⟩
theorem Abv.trans {lo:Nat} {a b c:World} (h:Abv lo a b) (k:Abv lo b c):Abv lo a c:=
 ⟨Nat.le_trans h.size k.size,fun i h1 h2=>(k.block i h1 (Nat.lt_of_lt_of_le h2 h.size)).trans (h.block i h1 h2)⟩
theorem Abv.setCell {lo:Nat} {a b:World} (h:Abv lo a b) {p:Addr} (hp:p.block<lo) (u:Value):Abv lo a (b.setCell p u):=
 h.trans ⟨by simp,fun k h1 _=>Below.heap_setCell b p u k (by omega)⟩
theorem Abv.alloc {lo:Nat} {a b:World} (h:Abv lo a b) (o:Obj):Abv lo a (b.alloc o):=
 h.trans ⟨by simp,fun k _ h2=>Below.heap_alloc b o k h2⟩
theorem Abv.nz {lo:Nat} {a b c:World} (h:Abv lo a b) (hb:Below b.heap.size b c):Abv lo a c:=
 h.trans ⟨hb.size,fun k _ h2=>hb.block k h2⟩
theorem Rw.abv {w w':World} {lo hi lo' size n:Nat} {A:Option Addr} {xs:List Value} (h:Rw w lo hi size A n xs) (hb:Abv lo' w w') (hl:lo'≤lo):Rw w' lo hi size A n xs:=
 ⟨h.1,fun hn=>by
  obtain ⟨b,o,e,h1,h2,hc⟩:=h.2 hn;have h0:=h.1;have hx:xs[0]? = some (xs[0]'(by omega)):=List.getElem?_eq_getElem (by omega);have hlt:b<w.heap.size:=block_lt_of_cell (hc 0 _ hx)
  exact ⟨b,o,e,h1,h2,fun j u hu=>(World.cell?_of_block (a:=⟨b,o+j,none⟩) (hb.block b (by omega) hlt)).trans (hc j u hu)⟩⟩
theorem Rd.abv {w w':World} {lo hi lo' size n:Nat} {A:Option Addr} {xs:List Value} (h:Rd w lo hi size A n xs) (hb:Abv lo' w w') (hl:lo'≤lo):Rd w' lo hi size A n xs:=⟨h.raw.abv hb hl,h.lim⟩
theorem own_abv {w w':World} {base lo:Nat} {e:TypeId} {size:Nat} {v:Value} {n:Nat} {xs:List Value} (h:w.ownsRow base e size v n xs) (hb:Abv lo w w') (hl:lo≤base):w'.ownsRow base e size v n xs:=by
 obtain ⟨h1,h2⟩:=h;refine ⟨h1,?_⟩;rcases h2 with h2|⟨g,cap,cur,hv,hg,hh,r⟩
 ·exact Or.inl h2
 ·exact Or.inr ⟨g,cap,cur,hv,hg,(hb.block g (by omega) (Blk.lt hh)).trans hh,r⟩
theorem bcell {W w1:World} (hb:Below W.heap.size W w1):(∀ b o,b<W.heap.size→w1.cell? ⟨b,o,none⟩=W.cell? ⟨b,o,none⟩)∧(∀ b o,b<W.heap.size→w1.frozen? ⟨b,o,none⟩=W.frozen? ⟨b,o,none⟩):=
 ⟨fun b o h=>hb.cell (p:=⟨b,o,none⟩) h,fun b o h=>hb.frozen (p:=⟨b,o,none⟩) h⟩
theorem bel {B:Nat} {a w:World} (h:Below B a w:=by repeat (first|(with_reducible exact Below.refl _ _)|(with_reducible assumption)|(with_reducible apply bbox)|((with_reducible apply Below.setCell);(case hp=>(first|exact Nat.le_refl _|(simp;done)|(simp;omega)|(simp only;omega)|omega)))|(with_reducible apply Below.drew)|(with_reducible apply below_drewN))):Below B a w:=h
theorem blks {w:World} {g:Nat} {t:TypeId} {cs:Array Value} (h:Blk w g t cs:=by repeat (first|(with_reducible assumption)|(with_reducible exact Blk.new _ _ _)|((with_reducible apply Blk.far);(case hp=>(first|exact Nat.le_refl _|(simp;done)|(simp;omega)|(simp only;omega)|omega)))|(with_reducible apply Blk.set_)|((with_reducible refine Blk.newE ?_);(simp;done))|(with_reducible apply Blk.alloc)|(with_reducible apply Blk.drew)|(with_reducible apply Blk.drewN))):Blk w g t cs:=h
/-! shorter words for the moves through a drawn region -/
theorem zA {α:Type} {xs:List α} {i:Nat} (h:i<xs.toArray.size):xs.toArray[i]=xs[i]'(by simpa using h):=List.getElem_toArray h
theorem zB {α:Type} {a:α} {ls:List α} (h:0<(a :: ls).length):(a :: ls)[0]=a:=rfl
theorem zC {α:Type} {a:α} {ls:List α} {i:Nat} (h:i+1<(a :: ls).length):(a :: ls)[i+1]=ls[i]'(Nat.lt_of_succ_lt_succ h):=rfl
theorem zD {α:Type} {xs:List α} {i:Nat} {v:α}:xs.toArray.setIfInBounds i v=(xs.set i v).toArray:=List.setIfInBounds_toArray _ _ _
theorem zE {α:Type} {a b:α} {ls:List α}:(a :: ls).set 0 b=b :: ls:=rfl
theorem zF {α:Type} {a b:α} {ls:List α} {i:Nat}:(a :: ls).set (i+1) b=a :: ls.set i b:=rfl
/-! boxes made at the beginning -/
theorem bx2 {w:World} {F:World→Prop} {t1 t2:TypeId} {c1 c2:Array Value} (h:∀ W,Blk W w.heap.size t1 c1→Blk W (w.heap.size+1) t2 c2→Below w.heap.size w W→W.heap.size=w.heap.size+2→F W):F ((w.alloc (.cells c1 t1)).alloc (.cells c2 t2)):=
 h _ ((Blk.new _ _ _).alloc _) (by have:=Blk.new (w.alloc (.cells c1 t1)) t2 c2;rwa [World.size_alloc] at this) (((Below.refl _ _).alloc (Nat.le_refl _) _).alloc (by simp) _) (by simp)
theorem bx3 {w:World} {F:World→Prop} {t1 t2 t3:TypeId} {c1 c2 c3:Array Value} (h:∀ W,Blk W w.heap.size t1 c1→Blk W (w.heap.size+1) t2 c2→Blk W (w.heap.size+1+1) t3 c3→Below w.heap.size w W→W.heap.size=w.heap.size+3→F W):F (((w.alloc (.cells c1 t1)).alloc (.cells c2 t2)).alloc (.cells c3 t3)):=
 h _ (((Blk.new _ _ _).alloc _).alloc _) ((by have:=Blk.new (w.alloc (.cells c1 t1)) t2 c2;rwa [World.size_alloc] at this:Blk _ (w.heap.size+1) t2 c2).alloc _) (by have:=Blk.new ((w.alloc (.cells c1 t1)).alloc (.cells c2 t2)) t3 c3;rwa [World.size_alloc,World.size_alloc] at this) ((((Below.refl _ _).alloc (Nat.le_refl _) _).alloc (by simp) _).alloc (by simp;omega) _) (by simp)
theorem zz:(∀ {α:Type} {xs:List α} {i:Nat} (h:i<xs.toArray.size),xs.toArray[i]=xs[i]'(by simpa using h))∧(∀ {α:Type} {a:α} {ls:List α} (_:0<(a :: ls).length),(a :: ls)[0]=a)∧(∀ {α:Type} {a:α} {ls:List α} {i:Nat} (h:i+1<(a :: ls).length),(a :: ls)[i+1]=ls[i]'(Nat.lt_of_succ_lt_succ h))∧
  (∀ {α:Type} {xs:List α} {i:Nat} {v:α},xs.toArray.setIfInBounds i v=(xs.set i v).toArray)∧(∀ {α:Type} {a b:α} {ls:List α},(a :: ls).set 0 b=b :: ls)∧(∀ {α:Type} {a b:α} {ls:List α} {i:Nat},(a :: ls).set (i+1) b=a :: ls.set i b)∧
  (∀ (a:Act) (d:Tmp) (v:Value),a.put (some d) v = { a with tmps:=a.tmps.setIfInBounds d v })∧(∀ (a:Act) (v:Value),a.put none v=a):=
 ⟨fun h=>zA h,fun h=>zB h,fun h=>zC h,zD,zE,zF,fun _ _ _=>rfl,fun _ _=>rfl⟩
section
variable {P:Program} {md:Region.Mode} {ops:Array Oper} {S:World→Prop} {Q:Exit→Act→World→Prop} {fuel:Nat} {listed:Array Bool} {a:Act} {w:World}
theorem tk (i:Nat) (v:Value) {o:Oper} (hi:ops[i]? = some o) (hy:∀ w,S w→(execOp a.eval o).run P w=.ok (.value v) w) (hS:S w) (h:wpAnyH P md ops Q S fuel (listed.setIfInBounds i true) (a.put o.dst v) w)
  (hn:Region.wanted o (yielded ops a.tmps)=true:=by rfl) (hs:Region.noSelect ops=true:=by kernel_rfl) (hf:Region.free md ops listed i=true:=by kernel_rfl) (hr:(Region.ready md ops listed).contains i=true:=by kernel_rfl) (hQ:∀ c a w,Q (.panic c) (a.put o.dst v) w→Q (.panic c) a w:=by exact fun _ _ _ h=>h):wpAnyH P md ops Q S (fuel+1) listed a w:=
 wpAnyH_take hi hs hf hr hQ (Or.inl ⟨hn,hy⟩) hS h
theorem tk2 (i:Nat) {v:Value} {o:Oper} (hi:ops[i]? = some o) (hS:S w)
  (hy:∀ w,S w→(execOp a.eval o).run P w=.ok (.value v) w:=by (intro w hSw;(try dsimp only at hSw);go_split_ands;(try simp only[zz]);go_simp;(try with_reducible rfl)))
  (hn:Region.wanted o (yielded ops a.tmps)=true:=by rfl) (hs:Region.noSelect ops=true:=by kernel_rfl) (hf:Region.free md ops listed i=true:=by kernel_rfl) (hr:(Region.ready md ops listed).contains i=true:=by kernel_rfl) (hQ:∀ c a w,Q (.panic c) (a.put o.dst v) w→Q (.panic c) a w:=by exact fun _ _ _ h=>h)
  (h:wpAnyH P md ops Q S fuel (listed.setIfInBounds i true) (a.put o.dst v) w):wpAnyH P md ops Q S (fuel+1) listed a w:=
 tk i v hi hy hS h hn hs hf hr hQ
theorem dn1 {Q:Exit→Act→World→Prop} (h:Q .normal a w) (hr:Region.ready md ops listed=[]:=by kernel_rfl):wpAnyH P md ops (NoPanic Q) S fuel listed a w:=wpAnyH_done hr (NoPanic.normal h) _
theorem rdd (i j:Nat) {o o':Oper} (ho:ops[i]? = some o) (ho':ops[j]? = some o') (h:∀ K':Act→World→Prop,Shut (∀ a w,S w→(S w→wpAnyH P md ops Q S fuel (listed.setIfInBounds i true) a w)→K' a w)→if Region.wanted o (yielded ops a.tmps)=true then Oper.wp P o a w K' Q else K' (a.put o.dst undef) w)
  (h':∀ K':Act→World→Prop,Shut (∀ a w,S w→(S w→wpAnyH P md ops Q S fuel (listed.setIfInBounds j true) a w)→K' a w)→if Region.wanted o' (yielded ops a.tmps)=true then Oper.wp P o' a w K' Q else K' (a.put o'.dst undef) w)
  (hr:Region.ready md ops listed=[i,j]:=by kernel_rfl):wpAnyH P md ops Q S (fuel+1) listed a w:=wpAnyH_ready hr (by simp) (AllReadyH.cons ho h (AllReadyH.cons ho' h' AllReadyH.nil))
theorem tku (i:Nat) {o:Oper} (hi:ops[i]? = some o) (hS:S w) (h:wpAnyH P md ops Q S fuel (listed.setIfInBounds i true) (a.put o.dst undef) w)
  (hn:Region.wanted o (yielded ops a.tmps)=false:=by rfl) (hs:Region.noSelect ops=true:=by kernel_rfl) (hf:Region.free md ops listed i=true:=by kernel_rfl) (hr:(Region.ready md ops listed).contains i=true:=by kernel_rfl) (hQ:∀ c a w,Q (.panic c) (a.put o.dst undef) w→Q (.panic c) a w:=by exact fun _ _ _ h=>h):wpAnyH P md ops Q S (fuel+1) listed a w:=
 wpAnyH_take hi hs hf hr hQ (Or.inr ⟨hn,rfl⟩) hS h
theorem rdc (i:Nat) {o:Oper} (ho:ops[i]? = some o) (h:∀ K':Act→World→Prop,Shut (∀ a w,S w→(S w→wpAnyH P md ops Q S fuel (listed.setIfInBounds i true) a w)→K' a w)→if Region.wanted o (yielded ops a.tmps)=true then Oper.wp P o a w K' Q else K' (a.put o.dst undef) w)
  (hr:Region.ready md ops listed=[i]:=by kernel_rfl):wpAnyH P md ops Q S (fuel+1) listed a w:=wpAnyH_ready hr (by simp) (AllReadyH.cons ho h AllReadyH.nil)
end
structure Fct where
 eq:Bool
 a:Int
 b:Int
deriving DecidableEq,Inhabited
structure Atm where
 kind:Int
 a:Int
 b:Int
deriving DecidableEq,Inhabited
structure Asn where
 facts:List Fct
 atoms:List Atm
deriving DecidableEq,Inhabited
structure Ste where
 values:List Int
 heap:List Int
deriving DecidableEq,Inhabited
def Fct.enc (f:Fct):List Value:=[.bool f.eq,.int .i64 f.a,.int .i64 f.b]
def Atm.enc (x:Atm):List Value:=[.int .i64 x.kind,.int .i64 x.a,.int .i64 x.b]
abbrev Fct.val (f:Fct):Value:=.agg #[.bool f.eq,.int .i64 f.a,.int .i64 f.b]
abbrev Atm.val (x:Atm):Value:=.agg #[.int .i64 x.kind,.int .i64 x.a,.int .i64 x.b]
theorem flat3 {α:Type} (f0 f1 f2:α→Value) (fs:List α) (k:Nat) (hk:k<fs.length) :
  (fs.flatMap fun x=>[f0 x,f1 x,f2 x])[k*3]? = some (f0 fs[k])∧(fs.flatMap fun x=>[f0 x,f1 x,f2 x])[k*3+1]? = some (f1 fs[k])∧(fs.flatMap fun x=>[f0 x,f1 x,f2 x])[k*3+2]? = some (f2 fs[k]):=by
 induction fs generalizing k with
 | nil=>simp at hk
 | cons f fs ih=>
  cases k with
  | zero=>simp
  | succ k=>
   have:=ih k (by simpa using hk);simp only[List.flatMap_cons,List.getElem_cons_succ,List.getElem?_append,List.length_cons,List.length_nil];rw[if_neg (by omega),if_neg (by omega),if_neg (by omega)];have e1:(k+1)*3 - (0+1+1+1)=k*3:=by omega
   have e2:(k+1)*3+1 - (0+1+1+1)=k*3+1:=by omega
   have e3:(k+1)*3+2 - (0+1+1+1)=k*3+2:=by omega
   rw[e1,e2,e3];exact this
theorem len3 {α:Type} (f0 f1 f2:α→Value) (fs:List α):(fs.flatMap fun x=>[f0 x,f1 x,f2 x]).length=fs.length * 3:=by
 induction fs with
 | nil=>rfl
 | cons f fs ih=>simp only[List.flatMap_cons,List.length_append,ih,List.length_cons,List.length_nil];omega
abbrev encF (fs:List Fct):List Value:=fs.flatMap fun f=>[.bool f.eq,.int .i64 f.a,.int .i64 f.b]
abbrev encA (xs:List Atm):List Value:=xs.flatMap fun x=>[.int .i64 x.kind,.int .i64 x.a,.int .i64 x.b]
abbrev encI (xs:List Int):List Value:=xs.map (Value.int .i64)
abbrev encB (xs:List Bool):List Value:=xs.map Value.bool
def BoolsV (w:World) (lo hi:Nat) (A:Option Addr) (xs:List Bool):Prop:=Rd w lo hi 1 A xs.length (encB xs)
def FactsV (w:World) (lo hi:Nat) (A:Option Addr) (fs:List Fct):Prop:=Rd w lo hi 3 A fs.length (encF fs)
def AtomsV (w:World) (lo hi:Nat) (A:Option Addr) (xs:List Atm):Prop:=Rd w lo hi 3 A xs.length (encA xs)
def IntsV (w:World) (lo hi:Nat) (A:Option Addr) (xs:List Int):Prop:=Rd w lo hi 1 A xs.length (encI xs)
def AsnV (w:World) (lo hi:Nat) (v:Value) (a:Asn):Prop:=
 ∃ A1 c1 A2 c2,v=.agg #[.slice A1 a.facts.length c1,.slice A2 a.atoms.length c2]∧FactsV w lo hi A1 a.facts∧AtomsV w lo hi A2 a.atoms
section
variable {w w':World} {lo hi:Nat} {A:Option Addr}
theorem FactsV.at {fs:List Fct} (h:FactsV w lo hi A fs) {k:Nat} (hk:k<fs.length):∃ b o,A=some ⟨b,o,none⟩∧w.cell? ⟨b,o+k*3,none⟩=some (.bool fs[k].eq)∧w.cell? ⟨b,o+k*3+1,none⟩=some (.int .i64 fs[k].a)∧w.cell? ⟨b,o+k*3+2,none⟩=some (.int .i64 fs[k].b):=by
 obtain ⟨b,o,e,_,hb,hc⟩:=h.raw.2 (by omega);obtain ⟨h0,h1,h2⟩:=flat3 (fun f:Fct=>.bool f.eq) (fun f=>.int .i64 f.a) (fun f=>.int .i64 f.b) fs k hk;exact ⟨b,o,e,hc _ _ h0,hc _ _ h1,hc _ _ h2⟩
theorem AtomsV.at {fs:List Atm} (h:AtomsV w lo hi A fs) {k:Nat} (hk:k<fs.length):∃ b o,A=some ⟨b,o,none⟩∧w.cell? ⟨b,o+k*3,none⟩=some (.int .i64 fs[k].kind)∧w.cell? ⟨b,o+k*3+1,none⟩=some (.int .i64 fs[k].a)∧w.cell? ⟨b,o+k*3+2,none⟩=some (.int .i64 fs[k].b):=by
 obtain ⟨b,o,e,_,hb,hc⟩:=h.raw.2 (by omega);obtain ⟨h0,h1,h2⟩:=flat3 (fun f:Atm=>.int .i64 f.kind) (fun f=>.int .i64 f.a) (fun f=>.int .i64 f.b) fs k hk;exact ⟨b,o,e,hc _ _ h0,hc _ _ h1,hc _ _ h2⟩
theorem IntsV.at {fs:List Int} (h:IntsV w lo hi A fs) {k:Nat} (hk:k<fs.length):∃ b o,A=some ⟨b,o,none⟩∧w.cell? ⟨b,o+k,none⟩=some (.int .i64 fs[k]):=by
 obtain ⟨b,o,e,_,hb,hc⟩:=h.raw.2 (by omega);exact ⟨b,o,e,hc _ _ (by simp[List.getElem?_eq_getElem hk])⟩
theorem BoolsV.at {fs:List Bool} (h:BoolsV w lo hi A fs) {k:Nat} (hk:k<fs.length):∃ b o,A=some ⟨b,o,none⟩∧w.cell? ⟨b,o+k,none⟩=some (.bool fs[k]):=by
 obtain ⟨b,o,e,_,hb,hc⟩:=h.raw.2 (by omega);exact ⟨b,o,e,hc _ _ (by simp[List.getElem?_eq_getElem hk])⟩
theorem BoolsV.bz {fs:List Bool} (h:BoolsV w lo hi A fs) (hb:Below w.heap.size w w'):BoolsV w' lo hi A fs:=Rd.bz h hb
theorem BoolsV.cl {b o:Nat} {fs:List Bool} (h:BoolsV w lo hi (some ⟨b,o,none⟩) fs) {k:Nat} (hk:k<fs.length):w.cell? ⟨b,o+k,none⟩=some (.bool fs[k]):=by
 obtain ⟨b',o',e,hc⟩:=h.at hk;simp only[Option.some.injEq,Addr.mk.injEq,and_true] at e;obtain ⟨rfl,rfl⟩:=e;exact hc
theorem IntsV.cl {b o:Nat} {fs:List Int} (h:IntsV w lo hi (some ⟨b,o,none⟩) fs) {k:Nat} (hk:k<fs.length):w.cell? ⟨b,o+k,none⟩=some (.int .i64 fs[k]):=by
 obtain ⟨b',o',e,hc⟩:=h.at hk;simp only[Option.some.injEq,Addr.mk.injEq,and_true] at e;obtain ⟨rfl,rfl⟩:=e;exact hc
theorem IntsV.dr {fs:List Int} (h:IntsV w lo hi A fs) (n:Nat):IntsV (w.drewN n) lo hi A fs:=Rd.bz h (below_drewN (Below.refl _ _) n)
theorem FactsV.bz {fs:List Fct} (h:FactsV w lo hi A fs) (hb:Below w.heap.size w w'):FactsV w' lo hi A fs:=Rd.bz h hb
theorem AtomsV.bz {fs:List Atm} (h:AtomsV w lo hi A fs) (hb:Below w.heap.size w w'):AtomsV w' lo hi A fs:=Rd.bz h hb
theorem IntsV.bz {fs:List Int} (h:IntsV w lo hi A fs) (hb:Below w.heap.size w w'):IntsV w' lo hi A fs:=Rd.bz h hb
theorem AsnV.bz {v:Value} {a:Asn} (h:AsnV w lo hi v a) (hb:Below w.heap.size w w'):AsnV w' lo hi v a:=by
 obtain ⟨A1,c1,A2,c2,e,h1,h2⟩:=h;exact ⟨A1,c1,A2,c2,e,h1.bz hb,h2.bz hb⟩
theorem AsnV.abv {lo':Nat} {v:Value} {a:Asn} (h:AsnV w lo hi v a) (hb:Abv lo' w w') (hl:lo'≤lo):AsnV w' lo hi v a:=by
 obtain ⟨A1,c1,A2,c2,e,h1,h2⟩:=h;exact ⟨A1,c1,A2,c2,e,Rd.abv h1 hb hl,Rd.abv h2 hb hl⟩
theorem AsnV.mono {v:Value} {a:Asn} {lo' hi':Nat} (h:AsnV w lo hi v a) (e1:lo'≤lo) (e2:hi≤hi'):AsnV w lo' hi' v a:=by
 obtain ⟨A1,c1,A2,c2,e,h1,h2⟩:=h;exact ⟨A1,c1,A2,c2,e,Rd.mono h1 e1 e2,Rd.mono h2 e1 e2⟩
theorem IntsV.mono {fs:List Int} {lo' hi':Nat} (h:IntsV w lo hi A fs) (e1:lo'≤lo) (e2:hi≤hi'):IntsV w lo' hi' A fs:=Rd.mono h e1 e2
theorem FactsV.mono {fs:List Fct} {lo' hi':Nat} (h:FactsV w lo hi A fs) (e1:lo'≤lo) (e2:hi≤hi'):FactsV w lo' hi' A fs:=Rd.mono h e1 e2
theorem AtomsV.mono {fs:List Atm} {lo' hi':Nat} (h:AtomsV w lo hi A fs) (e1:lo'≤lo) (e2:hi≤hi'):AtomsV w lo' hi' A fs:=Rd.mono h e1 e2
end
def isTermB (n:Int):Bool:=decide (0≤n∧n≤8)
def isProgB (n:Int):Bool:=decide (1≤n∧n≤4)
def Fct.valid (f:Fct):Bool:=isTermB f.a&&isTermB f.b
def Atm.valid (x:Atm):Bool:=decide (x.kind=1∨x.kind=2)&&isTermB x.a&&isTermB x.b
def factsValid (fs:List Fct):Bool:=decide (fs.length≤12)&&fs.all Fct.valid
def Asn.valid (a:Asn):Bool:=factsValid a.facts&&(decide (a.atoms.length≤6)&&a.atoms.all Atm.valid)
theorem all_drop {α:Type} (p:α→Bool) (l:List α) (k:Nat) (hk:k<l.length):(l.drop k).all p=(p l[k]&&(l.drop (k+1)).all p):=by
 rw[List.drop_eq_getElem_cons hk,List.all_cons]
theorem drop_eq {α:Type} [DecidableEq α] (l m:List α) (k:Nat) (h1:k<l.length) (h2:k<m.length):decide (l.drop k=m.drop k)=(decide (l[k]=m[k])&&decide (l.drop (k+1)=m.drop (k+1))):=by
 rw[List.drop_eq_getElem_cons h1,List.drop_eq_getElem_cons h2];simp only[List.cons.injEq,Bool.decide_and]
theorem Fct.eq_iff (f g:Fct):f=g↔f.eq=g.eq∧f.a=g.a∧f.b=g.b:=by cases f;cases g;simp
theorem Atm.eq_iff (f g:Atm):f=g↔f.kind=g.kind∧f.a=g.a∧f.b=g.b:=by cases f;cases g;simp
theorem Asn.eq_iff (f g:Asn):f=g↔f.facts=g.facts∧f.atoms=g.atoms:=by cases f;cases g;simp
end
section
open Go Go.RowKit Go.Proofs Go.ChangeShapes Go.WideShapes Go.ChangeAt Go.Deep
theorem flat_at {α:Type} (e:α→List Value) (size:Nat) (hs:∀ a,(e a).length=size):∀ (xs:List α) (j:Nat) (u:Value),(xs.flatMap e)[j]? = some u→∃ i r,∃ h:i<xs.length,r<size∧j=i * size+r∧(e xs[i])[r]? = some u:=by
 intro xs
 induction xs with
 | nil=>intro j u h;simp at h
 | cons x xs ih=>
  intro j u h;rw[List.flatMap_cons,List.getElem?_append] at h
  split at h
  ·rename_i hj;exact ⟨0,j,by simp,by rw[hs] at hj;exact hj,by omega,h⟩
  ·rename_i hj;rw[hs] at h hj;obtain ⟨i,r,hi,hr,he,hx⟩:=ih _ _ h;exact ⟨i+1,r,by simp;omega,hr,by rw[Nat.add_mul];omega,by simpa using hx⟩
theorem flat_len {α:Type} (e:α→List Value) (size:Nat) (hs:∀ a,(e a).length=size) (xs:List α):(xs.flatMap e).length=xs.length * size:=by
 induction xs with
 | nil=>simp
 | cons x xs ih=>rw[List.flatMap_cons,List.length_append,ih,hs,List.length_cons,Nat.add_mul];omega
theorem none_of_cell {w:World} {a:Addr} {v:Value} (h:w.cell? a=some v):a.spot=none:=by
 unfold World.cell? at h
 split at h
 ·split at h
  ·cases h
  ·rename_i h2;cases hs:a.spot<;>simp_all
 ·cases h
section
variable {H:Type} {enc:TypeId×Value→H} {P:Program} {w:World} {base:Nat} {spare:Nat→Bool} {held:Bool}
theorem tr_slice {α:Type} [Inhabited α] {t e:TypeId} {fuel:Nat} {cs:List Value} {x:DataW H×List MemPlace} (en:α→List Value) (size:Nat) (hs:∀ a,(en a).length=size) (hsz:0<size) (he:P.cellsOf e=size)
  (ht:P.underlying t=some (.slice e)) (hel:∀ n cs x,DataW.trod enc P w base spare held n e cs=some x→∃ a,cs=en a) (h:DataW.trod enc P w base spare held fuel t cs=some x) :
  ∃ (A:Option Addr) (c:Nat) (xs:List α),cs=[.slice A xs.length c]∧xs.length≤9223372036854775807∧Rw w 0 w.heap.size size A xs.length (xs.flatMap en):=by
 rcases open_slice ht h with ⟨rfl,_⟩|⟨a,len,cap,m,n,D,Pl,rfl,hb,hl,hm,hmm,_,hx⟩
 ·exact ⟨none,0,[],rfl,by simp,by simp,fun h=>by simp at h⟩
 ·have hlm:len≤m:=by rw[hmm];split<;>omega
  obtain ⟨f,hf⟩:=choose_lt (α:=α) (n:=len) (p:=fun i a'=>w.cells? base (a.add (i * size)) size=some (en a')) (fun i hi=>by
   obtain ⟨cs',h1,h2⟩:=hx i (by omega);obtain ⟨a',rfl⟩:=hel _ _ _ h2;rw[he] at h1
   exact ⟨a',h1⟩)
  refine ⟨some a,cap,(List.range len).map f,by simp,by simp;unfold maxLen at hm;omega,?_,fun hn=>?_⟩
  ·rw[flat_len en size hs]
  ·have hn':0<len:=by
    rcases Nat.eq_zero_or_pos len with h0|h0
    ·subst h0;simp at hn
    ·exact h0
   have hcell:∀ i,i<len→∀ j,j<size→w.cell? ((a.add (i * size)).add j)=(en (f i))[j]?:=fun i hi j hj=>(World.cells?_some (hf i hi)).2.2 j hj;have h00:=hcell 0 hn' 0 hsz;have hx0:(en (f 0))[0]? = some ((en (f 0))[0]'(by rw[hs];exact hsz)):=List.getElem?_eq_getElem _;rw[hx0,Nat.zero_mul] at h00;have e0:(a.add 0).add 0=a:=by simp[Addr.add]
   rw[e0] at h00;have hsp:=none_of_cell h00;obtain ⟨b,o,s⟩:=a;simp only at hsp;subst hsp;refine ⟨b,o,rfl,Nat.zero_le _,World.block_lt_of_cell? w _ h00,fun j u hu=>?_⟩;obtain ⟨i,r,hi,hr,rfl,hu2⟩:=flat_at en size hs _ _ _ hu;have hi':i<len:=by simpa using hi
   have hc:=hcell i hi' r hr
   have ea:((⟨b,o,none⟩:Addr).add (i * size)).add r=⟨b,o+(i * size+r),none⟩:=by
    rw[Go.Deep.add_add];unfold Addr.add;split
    ·rename_i h0;rw[h0];rfl
    ·rfl
   rw[ea] at hc;rw[hc];simpa using hu2
end
section
variable {H:Type} {enc:TypeId×Value→H} {w:World} {base:Nat} {spare:Nat→Bool} {held:Bool} {fuel:Nat} {cs:List Value} {x:DataW H×List MemPlace}
end
end
section
open Go Go.RowKit Go.Proofs
abbrev tF:Nat:=61
abbrev tA:Nat:=73
abbrev tI:Nat:=3
def FactsO (w:World) (base:Nat) (v:Value) (fs:List Fct):Prop:=w.ownsRow base tF 3 v fs.length (encF fs)∧Lim fs.length
def AtomsO (w:World) (base:Nat) (v:Value) (xs:List Atm):Prop:=w.ownsRow base tA 3 v xs.length (encA xs)∧Lim xs.length
def IntsO (w:World) (base:Nat) (v:Value) (xs:List Int):Prop:=w.ownsRow base tI 1 v xs.length (encI xs)∧Lim xs.length
def AsnO (w:World) (base:Nat) (v:Value) (a:Asn):Prop:=∃ fv av,v=.agg #[fv,av]∧FactsO w base fv a.facts∧AtomsO w base av a.atoms
section
variable {w w':World} {base base':Nat} {v:Value}
theorem FactsO.bz {fs:List Fct} (h:FactsO w base v fs) (hb:Below w.heap.size w w'):FactsO w' base v fs:=⟨own_below h.1 hb,h.2⟩
theorem AtomsO.bz {fs:List Atm} (h:AtomsO w base v fs) (hb:Below w.heap.size w w'):AtomsO w' base v fs:=⟨own_below h.1 hb,h.2⟩
theorem IntsO.bz {fs:List Int} (h:IntsO w base v fs) (hb:Below w.heap.size w w'):IntsO w' base v fs:=⟨own_below h.1 hb,h.2⟩
theorem AsnO.bz {a:Asn} (h:AsnO w base v a) (hb:Below w.heap.size w w'):AsnO w' base v a:=by
 obtain ⟨fv,av,e,h1,h2⟩:=h;exact ⟨fv,av,e,h1.bz hb,h2.bz hb⟩
theorem FactsO.abv {lo:Nat} {fs:List Fct} (h:FactsO w base v fs) (hb:Abv lo w w') (hl:lo≤base):FactsO w' base v fs:=⟨own_abv h.1 hb hl,h.2⟩
theorem AtomsO.abv {lo:Nat} {fs:List Atm} (h:AtomsO w base v fs) (hb:Abv lo w w') (hl:lo≤base):AtomsO w' base v fs:=⟨own_abv h.1 hb hl,h.2⟩
theorem IntsO.abv {lo:Nat} {fs:List Int} (h:IntsO w base v fs) (hb:Abv lo w w') (hl:lo≤base):IntsO w' base v fs:=⟨own_abv h.1 hb hl,h.2⟩
theorem AsnO.abv {lo:Nat} {a:Asn} (h:AsnO w base v a) (hb:Abv lo w w') (hl:lo≤base):AsnO w' base v a:=by
 obtain ⟨fv,av,e,h1,h2⟩:=h;exact ⟨fv,av,e,h1.abv hb hl,h2.abv hb hl⟩
theorem FactsO.lower {fs:List Fct} (h:FactsO w base v fs) (hb:base'≤base):FactsO w base' v fs:=⟨own_lower h.1 hb,h.2⟩
theorem AtomsO.lower {fs:List Atm} (h:AtomsO w base v fs) (hb:base'≤base):AtomsO w base' v fs:=⟨own_lower h.1 hb,h.2⟩
theorem IntsO.lower {fs:List Int} (h:IntsO w base v fs) (hb:base'≤base):IntsO w base' v fs:=⟨own_lower h.1 hb,h.2⟩
theorem AsnO.lower {a:Asn} (h:AsnO w base v a) (hb:base'≤base):AsnO w base' v a:=by
 obtain ⟨fv,av,e,h1,h2⟩:=h;exact ⟨fv,av,e,h1.lower hb,h2.lower hb⟩
theorem FactsO.reads {fs:List Fct} (h:FactsO w base v fs):∃ A c,v=.slice A fs.length c∧FactsV w base w.heap.size A fs:=own_reads h.1 h.2
theorem AtomsO.reads {fs:List Atm} (h:AtomsO w base v fs):∃ A c,v=.slice A fs.length c∧AtomsV w base w.heap.size A fs:=own_reads h.1 h.2
theorem IntsO.reads {fs:List Int} (h:IntsO w base v fs):∃ A c,v=.slice A fs.length c∧IntsV w base w.heap.size A fs:=own_reads h.1 h.2
theorem IntsO.readsI {A:Option Addr} {n c:Nat} {fs:List Int} (h:IntsO w base (.slice A n c) fs):n=fs.length∧IntsV w base w.heap.size A fs:=by
 obtain ⟨A',c',e,h'⟩:=h.reads;injection e with e1 e2 e3;subst e1;exact ⟨e2,h'⟩
theorem FactsO.readsI {A:Option Addr} {n c:Nat} {fs:List Fct} (h:FactsO w base (.slice A n c) fs):n=fs.length∧FactsV w base w.heap.size A fs:=by
 obtain ⟨A',c',e,h'⟩:=h.reads;injection e with e1 e2 e3;subst e1;exact ⟨e2,h'⟩
theorem AtomsO.readsI {A:Option Addr} {n c:Nat} {fs:List Atm} (h:AtomsO w base (.slice A n c) fs):n=fs.length∧AtomsV w base w.heap.size A fs:=by
 obtain ⟨A',c',e,h'⟩:=h.reads;injection e with e1 e2 e3;subst e1;exact ⟨e2,h'⟩
theorem AsnO.reads {a:Asn} (h:AsnO w base v a):AsnV w base w.heap.size v a:=by
 obtain ⟨fv,av,e,h1,h2⟩:=h;obtain ⟨A1,c1,rfl,g1⟩:=h1.reads;obtain ⟨A2,c2,rfl,g2⟩:=h2.reads;exact ⟨A1,c1,A2,c2,e,g1,g2⟩
end
theorem infoF:(Tryz.prog.info? tF).map (fun i=>(i.zero,i.size,i.bytes))=some (some (.agg #[.bool false,.int .i64 0,.int .i64 0]),3,24):=by kernel_rfl
theorem infoA:(Tryz.prog.info? tA).map (fun i=>(i.zero,i.size,i.bytes))=some (some (.agg #[.int .i64 0,.int .i64 0,.int .i64 0]),3,24):=by kernel_rfl
theorem infoI:(Tryz.prog.info? tI).map (fun i=>(i.zero,i.size,i.bytes))=some (some (.int .i64 0),1,8):=by kernel_rfl
theorem run_make_rowN {P:Program} (t e:TypeId) (i:TypeInfo) (z:Value) (ht:P.underlying t=some (.slice e)) (hi:P.info? e=some i) (hz:i.zero=some z)
  (kl kc:IntKind) (n c:Nat) (hnc:n≤c) (hbytes:i.bytes * c≤281474976710656) (h63:c≤9223372036854775807) (w:World) :
  (Instr.makeSlice t (.int kl (n:Int)) (.int kc (c:Int))).run P w=.ok (.slice (some ⟨w.heap.size,0,none⟩) n c) (w.alloc (.cells (madeCells z.cells (c * i.size)) e)):=by
 have hb:(i.bytes:Int) * (c:Int)≤281474976710656:=by
  have h:((i.bytes * c:Nat):Int)≤281474976710656:=by omega
  rwa [Int.natCast_mul] at h
 have hr:=run_make (P:=P) w t e i z ht hi hz kl kc n c (by omega) (by omega) hb (by omega);simp only[Int.toNat_natCast] at hr;exact hr
theorem mkA (n:Nat) (h:Lim n) (w:World):(Instr.makeSlice 34 (.int .i64 (n:Int)) (.int .i64 (n:Int))).run Tryz.prog w=.ok (.slice (some ⟨w.heap.size,0,none⟩) n n) (w.alloc (.cells (madeCells #[.int .i64 0,.int .i64 0,.int .i64 0] (n * 3)) tA)):=by
 obtain ⟨i,hi,hz,hs,hb⟩:=info_parts infoA;have:=run_make_rowN (P:=Tryz.prog) 34 tA i _ Tryz.underlying34 hi hz .i64 .i64 n n (Nat.le_refl _) (by rw[hb];unfold Lim at h;omega) (by unfold Lim at h;omega) w
 rwa [hs] at this
theorem mkI (n:Nat) (h:Lim n) (w:World):(Instr.makeSlice 27 (.int .i64 (n:Int)) (.int .i64 (n:Int))).run Tryz.prog w=.ok (.slice (some ⟨w.heap.size,0,none⟩) n n) (w.alloc (.cells (madeCells #[.int .i64 0] (n * 1)) tI)):=by
 obtain ⟨i,hi,hz,hs,hb⟩:=info_parts infoI;have:=run_make_rowN (P:=Tryz.prog) 27 tI i _ Tryz.underlying27 hi hz .i64 .i64 n n (Nat.le_refl _) (by rw[hb];unfold Lim at h;omega) (by unfold Lim at h;omega) w
 rwa [hs] at this
abbrev tB:Nat:=4
theorem infoB:(Tryz.prog.info? tB).map (fun i=>(i.zero,i.size,i.bytes))=some (some (.bool false),1,1):=by kernel_rfl
def BoolsO (w:World) (base:Nat) (v:Value) (xs:List Bool):Prop:=w.ownsRow base tB 1 v xs.length (encB xs)∧Lim xs.length
theorem BoolsO.bz {w w':World} {base:Nat} {v:Value} {fs:List Bool} (h:BoolsO w base v fs) (hb:Below w.heap.size w w'):BoolsO w' base v fs:=⟨own_below h.1 hb,h.2⟩
theorem BoolsO.lower {w:World} {base base':Nat} {v:Value} {fs:List Bool} (h:BoolsO w base v fs) (hb:base'≤base):BoolsO w base' v fs:=⟨own_lower h.1 hb,h.2⟩
theorem BoolsO.abv {w w':World} {base:Nat} {v:Value} {lo:Nat} {fs:List Bool} (h:BoolsO w base v fs) (hb:Abv lo w w') (hl:lo≤base):BoolsO w' base v fs:=⟨own_abv h.1 hb hl,h.2⟩
theorem BoolsO.reads {w:World} {base:Nat} {v:Value} {fs:List Bool} (h:BoolsO w base v fs):∃ A c,v=.slice A fs.length c∧BoolsV w base w.heap.size A fs:=own_reads h.1 h.2
theorem mkB (n:Nat) (h:Lim n) (w:World):(Instr.makeSlice 116 (.int .i64 (n:Int)) (.int .i64 (n:Int))).run Tryz.prog w=.ok (.slice (some ⟨w.heap.size,0,none⟩) n n) (w.alloc (.cells (madeCells #[.bool false] (n * 1)) tB)):=by
 obtain ⟨i,hi,hz,hs,hb⟩:=info_parts infoB;have:=run_make_rowN (P:=Tryz.prog) 116 tB i _ Tryz.underlying116 hi hz .i64 .i64 n n (Nat.le_refl _) (by rw[hb];unfold Lim at h;omega) (by unfold Lim at h;omega) w
 rwa [hs] at this
end
section
open Go Go.RowKit
theorem ofInt_u16 (a:Nat) (ha:a<65536):(BitVec.ofInt 16 (a:Int)).toNat=a:=by
 rw[BitVec.ofInt_natCast,BitVec.toNat_ofNat];exact Nat.mod_eq_of_lt (by omega)
theorem wrap_u16 (a:Nat) (ha:a<65536):IntKind.u16.wrap (a:Int)=a:=by
 simp[IntKind.wrap,IntKind.bits,IntKind.signed];omega
theorem u16_and_nat (a b:Nat) (ha:a<65536) (hb:b<65536):bits .and .u16 (a:Int) (b:Int)=((a &&& b:Nat):Int):=by
 have hx:a &&& b<2 ^ 16:=Nat.and_lt_two_pow _ (by omega);show IntKind.u16.wrap ((BitVec.ofInt 16 (a:Int) &&& BitVec.ofInt 16 (b:Int)).toNat:Int)=_;rw[BitVec.toNat_and,ofInt_u16 a ha,ofInt_u16 b hb,wrap_u16 _ (by omega)]
theorem u16_or_nat (a b:Nat) (ha:a<65536) (hb:b<65536):bits .or .u16 (a:Int) (b:Int)=((a|||b:Nat):Int):=by
 have hx:a|||b<2 ^ 16:=Nat.or_lt_two_pow (by omega) (by omega);show IntKind.u16.wrap ((BitVec.ofInt 16 (a:Int)|||BitVec.ofInt 16 (b:Int)).toNat:Int)=_;rw[BitVec.toNat_or,ofInt_u16 a ha,ofInt_u16 b hb,wrap_u16 _ (by omega)]
theorem bit_has (S n:Nat) (hS:S<65536):(bits .and .u16 ((S:Int) / 2 ^ n) 1 == 1)=S.testBit n:=by
 have e:((S:Int) / 2 ^ n)=((S / 2 ^ n:Nat):Int):=by simp
 have hlt:S / 2 ^ n<65536:=Nat.lt_of_le_of_lt (Nat.div_le_self _ _) hS;rw[e,show (1:Int)=((1:Nat):Int) from rfl,u16_and_nat _ _ hlt (by omega)];rw[Nat.testBit_eq_decide_div_mod_eq];rw[Nat.and_one_is_mod];rw[Bool.eq_iff_iff];simp only[beq_iff_eq,decide_eq_true_eq];omega
theorem bit_or (T n:Nat) (hT:T<65536) (hn:n<16):bits .or .u16 (T:Int) (IntKind.u16.wrap (2 ^ n))=((T|||1 <<< n:Nat):Int):=by
 have h2:2 ^ n<65536:=by
  have:2 ^ n≤2 ^ 15:=Nat.pow_le_pow_right (by omega) (by omega);omega
 have e:(2:Int) ^ n=((2 ^ n:Nat):Int):=by simp
 rw[e,wrap_u16 _ h2,u16_or_nat _ _ hT h2,Nat.one_shiftLeft]
def bitsOf (l:List Int):Nat:=l.foldl (fun s n=>s|||1 <<< n.toNat) 0
theorem bitsOf_snoc (l:List Int) (n:Int):bitsOf (l++[n])=bitsOf l|||1 <<< n.toNat:=by simp[bitsOf,List.foldl_append]
theorem foldl_testBit (l:List Int) (h:∀ x∈l,0≤x):∀ (s n:Nat),(l.foldl (fun s n=>s|||1 <<< n.toNat) s).testBit n=(s.testBit n || decide ((n:Int)∈l)):=by
 induction l with
 | nil=>intro s n;simp
 | cons x l ih=>
  intro s n;rw[List.foldl_cons,ih (fun y hy=>h y (List.mem_cons_of_mem _ hy)),Nat.testBit_or];have hx:=h x List.mem_cons_self
  have e:(1 <<< x.toNat).testBit n=decide ((n:Int)=x):=by
   rw[Nat.one_shiftLeft,Nat.testBit_two_pow,decide_eq_decide];omega
  rw[e,Bool.or_assoc]
  congr 1
  rw[←Bool.decide_or];simp[List.mem_cons]
theorem testBit_bitsOf {l:List Int} (h:∀ x∈l,0≤x) (n:Nat):(bitsOf l).testBit n=decide ((n:Int)∈l):=by
 rw[bitsOf,foldl_testBit l h];simp
theorem bitsOf_lt {l:List Int} {k:Nat} (h:∀ x∈l,0≤x∧x<k):bitsOf l<2 ^ k:=by
 apply Nat.lt_pow_two_of_testBit;intro i hi;rw[testBit_bitsOf (fun x hx=>(h x hx).1)];simp only[decide_eq_false_iff_not];intro hm;have:=(h _ hm).2;omega
theorem bitsOf_eq {l m:List Int} (h:∀ x∈l,0≤x) (h':∀ x∈m,0≤x):bitsOf l=bitsOf m↔∀ x,x∈l↔x∈m:=by
 constructor
 ·intro e x;by_cases hx:0≤x
  ·obtain ⟨n,rfl⟩:=Int.eq_ofNat_of_zero_le hx;have:=congrArg (fun s=>Nat.testBit s n) e;simp only[testBit_bitsOf h,testBit_bitsOf h',decide_eq_decide] at this;exact this
  ·exact ⟨fun hm=>absurd (h x hm) hx,fun hm=>absurd (h' x hm) hx⟩
 ·intro e;apply Nat.eq_of_testBit_eq;intro i;rw[testBit_bitsOf h,testBit_bitsOf h',decide_eq_decide];exact e _
end
section
open Go Go.RowKit Go.Proofs
theorem own_row_below {w w' : World} {base : Nat} {e : TypeId} {size : Nat} {v : Value} {n : Nat} {xs : List Value} (h : w.ownsRow base e size v n xs) (hg : w.grownBy w' v.ownBlock) (hb : base ≤ w.heap.size) : Below base w w' :=
  ⟨hg.os, hg.tape, hg.output, hg.size, fun k hk => hg.block k (by omega) (fun e => by have := (h.lt k e.symm).1; omega)⟩
theorem wpList_app {P : Program} {ops : Array Oper} {rest : List Oper} {o : Oper} {a : Act} {Q : Exit → Act → World → Prop} {w : World} (hgd : o.guard = none) (s x : Operand) (t : TypeId)
    (ho : o.op = .call { callee := .builtin .append, args := #[s, x], argTypes := #[t, t] })
    {base : Nat} {e : TypeId} {z : Value} {size bytes : Nat} (ht : P.underlying t = some (.slice e)) (hinfo : (P.info? e).map (fun i => (i.zero, i.size, i.bytes)) = some (some z, size, bytes)) (hzs : z.cells.size = size) (hsz : 0 < size) (hby : bytes ≤ 200)
    {v : Value} {n : Nat} {xs : List Value} (hs : a.eval s = v) (hown : w.ownsRow base e size v n xs)
    (ad : Addr) (news : List Value) (hx : a.eval x = .slice (some ad) 1 1) (hl : news.length = size) (hnews : ∀ j u, news[j]? = some u → w.cell? (ad.add j) = some u) (h1 : ∀ u ∈ news, u.oneCell' = true)
    (hn : n + 1 ≤ 1049600) (hb : base ≤ w.heap.size)
    (h : ∀ g c w', w'.ownsRow base e size (.slice (some ⟨g, 0, none⟩) (n + 1) c) (n + 1) (xs ++ news) → w.grownBy w' v.ownBlock → Below base w w' → wpList P ops Q rest (a.put o.dst (.slice (some ⟨g, 0, none⟩) (n + 1) c)) w') : wpList P ops Q (o :: rest) a w := by
  obtain ⟨i, hi, hz, hsize, hbytes⟩ := info_parts hinfo;refine wpList_append_own w hgd s x t ho base e i z size bytes ht hi hz hsize hbytes hzs hsz v n xs hs hown ad 1 1 news hx (by omega) hnews h1 (by unfold maxLen; omega) (Nat.le_trans (Nat.mul_le_mul hn hby) (by omega)) hb ?_;intro v' w' ho' hg' _;obtain ⟨g, c, rfl, -⟩ := ho'.form (by omega);exact h g c w' ho' hg' (own_row_below hown hg' hb)
theorem cell_box (w : World) (u : Value) (t : TypeId) : (w.alloc (.cells #[u] t)).cell? ⟨w.heap.size, 0, none⟩ = some u := (Blk.new w t #[u]).cell 0
theorem own_empty (w : World) (t : TypeId) (size : Nat) : (w.alloc (.cells #[] t)).ownsRow w.heap.size t size (.slice (some ⟨w.heap.size, 0, none⟩) 0 0) 0 [] :=
  ⟨by simp, .inr ⟨w.heap.size, 0, #[], rfl, Nat.le_refl _, heap_alloc_new w _, Nat.le_refl _, by decide, by simp, by simp⟩⟩
theorem IntsO.empty (w : World) {g : Nat} (hg : g = w.heap.size) : IntsO (w.alloc (.cells #[] tI)) g (.slice (some ⟨g, 0, none⟩) 0 0) [] := by
  subst hg;exact ⟨own_empty w _ _, by simp [Lim]⟩
theorem IntsO.nil (w : World) (base : Nat) : IntsO w base (.slice none 0 0) [] := ⟨World.ownsRow_nil _ _ _ _, by simp [Lim]⟩
theorem IntsO.one (w : World) (n : Int) {base : Nat} (hb : base ≤ w.heap.size) : IntsO (w.alloc (.cells #[.int .i64 n] tI)) base (.slice (some ⟨w.heap.size, 0, none⟩) 1 1) [n] :=
  ⟨own_of_blk (Blk.new w _ _) hb rfl (by intro j hj; obtain rfl : j = 0 := by omega
                                         rfl) (Nat.le_refl _) (by decide) rfl, by simp [Lim]⟩
section
variable {ops : Array Oper} {rest : List Oper} {o : Oper} {a : Act} {Q : Exit → Act → World → Prop} {w : World}
theorem appI (hgd : o.guard = none) (s x : Operand) (ho : o.op = .call { callee := .builtin .append, args := #[s, x], argTypes := #[27, 27] })
    {base : Nat} {v : Value} {xs : List Int} (hs : a.eval s = v) (hown : IntsO w base v xs) (g0 : Nat) (n : Int) (hx : a.eval x = .slice (some ⟨g0, 0, none⟩) 1 1) (hc : w.cell? ⟨g0, 0, none⟩ = some (.int .i64 n))
    (hn : xs.length + 1 ≤ 1049600) (hb : base ≤ w.heap.size)
    (h : ∀ g c w', IntsO w' base (.slice (some ⟨g, 0, none⟩) (xs.length + 1) c) (xs ++ [n]) → w.grownBy w' v.ownBlock → Below base w w' → wpList Tryz.prog ops Q rest (a.put o.dst (.slice (some ⟨g, 0, none⟩) (xs.length + 1) c)) w') : wpList Tryz.prog ops Q (o :: rest) a w := by
  refine wpList_app hgd s x 27 ho Tryz.underlying27 infoI rfl (by decide) (by decide) hs hown.1 ⟨g0, 0, none⟩ [.int .i64 n] hx rfl ?_ (by simp [Value.oneCell']) hn hb ?_
  · intro j u hu
    match j, hu with
    | 0, hu => simp at hu; subst hu; exact hc
  · intro g c w' h1 h2 h3
    exact h g c w' ⟨by simpa [encI] using h1, by simp [Lim]; omega⟩ h2 h3
end
end
section
open Go
section
variable {P:Program} {md:Region.Mode} {ops:Array Oper} {S:World→Prop} {Q:Exit→Act→World→Prop} {I:Array Bool→Act→World→Prop}
def dn (D:Array Bool) (j:Nat):Bool:=D.getD j false
theorem dn_ne {D:Array Bool} {i j:Nat} (h:i≠j):dn (D.setIfInBounds i true) j=dn D j:=getD_set_ne false h
theorem dn_self {D:Array Bool} {i:Nat} (h:D.getD i true=false):dn (D.setIfInBounds i true) i=true:=by
 unfold dn;rcases Nat.lt_or_ge i D.size with h'|h'
 ·simp[h']
 ·simp[Array.getElem?_eq_none h'] at h
theorem dn_un {D:Array Bool} {i:Nat} (h:D.getD i true=false):dn D i=false:=by
 unfold dn;rcases Nat.lt_or_ge i D.size with h'|h'
 ·simp[h'] at h ⊢;exact h
 ·simp[Array.getElem?_eq_none h'] at h
theorem dn_keep {D:Array Bool} {i j:Nat} {p q:Prop} (hij:i≠j) (h:dn D j=true→p) (hpq:p→q):dn (D.setIfInBounds i true) j=true→q:=fun e=>hpq (h (by rwa [dn_ne hij] at e))
def parB (md:Region.Mode) (ops:Array Oper) (H:List Nat) (Dz:Array Bool):Nat→Array Bool→Bool
 | 0,D=>decide (D=Dz)
 | n+1,D=>!(Region.ready md ops D).isEmpty&&(Region.ready md ops D).all fun i=>H.contains i&&parB md ops H Dz n (D.setIfInBounds i true)
def ParSteps (P:Program) (md:Region.Mode) (ops:Array Oper) (Q:Exit→Act→World→Prop) (S:World→Prop) (I:Array Bool→Act→World→Prop) (hs:List Nat):Prop:=
 ∀ i∈hs,∀ D a w,i∈Region.ready md ops D→I D a w→S w→wpOp P ops Q i (fun a' w'=>S w'∧I (D.setIfInBounds i true) a' w') a w
theorem ParSteps.nil:ParSteps P md ops Q S I []:=fun _ h=>by cases h
theorem ParSteps.cons {i:Nat} {o:Oper} {hs:List Nat} (ho:ops[i]? = some o)
  (h:∀ (D:Array Bool) (a:Act) (w:World),D.getD i true=false→(∀ e∈o.after.toList,Region.binds md e=true→dn D e.on=true)→I D a w→S w→
   ∀ K':Act→World→Prop,Shut (∀ a w,S w→I (D.setIfInBounds i true) a w→K' a w)→∀ G:Prop,((if Region.wanted o (yielded ops a.tmps)=true then Oper.wp P o a w K' Q else K' (a.put o.dst undef) w)→G)→G)
  (hs':ParSteps P md ops Q S I hs):ParSteps P md ops Q S I (i :: hs):=fun j hj D a w hr hI hS=>by
 rcases List.mem_cons.1 hj with rfl|hj
 ·obtain ⟨h1,o',ho',h2⟩:=mem_ready.1 hr;obtain rfl:o=o':=Option.some.inj (ho.symm.trans ho');exact wpOp_step ho (fun K' hK=>h D a w h1 (fun e he hb=>h2 e (Array.mem_toList_iff.1 he) hb) hI hS K' (fun a w hS hW=>hK a w ⟨hS,hW⟩) _ id)
 ·exact hs' j hj D a w hr hI hS
theorem wpAnyH_par (H:List Nat) (Dz:Array Bool) {fuel:Nat} {D0:Array Bool} {a0:Act} {w0:World} (n:Nat) (hH:parB md ops H Dz n D0=true) (hS:S w0) (J:Act→Array Bool→Act→World→Prop) (h0:J a0 D0 a0 w0)
  (hstep:ParSteps P md ops Q S (J a0) H) (hend:∀ a w,S w→J a0 Dz a w→wpAnyH P md ops Q S fuel Dz a w):wpAnyH P md ops Q S (fuel+n) D0 a0 w0:=by
 generalize hJ:J a0=I at *;clear hJ
 induction n generalizing D0 a0 w0 with
 | zero=>
  unfold parB at hH;obtain rfl:D0=Dz:=of_decide_eq_true hH;exact hend _ _ hS h0
 | succ n ih=>
  unfold parB at hH;simp only[Bool.and_eq_true,Bool.not_eq_true',List.all_eq_true,List.isEmpty_eq_false_iff,List.contains_iff_mem] at hH;refine wpAnyH_ready (fuel:=fuel+n) rfl hH.1 fun i hi=>?_;have h1:=hH.2 i hi;exact wpOp_mono (fun a' w' h=>⟨h.1,ih h1.2 h.1 h.2⟩) (hstep i h1.1 D0 a0 w0 hi h0 hS)
end
section
variable {P:Program} {md:Region.Mode} {S:World→Prop} {Q:Exit→Act→World→Prop}
def lastQ (P:Program) (st:Oper) (Q:Exit→Act→World→Prop):Exit→Act→World→Prop
 | .normal,a,w=>Oper.wp P st a w (Q .normal) Q
 | e,a,w=>Q e a w
def nopOf (st:Oper):Oper:={ st with op:=.assign (.const undef),dst:=none,guard:=none }
theorem wp_monoQ {o:Oper} {a:Act} {w:World} {K K':Act→World→Prop} {Q Q':Exit→Act→World→Prop} (hK:∀ a w,K a w→K' a w)
  (hQ:∀ c a w,Q (.panic c) a w→Q' (.panic c) a w) (hL:LetsOut Q→LetsOut Q') (hh:o.wp P a w K Q):o.wp P a w K' Q':=by
 unfold Oper.wp at *;generalize (execOp a.eval o).run P w=r at *
 cases r with
 | ok n w'=>
  cases n<;>simp only[Oper.upon] at hh ⊢<;>
   first
    | exact hK _ _ hh
    | exact Calls.mono hh (fun e w'' he=>by cases e<;>first|exact hK _ _ he|exact hQ _ _ _ he|exact hL he)
    | exact Rows.mono hh (fun _ _ he=>hK _ _ he)
 | halt x w'=>cases x<;>simp only[Oper.upon] at hh ⊢<;>first|exact hQ _ _ _ hh|exact hh
theorem ready_push (l:List Oper) (st:Oper) (listed:Array Bool):Region.ready md (l++[nopOf st]).toArray listed=Region.ready md (l++[st]).toArray listed:=by
 unfold Region.ready;simp only[List.size_toArray,List.length_append,List.length_cons,List.length_nil];apply List.filter_congr;intro i hi
 congr 1
 simp only[List.getElem?_toArray,List.getElem?_append]
 split
 ·rfl
 ·rcases Nat.eq_zero_or_pos (i - l.length) with h|h
  ·rw[h];rfl
  ·rw[List.getElem?_eq_none (by simp;omega),List.getElem?_eq_none (by simp;omega)]
def topoB (md:Region.Mode) (ops:Array Oper):Bool:=
 (List.range ops.size).all fun i=>match ops[i]? with|some o=>o.after.all fun e=>!Region.binds md e || decide (e.on<i)|none=>true
theorem ready_some {ops:Array Oper} (ht:topoB md ops=true) {listed:Array Bool} (hsz:listed.size=ops.size) {z:Nat} (hz:z<ops.size) (hun:listed.getD z true=false):Region.ready md ops listed≠[]:=by
 have:∀ n z,z<n→z<ops.size→listed.getD z true=false→∃ i,i∈Region.ready md ops listed:=by
  intro n
  induction n with
  | zero=>intro z h;omega
  | succ n ih=>
   intro z hzn hz hun;by_cases hm:∃ j,j<z∧listed.getD j true=false
   ·obtain ⟨j,hj,hju⟩:=hm;exact ih j (by omega) (by omega) hju
   ·refine ⟨z,mem_ready.2 ⟨hun,ops[z],Array.getElem?_eq_getElem hz,fun e he hb=>?_⟩⟩;have h1:=List.all_eq_true.1 ht z (by simpa using hz);rw[Array.getElem?_eq_getElem hz] at h1;simp only[Array.all_eq_true_iff_forall_mem] at h1;have h2:=h1 e he;rw[hb] at h2;simp at h2;cases h3:listed.getD e.on true
    ·exact absurd ⟨e.on,h2,h3⟩ hm
    ·have h4:e.on<listed.size:=by omega
     simp[h4] at h3 ⊢;exact h3
 obtain ⟨i,hi⟩:=this (z+1) z (Nat.lt_succ_self _) hz hun;intro h;rw[h] at hi;cases hi
theorem wpAny_of_last {l:List Oper} {st:Oper} (hg:(l.all fun o=>o.guard.isNone)=true) (hst:st.guard.isNone=true)
  (hs:Region.sinkB md (l++[st]).toArray l.length=true) (hc:Region.chainB md (l++[st]).toArray l.length=true) (ht:topoB md (l++[st]).toArray=true) :
  ∀ (f:Nat) (listed:Array Bool) (a:Act) (w:World),HeadInv md (l++[st]).toArray l.length listed→
   wpAnyH P md (l++[nopOf st]).toArray (lastQ P st Q) S f listed a w→wpAny P md (l++[st]).toArray Q f listed a w:=by
 have hsz:(l++[st]).toArray.size=l.length+1:=by simp
 have hzs:(l++[st]).toArray[l.length]? = some st:=by simp
 have hzn:(l++[nopOf st]).toArray[l.length]? = some (nopOf st):=by simp
 intro f
 induction f with
 | zero=>
  intro listed a w inv h;have hun:=inv.tail l.length (Nat.le_refl _) (by omega);exact absurd ((ready_push l st listed).symm.trans h.1) (ready_some ht inv.size (by omega) hun)
 | succ f ih=>
  intro listed a w inv h;have hun:=inv.tail l.length (Nat.le_refl _) (by omega);refine ⟨fun h0=>absurd h0 (ready_some ht inv.size (by omega) hun),fun i hi=>?_⟩;have hi':i∈Region.ready md (l++[nopOf st]).toArray listed:=by rw[ready_push];exact hi
  have h1:=h.2 i hi';obtain ⟨_,oi,hoi,_⟩:=mem_ready.1 hi;have hil:i<l.length+1:=by have:=(Array.getElem?_eq_some_iff.1 hoi).1;omega
  by_cases hiz:i=l.length
  ·subst hiz
   have hall:∀ j,j<l.length→listed.getD j true=true:=by
    intro j hj;cases hu:listed.getD j true
    ·exact absurd hi (tail_waits hs hc (by omega) inv _ j rfl hj hu l.length (Nat.le_refl _))
    ·rfl
   have hnil:Region.ready md (l++[st]).toArray (listed.setIfInBounds l.length true)=[]:=by
    rw[List.eq_nil_iff_forall_not_mem];intro j hj;obtain ⟨hju,oj,hoj,_⟩:=mem_ready.1 hj;have hjl:j<l.length+1:=by have:=(Array.getElem?_eq_some_iff.1 hoj).1;omega
    by_cases e:l.length=j
    ·subst e;have:l.length<listed.size:=by have:=inv.size;omega
     simp[this] at hju
    ·rw[getD_set_ne true e,hall j (by omega)] at hju;cases hju
   unfold wpOp at h1 ⊢;simp only[hzn,hzs] at h1 ⊢;have hw1:Region.wanted (nopOf st) (yielded (l++[nopOf st]).toArray a.tmps)=true:=by simp[Region.wanted,nopOf]
   have hgs:st.guard=none:=by simpa using hst
   have hw2:Region.wanted st (yielded (l++[st]).toArray a.tmps)=true:=by simp[Region.wanted,hgs]
   rw[hw1,if_pos rfl] at h1;rw[hw2,if_pos rfl];refine Or.inl ?_
   have h2:wpAnyH P md (l++[nopOf st]).toArray (lastQ P st Q) S f (listed.setIfInBounds l.length true) a w:=by
    rcases h1 with h1|⟨h1,_⟩
    ·unfold Oper.wp at h1;simp[nopOf,execOp,Oper.upon,Act.put,Act.eval] at h1;exact h1.2
    ·simp[Oper.asks,nopOf,execOp] at h1;exact absurd h1 (by intro h;cases h;rename_i h;cases h)
   have h3:lastQ P st Q .normal a w:=by
    rw[←ready_push] at hnil
    cases f with
    | zero=>exact h2.2
    | succ f=>exact h2.1 hnil
   refine Oper.wp_mono (fun a' w' hq=>?_) h3
   cases f with
   | zero=>exact ⟨hnil,hq⟩
   | succ f=>exact ⟨fun _=>hq,by rw[hnil];simp⟩
  ·have hlt:i<l.length:=by omega
   have e1:(l++[st]).toArray[i]? = some l[i]:=by simp[List.getElem?_append,hlt]
   have e2:(l++[nopOf st]).toArray[i]? = some l[i]:=by simp[List.getElem?_append,hlt]
   have hgi:l[i].guard=none:=by have:=List.all_eq_true.1 hg l[i] (List.getElem_mem hlt);simpa using this
   unfold wpOp at h1 ⊢;simp only[e1,e2] at h1 ⊢;have hw1:Region.wanted l[i] (yielded (l++[nopOf st]).toArray a.tmps)=true:=by simp[Region.wanted,hgi]
   have hw2:Region.wanted l[i] (yielded (l++[st]).toArray a.tmps)=true:=by simp[Region.wanted,hgi]
   rw[hw1,if_pos rfl] at h1;rw[hw2,if_pos rfl];rcases h1 with h1|⟨h1,h2⟩
   ·exact Or.inl (wp_monoQ (K:=fun a' w'=>S w'∧wpAnyH P md (l++[nopOf st]).toArray (lastQ P st Q) S f (listed.setIfInBounds i true) a' w') (fun a' w' hk=>ih _ _ _ (inv.set hi hlt) hk.2) (fun c a w h=>h) (fun h=>h) h1)
   ·exact Or.inr ⟨h1,h2⟩
theorem wp_region_last {l:List Oper} {st:Oper} {id:Nat} {a:Act} {w:World} (hm:P.follows .mixedOrders=true) (hg:(l.all fun o=>o.guard.isNone)=true) (hst:st.guard.isNone=true)
  (hs:Region.sinkB .any (l++[st]).toArray l.length=true) (hc:Region.chainB .any (l++[st]).toArray l.length=true) (ht:topoB .any (l++[st]).toArray=true) (hS:S w.drew)
  (h:S w.drew→wpAnyH P .any (l++[nopOf st]).toArray (lastQ P st Q) S (l.length+1) (Array.replicate (l.length+1) false) a w.drew):(Code.region id (l++[st]).toArray true).wp P Q a w:=by
 refine wp_region_any hm ?_;have e:(l++[st]).toArray.size=l.length+1:=by simp
 rw[e];refine wpAny_of_last hg hst hs hc ht _ _ _ _ ⟨by simp,fun j oj _ hl=>?_,fun t _ ht=>?_⟩ (h hS)
 ·rw[getD_replicate_false] at hl;cases hl
 ·exact getD_in (by simpa using ht) (getD_replicate_false _ _)
def lastB (L:List Oper):Bool:=
 match L.getLast? with
 | none=>false
 | some st=>(L.dropLast.all fun o=>o.guard.isNone)&&st.guard.isNone&&Region.sinkB .any L.toArray L.dropLast.length&&Region.chainB .any L.toArray L.dropLast.length&&topoB .any L.toArray
theorem wp_region_last' {L:List Oper} {id:Nat} {a:Act} {w:World} (hne:L≠[]) (hm:P.follows .mixedOrders=true) (hB:lastB L=true) (hS:S w.drew)
  (h:S w.drew→wpAnyH P .any (L.dropLast++[nopOf (L.getLast hne)]).toArray (lastQ P (L.getLast hne) Q) S L.length (Array.replicate L.length false) a w.drew):(Code.region id L.toArray true).wp P Q a w:=by
 have e:L.dropLast++[L.getLast hne]=L:=List.dropLast_concat_getLast hne;unfold lastB at hB;rw[List.getLast?_eq_some_getLast hne] at hB;simp only[Bool.and_eq_true] at hB;obtain ⟨⟨⟨⟨h1,h2⟩,h3⟩,h4⟩,h5⟩:=hB;have hl:L.dropLast.length+1=L.length:=by have:=congrArg List.length e;simpa using this
 have key:=wp_region_last (P:=P) (S:=S) (Q:=Q) (l:=L.dropLast) (st:=L.getLast hne) (id:=id) (a:=a) (w:=w) hm h1 h2 (by rw[e];exact h3) (by rw[e];exact h4) (by rw[e];exact h5) hS (by rw[hl];exact h)
 rwa [e] at key
end
end
section
open Go Go.RowKit
def StateV (w:World) (lo hi:Nat) (v:Value) (s:Ste):Prop:=
 ∃ A1 c1 A2 c2,v=.agg #[.slice A1 s.values.length c1,.slice A2 s.heap.length c2]∧IntsV w lo hi A1 s.values∧IntsV w lo hi A2 s.heap
section
variable {w w':World} {lo hi lo' hi':Nat} {v:Value} {s:Ste}
theorem StateV.bz (h:StateV w lo hi v s) (hb:Below w.heap.size w w'):StateV w' lo hi v s:=by
 obtain ⟨A1,c1,A2,c2,e,h1,h2⟩:=h;exact ⟨A1,c1,A2,c2,e,h1.bz hb,h2.bz hb⟩
theorem StateV.abv {l:Nat} (h:StateV w lo hi v s) (hb:Abv l w w') (hl:l≤lo):StateV w' lo hi v s:=by
 obtain ⟨A1,c1,A2,c2,e,h1,h2⟩:=h;exact ⟨A1,c1,A2,c2,e,Rd.abv h1 hb hl,Rd.abv h2 hb hl⟩
theorem StateV.mono (h:StateV w lo hi v s) (e1:lo'≤lo) (e2:hi≤hi'):StateV w lo' hi' v s:=by
 obtain ⟨A1,c1,A2,c2,e,h1,h2⟩:=h;exact ⟨A1,c1,A2,c2,e,h1.mono e1 e2,h2.mono e1 e2⟩
end
def addrB (n:Int):Bool:=decide (1≤n∧n≤8)
def valB (n:Int):Bool:=decide (0≤n∧n≤8)
def cellB (n:Int):Bool:=decide (n = -1) || valB n
def Ste.valid (s:Ste):Bool:=decide (s.values.length=8)&&decide (s.heap.length=8)&&(s.values.all valB&&s.heap.all cellB)
def cont (h:List Int) (a:Int):Int:=if addrB a then (h[(a-1).toNat]?).getD (-1) else -1
def allocB (h:List Int) (a:Int):Bool:=decide (0≤cont h a)
def tval (vs:List Int) (t:Int):Int:=if t=0 then 0 else (vs[(t-1).toNat]?).getD 0
def Fct.holds (vs:List Int) (f:Fct):Bool:=decide (tval vs f.a=tval vs f.b) == f.eq
def factsHold (fs:List Fct) (vs:List Int):Bool:=factsValid fs&&decide (vs.length=8)&&fs.all (Fct.holds vs)
theorem Ste.valid_len {s:Ste} (h:s.valid=true):s.values.length=8∧s.heap.length=8:=by
 simp[Ste.valid] at h;exact h.1
theorem cont_le {h:List Int} (hh:h.all cellB=true) (a:Int) : -1≤cont h a∧cont h a≤8:=by
 unfold cont
 split
 ·cases e:h[(a-1).toNat]? with
  | none=>simp
  | some v=>
   have:=List.all_eq_true.1 hh v (List.mem_of_getElem? e);simp[cellB,valB] at this;simp only[Option.getD_some];omega
 ·omega
theorem tval_le {vs:List Int} (hh:vs.all valB=true) (t:Int):0≤tval vs t∧tval vs t≤8:=by
 unfold tval
 split
 ·omega
 ·cases e:vs[(t-1).toNat]? with
  | none=>simp
  | some v=>
   have:=List.all_eq_true.1 hh v (List.mem_of_getElem? e);simpa [valB] using this
def walkF (h:List Int):Nat→Int→Int→Option (List Int)
 | 0,x,tz0=>if x=tz0 then some [] else none
 | n+1,x,tz0=>if x=tz0 then some [] else if allocB h x then (walkF h n (cont h x) tz0).map (x :: ·) else none
theorem walkF_here (h:List Int) (n:Nat) (x:Int):walkF h n x x=some []:=by cases n<;>simp[walkF]
theorem walkF_stop (h:List Int) (n:Nat) {x tz0:Int} (hne:x≠tz0) (hs:allocB h x=false∨n=0):walkF h n x tz0=none:=by
 cases n with
 | zero=>simp[walkF,hne]
 | succ n=>
  rcases hs with hs|hs
  ·simp[walkF,hne,hs]
  ·cases hs
theorem walkF_on (h:List Int) (n:Nat) {x tz0:Int} (hne:x≠tz0) (hs:allocB h x=true):walkF h (n+1) x tz0=(walkF h n (cont h x) tz0).map (x :: ·):=by simp[walkF,hne,hs]
theorem cont_alloc {h:List Int} {a:Int} (ha:allocB h a=true):addrB a=true∧0≤cont h a:=by
 simp only[allocB,decide_eq_true_eq] at ha;refine ⟨?_,ha⟩;unfold cont at ha
 split at ha
 ·assumption
 ·omega
def addAll:List Int→List Int→Option (List Int)
 | seen,[]=>some seen
 | seen,c :: cs=>if c∈seen then none else addAll (seen++[c]) cs
def atomCells (s:Ste) (x:Atm):Option (List Int):=
 if x.kind=2 then walkF s.heap 8 (tval s.values x.a) (tval s.values x.b) else if cont s.heap (tval s.values x.a)=tval s.values x.b then some [tval s.values x.a] else none
def partAtoms (s:Ste):List Int→List Atm→Option (List Int)
 | seen,[]=>some seen
 | seen,x :: xs=>(atomCells s x).bind fun cs=>(addAll seen cs).bind fun seen'=>partAtoms s seen' xs
def partOf (s:Ste) (a:Asn):Option (List Int):=if s.valid&&a.valid&&factsHold a.facts s.values then partAtoms s [] a.atoms else none
theorem walkF_addr (h:List Int):∀ (n:Nat) (x tz0:Int) (cs:List Int),walkF h n x tz0=some cs→cs.length≤n∧∀ c∈cs,addrB c=true∧allocB h c=true:=by
 intro n
 induction n with
 | zero=>intro x tz0 cs hw;simp only[walkF] at hw;split at hw<;>simp_all
 | succ n ih=>
  intro x tz0 cs hw;simp only[walkF] at hw
  split at hw
  ·obtain rfl:=Option.some.inj hw;simp
  ·split at hw
   ·rename_i ha;obtain ⟨ds,hd,rfl⟩:=Option.map_eq_some_iff.1 hw;have:=ih _ _ _ hd;refine ⟨by simp;omega,fun c hc=>?_⟩;rcases List.mem_cons.1 hc with rfl|hc
    ·exact ⟨(cont_alloc ha).1,ha⟩
    ·exact this.2 c hc
   ·cases hw
theorem atomCells_addr {s:Ste} {x:Atm} (hs:s.valid=true) {cs:List Int} (h:atomCells s x=some cs):cs.length≤8∧∀ c∈cs,addrB c=true∧allocB s.heap c=true:=by
 unfold atomCells at h
 split at h
 ·exact walkF_addr _ _ _ _ _ h
 ·split at h
  ·rename_i hc;obtain rfl:=Option.some.inj h;have hv:s.values.all valB=true:=by simp only[Ste.valid,Bool.and_eq_true] at hs;exact hs.2.1
   have:=tval_le hv x.b;have ha:allocB s.heap (tval s.values x.a)=true:=by simp only[allocB,decide_eq_true_eq];omega
   refine ⟨by simp,fun c hcc=>?_⟩;obtain rfl:c=tval s.values x.a:=by simpa using hcc
   exact ⟨(cont_alloc ha).1,ha⟩
  ·cases h
theorem addAll_mem:∀ (cs seen out:List Int),addAll seen cs=some out→out=seen++cs:=by
 intro cs
 induction cs with
 | nil=>intro seen out h;simp only[addAll,Option.some.injEq] at h;simp[h]
 | cons c cs ih=>
  intro seen out h;simp only[addAll] at h
  split at h
  ·cases h
  ·rw[ih _ _ h];simp
end
section
open Go Go.RowKit Go.Proofs
abbrev Bs:Type:=List UInt8
abbrev sv (l:Bs):Value:=.string ⟨l.toArray⟩
def encS (ss:List Bs):List Value:=ss.map sv
@[simp] theorem encS_length (ss:List Bs):(encS ss).length=ss.length:=by simp[encS]
theorem bytes_eq (a b:Bs):(a == b)=decide (a=b):=by
 by_cases h:a=b
 ·rw[decide_eq_true h,h];exact beq_self_eq_true b
 ·rw[decide_eq_false h];exact beq_eq_false_iff_ne.2 h
theorem ret_str {x y:Bs} (h:x=y):Ending.returned (Value.string ⟨x.toArray⟩)=.returned (sv y):=by rw[h]
theorem addS {P:Program} (x y:Bs) (h:x.length+y.length≤9223372036854775807) (w:World):(Op.stringOp .add ⟨x.toArray⟩ ⟨y.toArray⟩).run P w=.ok (.string ⟨(x++y).toArray⟩) w:=by
 rw[run_string_add_sum w _ _ (by simp[ByteArray.size];omega),ByteArray.mk_append_mk]
theorem bidx (l:Bs) (k:Nat) (hk:k<l.length):∀ h,(ByteArray.mk l.toArray)[k]'h=l[k]'hk:=fun _=>rfl
theorem bext (l:Bs) (i j:Nat):(ByteArray.mk l.toArray).extract i j=⟨((l.drop i).take (j - i)).toArray⟩:=ByteArray.extract_mk l i j
theorem addO {P:Program} (x y:Bs) (h:x.length+y.length≤9223372036854775807):∃ z,aJ (z=x++y)∧∀ w:World,(Op.stringOp .add ⟨x.toArray⟩ ⟨y.toArray⟩).run P w=.ok (.string ⟨z.toArray⟩) w:=
 ⟨x++y,ax rfl,fun w=>addS x y h w⟩
abbrev tS:Nat:=9
theorem infoS:(Tryz.prog.info? tS).map (fun i=>(i.zero,i.size,i.bytes))=some (some (.string ⟨#[]⟩),1,16):=by kernel_rfl
def StrsO (w:World) (base:Nat) (v:Value) (xs:List Bs):Prop:=w.ownsRow base tS 1 v xs.length (encS xs)∧Lim xs.length
def StrsV (w:World) (lo hi:Nat) (A:Option Addr) (xs:List Bs):Prop:=Rd w lo hi 1 A xs.length (encS xs)
section
variable {w w':World} {base base' lo hi:Nat} {v:Value} {fs:List Bs} {A:Option Addr}
theorem StrsO.bz (h:StrsO w base v fs) (hb:Below w.heap.size w w'):StrsO w' base v fs:=⟨own_below h.1 hb,h.2⟩
theorem StrsO.abv {lo:Nat} (h:StrsO w base v fs) (hb:Abv lo w w') (hl:lo≤base):StrsO w' base v fs:=⟨own_abv h.1 hb hl,h.2⟩
theorem StrsO.lower (h:StrsO w base v fs) (hb:base'≤base):StrsO w base' v fs:=⟨own_lower h.1 hb,h.2⟩
theorem StrsO.reads (h:StrsO w base v fs):∃ A c,v=.slice A fs.length c∧StrsV w base w.heap.size A fs:=own_reads h.1 h.2
theorem StrsV.at (h:StrsV w lo hi A fs) {k:Nat} (hk:k<fs.length):∃ b o,A=some ⟨b,o,none⟩∧w.cell? ⟨b,o+k,none⟩=some (sv fs[k]):=by
 obtain ⟨b,o,e,_,hb,hc⟩:=h.raw.2 (by omega);exact ⟨b,o,e,hc _ _ (by simp[encS,List.getElem?_eq_getElem hk])⟩
theorem StrsV.bz (h:StrsV w lo hi A fs) (hb:Below w.heap.size w w'):StrsV w' lo hi A fs:=Rd.bz h hb
theorem StrsV.mono {lo' hi':Nat} (h:StrsV w lo hi A fs) (e1:lo'≤lo) (e2:hi≤hi'):StrsV w lo' hi' A fs:=Rd.mono h e1 e2
theorem StrsV.le (h:StrsV w lo hi A fs):Lim fs.length:=h.lim
theorem StrsO.empty (w:World) {g:Nat} (hg:g=w.heap.size):StrsO (w.alloc (.cells #[] tS)) g (.slice (some ⟨g,0,none⟩) 0 0) []:=by
 subst hg;exact ⟨own_empty w _ _,by simp[Lim]⟩
end
section
variable {ops:Array Oper} {rest:List Oper} {o:Oper} {a:Act} {Q:Exit→Act→World→Prop} {w:World}
theorem appS (hgd:o.guard=none) (s x:Operand) (ho:o.op=.call { callee:=.builtin .append,args:=#[s,x],argTypes:=#[186,186] })
  {base:Nat} {v:Value} {xs:List Bs} (hs:a.eval s=v) (hown:StrsO w base v xs) (g0:Nat) (n:Bs) (hx:a.eval x=.slice (some ⟨g0,0,none⟩) 1 1) (hc:w.cell? ⟨g0,0,none⟩=some (sv n))
  (hn:xs.length+1≤1049600) (hb:base≤w.heap.size)
  (h:∀ g c w',StrsO w' base (.slice (some ⟨g,0,none⟩) (xs.length+1) c) (xs++[n])→w.grownBy w' v.ownBlock→Below base w w'→wpList Tryz.prog ops Q rest (a.put o.dst (.slice (some ⟨g,0,none⟩) (xs.length+1) c)) w'):wpList Tryz.prog ops Q (o :: rest) a w:=by
 refine wpList_app hgd s x 186 ho Tryz.underlying186 infoS rfl (by decide) (by decide) hs hown.1 ⟨g0,0,none⟩ [sv n] hx rfl ?_ (by simp[Value.oneCell']) hn hb ?_
 ·intro j u hu
  match j,hu with
  | 0,hu=>simp at hu;subst hu;exact hc
 ·intro g c w' h1 h2 h3;exact h g c w' ⟨by simpa [encS] using h1,by simp[Lim];omega⟩ h2 h3
end
end
section
open Go Go.RowKit
inductive Cms where
 | nil:Cms
 | cons (kind a b:Int) (test:Fct) (inv:Asn) (body els rest:Cms):Cms
deriving DecidableEq,Inhabited
def Cms.len:Cms→Nat
 | .nil=>0
 | .cons _ _ _ _ _ _ _ r=>r.len+1
def Cms.cost:Cms→Nat
 | .nil=>0
 | .cons _ _ _ _ i body els r=>i.facts.length+i.atoms.length+(body.len+body.cost)+(els.len+els.cost)+r.cost
def Cms.small (n:Nat):Cms→Prop
 | .nil=>True
 | .cons _ _ _ _ i body els r=>i.facts.length≤n∧i.atoms.length≤n∧body.len≤n∧els.len≤n∧body.small n∧els.small n∧r.small n
theorem Cms.cost_small {n:Nat}:∀ {L:Cms},L.cost≤n→L.small n
 | .nil,_=>trivial
 | .cons k a b t i body els r,h=>by
  simp only[Cms.cost] at h;exact ⟨by omega,by omega,by omega,by omega,Cms.cost_small (by omega),Cms.cost_small (by omega),Cms.cost_small (by omega)⟩
def Cms.drop:Nat→Cms→Cms
 | 0,L=>L
 | _+1,.nil=>.nil
 | n+1,.cons _ _ _ _ _ _ _ r=>r.drop n
theorem Cms.drop_len:∀ (n:Nat) (L:Cms),(L.drop n).len=L.len - n
 | 0,L=>rfl
 | n+1,.nil=>by simp[Cms.drop,Cms.len]
 | n+1,.cons _ _ _ _ _ _ _ r=>by simp only[Cms.drop,Cms.len];rw[Cms.drop_len n r];omega
theorem Cms.cons_of_len:∀ {L:Cms},0<L.len→∃ k a b t i body els r,L=.cons k a b t i body els r
 | .nil,h=>by simp[Cms.len] at h
 | .cons k a b t i body els r,_=>⟨k,a,b,t,i,body,els,r,rfl⟩
def CmsAt (w:World) (lo hi:Nat):Cms→Nat→Nat→Prop
 | .nil,_,_=>True
 | .cons k a b t i body els r,bl,o=>
  (w.cell? ⟨bl,o,none⟩=some (.int .i64 k)∧w.cell? ⟨bl,o+1,none⟩=some (.int .i64 a)∧w.cell? ⟨bl,o+2,none⟩=some (.int .i64 b)∧
   w.cell? ⟨bl,o+3,none⟩=some (.bool t.eq)∧w.cell? ⟨bl,o+4,none⟩=some (.int .i64 t.a)∧w.cell? ⟨bl,o+5,none⟩=some (.int .i64 t.b))∧
  (∃ A c,w.cell? ⟨bl,o+6,none⟩=some (.slice A i.facts.length c)∧Rw w lo hi 3 A i.facts.length (encF i.facts))∧
  (∃ A c,w.cell? ⟨bl,o+7,none⟩=some (.slice A i.atoms.length c)∧Rw w lo hi 3 A i.atoms.length (encA i.atoms))∧
  (∃ A c,w.cell? ⟨bl,o+8,none⟩=some (.slice A body.len c)∧(0<body.len→∃ b' o',A=some ⟨b',o',none⟩∧lo≤b'∧b'<hi∧CmsAt w lo hi body b' o'))∧
  (∃ A c,w.cell? ⟨bl,o+9,none⟩=some (.slice A els.len c)∧(0<els.len→∃ b' o',A=some ⟨b',o',none⟩∧lo≤b'∧b'<hi∧CmsAt w lo hi els b' o'))∧
  CmsAt w lo hi r bl (o+10)
def CmsV (w:World) (lo hi:Nat) (A:Option Addr) (L:Cms):Prop:=0<L.len→∃ b o,A=some ⟨b,o,none⟩∧lo≤b∧b<hi∧CmsAt w lo hi L b o
section
variable {w w':World} {lo hi lo' hi':Nat}
theorem CmsAt.bz (hb:Below w.heap.size w w'):∀ {L:Cms} {bl o:Nat},CmsAt w lo hi L bl o→CmsAt w' lo hi L bl o
 | .nil,_,_,_=>trivial
 | .cons k a b t i body els r,bl,o,h=>by
  obtain ⟨⟨h0,h1,h2,h3,h4,h5⟩,⟨A6,c6,h6,g6⟩,⟨A7,c7,h7,g7⟩,⟨A8,c8,h8,g8⟩,⟨A9,c9,h9,g9⟩,hr⟩:=h;have hlt:bl<w.heap.size:=block_lt_of_cell h0;have hc:∀ j,w'.cell? ⟨bl,j,none⟩=w.cell? ⟨bl,j,none⟩:=fun j=>hb.cell (p:=⟨bl,j,none⟩) hlt;refine ⟨⟨(hc _).trans h0,(hc _).trans h1,(hc _).trans h2,(hc _).trans h3,(hc _).trans h4,(hc _).trans h5⟩,⟨A6,c6,(hc _).trans h6,g6.bz hb⟩,⟨A7,c7,(hc _).trans h7,g7.bz hb⟩,⟨A8,c8,(hc _).trans h8,fun hl=>?_⟩,⟨A9,c9,(hc _).trans h9,fun hl=>?_⟩,CmsAt.bz hb hr⟩
  ·obtain ⟨b',o',e,p1,p2,p3⟩:=g8 hl;exact ⟨b',o',e,p1,p2,CmsAt.bz hb p3⟩
  ·obtain ⟨b',o',e,p1,p2,p3⟩:=g9 hl;exact ⟨b',o',e,p1,p2,CmsAt.bz hb p3⟩
theorem CmsAt.mono (e1:lo'≤lo) (e2:hi≤hi'):∀ {L:Cms} {bl o:Nat},CmsAt w lo hi L bl o→CmsAt w lo' hi' L bl o
 | .nil,_,_,_=>trivial
 | .cons k a b t i body els r,bl,o,h=>by
  obtain ⟨h0,⟨A6,c6,h6,g6⟩,⟨A7,c7,h7,g7⟩,⟨A8,c8,h8,g8⟩,⟨A9,c9,h9,g9⟩,hr⟩:=h;refine ⟨h0,⟨A6,c6,h6,g6.mono e1 e2⟩,⟨A7,c7,h7,g7.mono e1 e2⟩,⟨A8,c8,h8,fun hl=>?_⟩,⟨A9,c9,h9,fun hl=>?_⟩,CmsAt.mono e1 e2 hr⟩
  ·obtain ⟨b',o',e,p1,p2,p3⟩:=g8 hl;exact ⟨b',o',e,by omega,by omega,CmsAt.mono e1 e2 p3⟩
  ·obtain ⟨b',o',e,p1,p2,p3⟩:=g9 hl;exact ⟨b',o',e,by omega,by omega,CmsAt.mono e1 e2 p3⟩
theorem CmsV.bz {A:Option Addr} {L:Cms} (h:CmsV w lo hi A L) (hb:Below w.heap.size w w'):CmsV w' lo hi A L:=fun hl=>by
 obtain ⟨b,o,e,p1,p2,p3⟩:=h hl;exact ⟨b,o,e,p1,p2,p3.bz hb⟩
theorem CmsV.mono {A:Option Addr} {L:Cms} (h:CmsV w lo hi A L) (e1:lo'≤lo) (e2:hi≤hi'):CmsV w lo' hi' A L:=fun hl=>by
 obtain ⟨b,o,e,p1,p2,p3⟩:=h hl;exact ⟨b,o,e,by omega,by omega,p3.mono e1 e2⟩
theorem CmsAt.drop:∀ (n:Nat) {L:Cms} {bl o:Nat},CmsAt w lo hi L bl o→CmsAt w lo hi (L.drop n) bl (o+n * 10)
 | 0,L,bl,o,h=>by simpa [Cms.drop] using h
 | n+1,.nil,bl,o,h=>trivial
 | n+1,.cons k a b t i body els r,bl,o,h=>by
  have:=CmsAt.drop n h.2.2.2.2.2
  rwa [show o+10+n * 10=o+(n+1) * 10 from by omega] at this
end
theorem Cms.small_drop {m:Nat}:∀ (n:Nat) {L:Cms},L.small m→(L.drop n).small m
 | 0,L,h=>h
 | n+1,.nil,h=>trivial
 | n+1,.cons k a b t i body els r,h=>Cms.small_drop n h.2.2.2.2.2.2
end
section
open Go Go.RowKit Go.Proofs Go.ChangeShapes Go.WideShapes Go.ChangeAt Go.Deep
section
variable {H:Type} {enc:TypeId×Value→H} {w:World} {base:Nat} {spare:Nat→Bool} {held:Bool}
end
end
section
open Go
def cl (c:List Int) (t:Int):Int:=(c[t.toNat]?).getD 0
def Fct.fits (c:List Int) (f:Fct):Bool:=decide (cl c f.a=cl c f.b) == f.eq
def Atm.fill (c:List Int) (x:Atm):Bool:=decide (x.kind=1) || !decide (cl c x.a=cl c x.b)
def Atm.cls (c:List Int) (x:Atm):Atm:=⟨x.kind,cl c x.a,cl c x.b⟩
def filledL (xs:List Atm) (c:List Int):List Atm:=(xs.filter (Atm.fill c)).map (Atm.cls c)
def apartF:List Int→List Atm→Bool
 | _,[]=>true
 | seen,x :: xs=>!decide (x.a=0) && !decide (x.a∈seen)&&apartF (seen++[x.a]) xs
def full (a:Asn) (c:List Int):Bool:=a.facts.all (Fct.fits c)&&apartF [] (filledL a.atoms c)
def gen (S:Nat):Nat→List Int→List (List Int)
 | 0,c=>[c]
 | n+1,c=>if S.testBit (8 - n) then (List.range (9 - n)).flatMap fun k=>if k<8 - n∧cl c k≠k then [] else gen S n (c.set (8 - n) k) else gen S n (c.set (8 - n) (-1))
def zeros:List Int:=[0,0,0,0,0,0,0,0,0]
def opened:List Int:=[0,-1,-1,-1,-1,-1,-1,-1,-1]
def cases (a:Asn) (S:Nat):List (List Int):=(gen S 9 zeros).filter (full a)
def possF (c:List Int) (last:Int) (fs:List Fct):Bool:=fs.all fun f=>!(decide (f.a≤last)&&decide (f.b≤last) && !f.fits c)
def inLast (c:List Int) (last:Int) (x:Atm):Bool:=decide (x.a≤last)&&decide (x.b≤last)&&x.fill c
def possA (c:List Int) (last:Int):List Int→List Atm→Bool
 | _,[]=>true
 | seen,x :: xs=>if inLast c last x then !decide (cl c x.a=0) && !decide (cl c x.a∈seen)&&possA c last (seen++[cl c x.a]) xs else possA c last seen xs
def poss (a:Asn) (c:List Int) (last:Int):Bool:=possF c last a.facts&&possA c last [] a.atoms
def ext (a:Asn) (S:Nat):Nat→List Int→List (List Int)
 | 0,c=>[c]
 | n+1,c=>if S.testBit (8 - n) then (List.range (9 - n)).flatMap fun k=>if k<8 - n∧cl c k≠k then [] else if poss a (c.set (8 - n) k) (8 - n:Nat) then ext a S n (c.set (8 - n) k) else [] else ext a S n (c.set (8 - n) (-1))
def fitsS (c:List Int) (fs:List Fct):Bool:=fs.all fun f=>!(decide (0≤cl c f.a)&&decide (0≤cl c f.b) && !f.fits c)
def earlyF (c:List Int):List Int→List Atm→Bool
 | _,[]=>true
 | seen,x :: xs=>if decide (x.kind=1)&&decide (0≤cl c x.a) then !decide (cl c x.a=0) && !decide (cl c x.a∈seen)&&earlyF c (seen++[cl c x.a]) xs else earlyF c seen xs
def seek (a:Asn) (S:Nat):Nat→List Int→List (List Int)
 | 0,c=>if fitsS c a.facts&&earlyF c [] a.atoms then (if apartF [] (filledL a.atoms c) then [c] else []) else []
 | n+1,c=>if fitsS c a.facts&&earlyF c [] a.atoms then (if S.testBit (8 - n) then (List.range (9 - n)).flatMap fun k=>if k<8 - n∧cl c k≠k then [] else seek a S n (c.set (8 - n) k) else seek a S n c) else []
theorem flatMap_congr' {α β:Type} {l:List α} {f g:α→List β} (h:∀ x∈l,f x=g x):l.flatMap f=l.flatMap g:=by
 induction l with
 | nil=>rfl
 | cons x xs ih=>rw[List.flatMap_cons,List.flatMap_cons,h x List.mem_cons_self,ih fun y hy=>h y (List.mem_cons_of_mem _ hy)]
section
variable {c d:List Int}
theorem cl_set (h:c.length=9) {t:Nat} (ht:t<9) (v:Int) {j:Int} (hj:0≤j):cl (c.set t v) j=if j=t then v else cl c j:=by
 unfold cl;by_cases e:j=t
 ·subst e;rw[if_pos rfl,Int.toNat_natCast,List.getElem?_set_self (by omega)];rfl
 ·rw[if_neg e,List.getElem?_set_ne (by omega)]
def Agr (c d:List Int) (last:Int):Prop:=∀ j:Int,0≤j→j≤last→cl d j=cl c j
theorem Agr.fits {f:Fct} {last:Int} (h:Agr c d last) (ha:0≤f.a) (hb:0≤f.b) (h1:f.a≤last) (h2:f.b≤last):f.fits d=f.fits c:=by
 unfold Fct.fits;rw[h _ ha h1,h _ hb h2]
theorem Agr.fill {f:Atm} {last:Int} (h:Agr c d last) (ha:0≤f.a) (hb:0≤f.b) (h1:f.a≤last) (h2:f.b≤last):f.fill d=f.fill c:=by
 unfold Atm.fill;rw[h _ ha h1,h _ hb h2]
def FactsOk (fs:List Fct):Prop:=∀ f∈fs,(0≤f.a∧f.a≤8)∧(0≤f.b∧f.b≤8)
def AtomsOk (xs:List Atm):Prop:=∀ x∈xs,(0≤x.a∧x.a≤8)∧(0≤x.b∧x.b≤8)
theorem Agr.possF {fs:List Fct} {last:Int} (h:Agr c d last) (hf:FactsOk fs):possF d last fs=possF c last fs:=by
 unfold Go.Proofs.YtgdfdmjnadnlnaaGreat.possF;rw[Bool.eq_iff_iff,List.all_eq_true,List.all_eq_true];refine forall_congr' fun f=>forall_congr' fun hm=>?_;obtain ⟨⟨h1,-⟩,⟨h2,-⟩⟩:=hf f hm;by_cases e1:f.a≤last
 ·by_cases e2:f.b≤last
  ·rw[h.fits h1 h2 e1 e2]
  ·simp[e2]
 ·simp[e1]
theorem Agr.inLast {x:Atm} {last:Int} (h:Agr c d last) (ha:0≤x.a) (hb:0≤x.b):inLast d last x=inLast c last x:=by
 unfold Go.Proofs.YtgdfdmjnadnlnaaGreat.inLast;by_cases e1:x.a≤last
 ·by_cases e2:x.b≤last
  ·rw[h.fill ha hb e1 e2]
  ·simp[e2]
 ·simp[e1]
theorem inLast_le {x:Atm} {last:Int} (h:inLast c last x=true):x.a≤last∧x.b≤last∧x.fill c=true:=by
 simp[inLast] at h;exact ⟨h.1.1,h.1.2,h.2⟩
theorem Agr.possA {last:Int} (h:Agr c d last):∀ (xs:List Atm) (seen:List Int),AtomsOk xs→possA d last seen xs=possA c last seen xs:=by
 intro xs
 induction xs with
 | nil=>intro seen _;rfl
 | cons x xs ih=>
  intro seen hx;have hx':AtomsOk xs:=fun y hy=>hx y (List.mem_cons_of_mem _ hy);obtain ⟨⟨h1,-⟩,⟨h2,-⟩⟩:=hx x List.mem_cons_self;unfold Go.Proofs.YtgdfdmjnadnlnaaGreat.possA;rw[h.inLast h1 h2];cases e:Go.Proofs.YtgdfdmjnadnlnaaGreat.inLast c last x
  ·simp only[Bool.false_eq_true,if_false];exact ih _ hx'
  ·rw[if_pos rfl,if_pos rfl,h _ h1 (inLast_le e).1,ih _ hx']
theorem Agr.poss {a:Asn} {last:Int} (h:Agr c d last) (hf:FactsOk a.facts) (hx:AtomsOk a.atoms):poss a d last=poss a c last:=by
 unfold Go.Proofs.YtgdfdmjnadnlnaaGreat.poss;rw[h.possF hf,h.possA _ _ hx]
theorem possA_iff (c:List Int) (last:Int):∀ (xs:List Atm) (seen:List Int),possA c last seen xs=true↔
  ((∀ x∈xs,inLast c last x=true→cl c x.a≠0∧cl c x.a∉seen)∧((xs.filter (inLast c last)).map fun x=>cl c x.a).Nodup):=by
 intro xs
 induction xs with
 | nil=>intro seen;simp[possA]
 | cons x xs ih=>
  intro seen;unfold possA;cases e:inLast c last x
  ·simp only[Bool.false_eq_true,if_false,ih];rw[List.filter_cons_of_neg (by simp[e])];constructor
   ·rintro ⟨h1,h2⟩;refine ⟨fun y hy=>?_,h2⟩;rcases List.mem_cons.1 hy with rfl|hy
    ·intro h;rw[e] at h;cases h
    ·exact h1 y hy
   ·rintro ⟨h1,h2⟩;exact ⟨fun y hy=>h1 y (List.mem_cons_of_mem _ hy),h2⟩
  ·rw[if_pos rfl,List.filter_cons_of_pos e,List.map_cons,List.nodup_cons];simp only[Bool.and_eq_true,Bool.not_eq_true',decide_eq_false_iff_not,ih];constructor
   ·rintro ⟨⟨g1,g2⟩,g3,g4⟩;refine ⟨fun y hy hl=>?_,?_,g4⟩
    ·rcases List.mem_cons.1 hy with rfl|hy
     ·exact ⟨g1,g2⟩
     ·have:=g3 y hy hl;exact ⟨this.1,fun h=>this.2 (List.mem_append_left _ h)⟩
    ·intro hm;obtain ⟨y,hy,ey⟩:=List.mem_map.1 hm;rw[List.mem_filter] at hy;exact (g3 y hy.1 hy.2).2 (List.mem_append_right _ (by simp[ey]))
   ·rintro ⟨g1,g2,g3⟩;have:=g1 x List.mem_cons_self e;refine ⟨⟨this.1,this.2⟩,fun y hy hl=>?_,g3⟩;have h2:=g1 y (List.mem_cons_of_mem _ hy) hl;refine ⟨h2.1,fun h=>?_⟩;rcases List.mem_append.1 h with h|h
    ·exact h2.2 h
    ·exact g2 (List.mem_map.2 ⟨y,List.mem_filter.2 ⟨hy,hl⟩,by simpa using h⟩)
theorem possA_mono {last last':Int} (hl:last≤last') {xs:List Atm} {seen:List Int} (h:possA c last' seen xs=true):possA c last seen xs=true:=by
 rw[possA_iff] at h ⊢
 have him:∀ x,inLast c last x=true→inLast c last' x=true:=by
  intro x hx;have:=inLast_le hx;simp[inLast,this.2.2];omega
 refine ⟨fun x hx hi=>h.1 x hx (him x hi),?_⟩;refine List.Nodup.sublist ?_ h.2;apply List.Sublist.map
 have e:xs.filter (inLast c last)=(xs.filter (inLast c last')).filter (inLast c last):=by
  rw[List.filter_filter];apply List.filter_congr;intro x _;cases e:inLast c last x
  ·simp
  ·simp[him x e]
 rw[e];exact List.filter_sublist
theorem possF_mono {last last':Int} (hl:last≤last') {fs:List Fct} (h:possF c last' fs=true):possF c last fs=true:=by
 unfold possF at *;rw[List.all_eq_true] at h ⊢;intro f hf;have:=h f hf;by_cases e1:f.a≤last
 ·by_cases e2:f.b≤last
  ·have e3:f.a≤last':=by omega
   have e4:f.b≤last':=by omega
   simpa [e1,e2,e3,e4] using this
  ·simp[e2]
 ·simp[e1]
theorem poss_mono {a:Asn} {last last':Int} (hl:last≤last') (h:poss a c last'=true):poss a c last=true:=by
 unfold poss at *;rw[Bool.and_eq_true] at h ⊢;exact ⟨possF_mono hl h.1,possA_mono hl h.2⟩
theorem apart_possA:∀ (xs:List Atm) (seen:List Int),AtomsOk xs→apartF seen (filledL xs c)=possA c 8 seen xs:=by
 intro xs
 induction xs with
 | nil=>intro seen _;rfl
 | cons x xs ih=>
  intro seen hx;have hx':AtomsOk xs:=fun y hy=>hx y (List.mem_cons_of_mem _ hy);obtain ⟨⟨-,h1⟩,⟨-,h2⟩⟩:=hx x List.mem_cons_self;have e:inLast c 8 x=x.fill c:=by simp[inLast,h1,h2]
  unfold possA filledL;rw[e];cases hf:x.fill c
  ·rw[List.filter_cons_of_neg (by simp[hf])];simp only[Bool.false_eq_true,if_false];exact ih _ hx'
  ·rw[List.filter_cons_of_pos hf,List.map_cons,if_pos rfl];unfold apartF;have:=ih (seen++[cl c x.a]) hx';unfold filledL at this;rw[show (Atm.cls c x).a=cl c x.a from rfl,this]
theorem full_poss {a:Asn} (hf:FactsOk a.facts) (hx:AtomsOk a.atoms):full a c=poss a c 8:=by
 unfold full poss;rw[apart_possA _ _ hx]
 congr 1
 unfold possF;rw[Bool.eq_iff_iff,List.all_eq_true,List.all_eq_true];refine forall_congr' fun f=>forall_congr' fun hm=>?_;obtain ⟨⟨-,h1⟩,⟨-,h2⟩⟩:=hf f hm;simp[h1,h2]
theorem gen_ok (S:Nat):∀ (n:Nat) (c d:List Int),n≤9→c.length=9→d∈gen S n c→d.length=9∧Agr c d (8 - n:Int)∧∀ j:Nat,9 - n≤j→j<9→(S.testBit j=true→0≤cl d j∧cl d j≤j)∧(S.testBit j=false→cl d j = -1):=by
 intro n
 induction n with
 | zero=>
  intro c d _ hc hd;simp only[gen,List.mem_singleton] at hd;subst hd;exact ⟨hc,fun j _ _=>rfl,fun j h1 h2=>by omega⟩
 | succ n ih=>
  intro c d hn hc hd
  have key:∀ v:Int,d∈gen S n (c.set (8 - n) v)→d.length=9∧Agr c d (8 - (n+1:Nat):Int)∧cl d ((8 - n:Nat):Int)=v∧∀ j:Nat,9 - n≤j→j<9→(S.testBit j=true→0≤cl d j∧cl d j≤j)∧(S.testBit j=false→cl d j = -1):=by
   intro v hd;obtain ⟨h1,h2,h3⟩:=ih _ _ (by omega) (by simpa using hc) hd;refine ⟨h1,fun j h0 hj=>?_,?_,h3⟩
   ·rw[h2 j h0 (by omega),cl_set hc (by omega) _ h0,if_neg (by omega)]
   ·rw[h2 _ (by omega) (by omega),cl_set hc (by omega) _ (by omega),if_pos rfl]
  unfold gen at hd;cases e:S.testBit (8 - n)
  ·rw[e] at hd;simp only[Bool.false_eq_true,if_false] at hd;obtain ⟨h1,h2,h3,h4⟩:=key _ hd;refine ⟨h1,h2,fun j hj hj'=>?_⟩;by_cases ej:j=8 - n
   ·subst ej;exact ⟨fun h=>(by rw[e] at h;cases h),fun _=>h3⟩
   ·exact h4 j (by omega) hj'
  ·rw[e,if_pos rfl,List.mem_flatMap] at hd;obtain ⟨k,hk,hd⟩:=hd;rw[List.mem_range] at hk
   split at hd
   ·cases hd
   ·obtain ⟨h1,h2,h3,h4⟩:=key _ hd;refine ⟨h1,h2,fun j hj hj'=>?_⟩;by_cases ej:j=8 - n
    ·subst ej;exact ⟨fun _=>by rw[h3];omega,fun h=>by rw[e] at h;cases h⟩
    ·exact h4 j (by omega) hj'
theorem gen_congr (S:Nat):∀ (n:Nat) (c d:List Int),n≤9→c.length=9→d.length=9→Agr c d (8 - n:Int)→gen S n d=gen S n c:=by
 intro n
 induction n with
 | zero=>
  intro c d _ hc hd h
  have:d=c:=by
   apply List.ext_getElem (by omega);intro j h1 h2;have:=h j (by omega) (by omega);simpa [cl,List.getElem?_eq_getElem h1,List.getElem?_eq_getElem h2] using this
  rw[this]
 | succ n ih=>
  intro c d hn hc hd h
  have key:∀ v:Int,gen S n (d.set (8 - n) v)=gen S n (c.set (8 - n) v):=by
   intro v;refine ih _ _ (by omega) (by simpa using hc) (by simpa using hd) fun j h0 hj=>?_;rw[cl_set hd (by omega) _ h0,cl_set hc (by omega) _ h0]
   split
   ·rfl
   ·exact h j h0 (by omega)
  unfold gen;rw[key]
  split
  ·apply flatMap_congr';intro k hk;rw[List.mem_range] at hk;rw[key];by_cases hlt:k<8 - n
   ·rw[h k (by omega) (by omega)]
   ·simp[hlt]
  ·rfl
theorem filter_none {α:Type} {p:α→Bool} {l:List α} (h:∀ x∈l,p x=false):l.filter p=[]:=by
 rw[List.filter_eq_nil_iff];intro x hx;simp[h x hx]
theorem ext_eq {a:Asn} {S:Nat} (hf:FactsOk a.facts) (hx:AtomsOk a.atoms) (hS:∀ t:Nat,S.testBit t=false→(∀ f∈a.facts,f.a≠t∧f.b≠t)∧(∀ x∈a.atoms,x.a≠t∧x.b≠t)) :
  ∀ (n:Nat) (c:List Int),n≤9→c.length=9→poss a c (8 - n:Int)=true→ext a S n c=(gen S n c).filter (full a):=by
 intro n
 induction n with
 | zero=>
  intro c _ hc hp;simp only[ext,gen];rw[List.filter_cons_of_pos]
  ·rfl
  ·rw[full_poss hf hx];simpa using hp
 | succ n ih=>
  intro c hn hc hp;unfold ext gen;cases e:S.testBit (8 - n)
  ·simp only[Bool.false_eq_true,if_false];refine ih _ (by omega) (by simpa using hc) ?_;obtain ⟨n1,n2⟩:=hS _ e;have hA:Agr c (c.set (8 - n) (-1)) (8 - (n+1:Nat):Int):=fun j h0 hj=>by rw[cl_set hc (by omega) _ h0,if_neg (by omega)]
   rw[←hA.poss hf hx] at hp;generalize c.set (8 - n) (-1)=d at hp ⊢;unfold poss at hp ⊢;rw[Bool.and_eq_true] at hp ⊢;constructor
   ·have h1:=hp.1;unfold possF at h1 ⊢;rw[List.all_eq_true] at h1 ⊢;intro f hm;have h2:=h1 f hm;have h3:=n1 f hm;have e1:(f.a≤(8 - (n+1:Nat):Int))↔f.a≤(8 - n:Int):=by omega
    have e2:(f.b≤(8 - (n+1:Nat):Int))↔f.b≤(8 - n:Int):=by omega
    rw[decide_eq_decide.2 e1,decide_eq_decide.2 e2] at h2;exact h2
   ·have h1:=hp.2;rw[possA_iff] at h1 ⊢
    have e0:∀ x∈a.atoms,inLast d (8 - n:Int) x=inLast d (8 - (n+1:Nat):Int) x:=by
     intro x hm;have h3:=n2 x hm;have e1:(x.a≤(8 - (n+1:Nat):Int))↔x.a≤(8 - n:Int):=by omega
     have e2:(x.b≤(8 - (n+1:Nat):Int))↔x.b≤(8 - n:Int):=by omega
     unfold inLast;rw[decide_eq_decide.2 e1,decide_eq_decide.2 e2]
    refine ⟨fun x hm hi=>h1.1 x hm (by rw[←e0 x hm];exact hi),?_⟩;rw[List.filter_congr e0];exact h1.2
  ·rw[if_pos rfl,if_pos rfl,List.filter_flatMap];apply flatMap_congr';intro k hk;rw[List.mem_range] at hk
   split
   ·rfl
   ·have hn8:((8 - n:Nat):Int)=(8 - n:Int):=by omega
    split
    ·rename_i hps;rw[hn8] at hps;exact ih _ (by omega) (by simpa using hc) hps
    ·rename_i hps
     symm
     apply filter_none;intro d hd;obtain ⟨-,h2,-⟩:=gen_ok S n _ d (by omega) (by simpa using hc) hd;cases hfu:full a d
     ·rfl
     ·rw[full_poss hf hx] at hfu;have:=poss_mono (last:=(8 - n:Int)) (by omega) hfu;rw[h2.poss hf hx,←hn8] at this;exact absurd this hps
theorem poss_low {a:Asn} (hf:FactsOk a.facts) (hx:AtomsOk a.atoms):poss a c (-1)=true:=by
 unfold poss;rw[Bool.and_eq_true];constructor
 ·unfold possF;rw[List.all_eq_true];intro f hm;have:=hf f hm;have e:¬f.a≤-1:=by omega
  simp[e]
 ·rw[possA_iff]
  have e0:∀ x∈a.atoms,inLast c (-1) x=false:=by
   intro x hm;have:=hx x hm;have e:¬x.a≤-1:=by omega
   simp[inLast,e]
  refine ⟨fun x hm hi=>(by rw[e0 x hm] at hi;cases hi),?_⟩;rw[filter_none e0];simp
theorem ext_cases {a:Asn} {S:Nat} (hf:FactsOk a.facts) (hx:AtomsOk a.atoms) (hS:∀ t:Nat,S.testBit t=false→(∀ f∈a.facts,f.a≠t∧f.b≠t)∧(∀ x∈a.atoms,x.a≠t∧x.b≠t)):ext a S 9 zeros=cases a S:=
 ext_eq hf hx hS 9 zeros (by omega) rfl (poss_low hf hx)
theorem earlyF_iff (c:List Int):∀ (xs:List Atm) (seen:List Int),earlyF c seen xs=true↔
  ((∀ x∈xs,(x.kind=1∧0≤cl c x.a)→cl c x.a≠0∧cl c x.a∉seen)∧((xs.filter fun x=>decide (x.kind=1)&&decide (0≤cl c x.a)).map fun x=>cl c x.a).Nodup):=by
 intro xs
 induction xs with
 | nil=>intro seen;simp[earlyF]
 | cons x xs ih=>
  intro seen;unfold earlyF;cases e:(decide (x.kind=1)&&decide (0≤cl c x.a))
  ·simp only[Bool.false_eq_true,if_false,ih];have e':¬(x.kind=1∧0≤cl c x.a):=by simpa using e
   rw[List.filter_cons_of_neg (by simp[e])];constructor
   ·rintro ⟨h1,h2⟩;refine ⟨fun y hy=>?_,h2⟩;rcases List.mem_cons.1 hy with rfl|hy
    ·exact fun h=>absurd h e'
    ·exact h1 y hy
   ·rintro ⟨h1,h2⟩;exact ⟨fun y hy=>h1 y (List.mem_cons_of_mem _ hy),h2⟩
  ·have e':x.kind=1∧0≤cl c x.a:=by simpa using e
   rw[if_pos rfl,List.filter_cons_of_pos (by simpa using e),List.map_cons,List.nodup_cons];simp only[Bool.and_eq_true,Bool.not_eq_true',decide_eq_false_iff_not,ih];constructor
   ·rintro ⟨⟨g1,g2⟩,g3,g4⟩;refine ⟨fun y hy hl=>?_,?_,g4⟩
    ·rcases List.mem_cons.1 hy with rfl|hy
     ·exact ⟨g1,g2⟩
     ·have:=g3 y hy hl;exact ⟨this.1,fun h=>this.2 (List.mem_append_left _ h)⟩
    ·intro hm;obtain ⟨y,hy,ey⟩:=List.mem_map.1 hm;rw[List.mem_filter] at hy;exact (g3 y hy.1 (by simpa using hy.2)).2 (List.mem_append_right _ (by simp[ey]))
   ·rintro ⟨g1,g2,g3⟩;have:=g1 x List.mem_cons_self e';refine ⟨⟨this.1,this.2⟩,fun y hy hl=>?_,g3⟩;have h2:=g1 y (List.mem_cons_of_mem _ hy) hl;refine ⟨h2.1,fun h=>?_⟩;rcases List.mem_append.1 h with h|h
    ·exact h2.2 h
    ·exact g2 (List.mem_map.2 ⟨y,List.mem_filter.2 ⟨hy,by simpa using hl⟩,by simpa using h⟩)
theorem full_early {a:Asn} (hf:FactsOk a.facts) (hx:AtomsOk a.atoms) (hA:∀ j:Int,0≤j→j≤8→0≤cl c j→cl d j=cl c j) (h:full a d=true):(fitsS c a.facts&&earlyF c [] a.atoms)=true:=by
 have hp:=h;rw[full_poss hf hx] at hp;unfold full at h;unfold poss at hp;rw[Bool.and_eq_true] at h hp ⊢;have hF:=List.all_eq_true.1 h.1;have hP:=(possA_iff _ _ _ _).1 hp.2;constructor
 ·unfold fitsS;rw[List.all_eq_true];intro f hm;obtain ⟨⟨a1,a2⟩,⟨b1,b2⟩⟩:=hf f hm;by_cases e1:0≤cl c f.a
  ·by_cases e2:0≤cl c f.b
   ·have h1:=hF f hm;unfold Fct.fits at h1 ⊢;rw[hA _ a1 a2 e1,hA _ b1 b2 e2] at h1;simp[h1]
   ·simp[e2]
  ·simp[e1]
 ·have him:∀ x∈a.atoms,x.kind=1∧0≤cl c x.a→inLast d 8 x=true∧cl d x.a=cl c x.a:=by
   rintro x hm ⟨h1,h2⟩;obtain ⟨⟨a1,a2⟩,⟨b1,b2⟩⟩:=hx x hm;exact ⟨by simp[inLast,a2,b2,Atm.fill,h1],hA _ a1 a2 h2⟩
  rw[earlyF_iff];refine ⟨fun x hm hk=>?_,?_⟩
  ·obtain ⟨g1,g2⟩:=him x hm hk;have:=(hP.1 x hm g1).1;rw[g2] at this;exact ⟨this,by simp⟩
  ·have e:((a.atoms.filter fun x=>decide (x.kind=1)&&decide (0≤cl c x.a)).map fun x=>cl c x.a)=((a.atoms.filter fun x=>decide (x.kind=1)&&decide (0≤cl c x.a)).map fun x=>cl d x.a):=by
    apply List.map_congr_left;intro x hm;rw[List.mem_filter] at hm;exact (him x hm.1 (by simpa using hm.2)).2.symm
   rw[e];refine List.Nodup.sublist ?_ hP.2;apply List.Sublist.map
   have e2:(a.atoms.filter fun x=>decide (x.kind=1)&&decide (0≤cl c x.a))=(a.atoms.filter (inLast d 8)).filter fun x=>decide (x.kind=1)&&decide (0≤cl c x.a):=by
    rw[List.filter_filter];apply List.filter_congr;intro x hm;cases e3:(decide (x.kind=1)&&decide (0≤cl c x.a))
    ·simp
    ·simp[(him x hm (by simpa using e3)).1]
   rw[e2];exact List.filter_sublist
theorem seek_eq {a:Asn} {S:Nat} (hf:FactsOk a.facts) (hx:AtomsOk a.atoms) (hS:∀ t:Nat,S.testBit t=false→(∀ f∈a.facts,f.a≠t∧f.b≠t)∧(∀ x∈a.atoms,x.a≠t∧x.b≠t)) :
  ∀ (n:Nat) (c:List Int),n≤9→c.length=9→(∀ j:Nat,9 - n≤j→j<9→cl c j = -1)→(∀ j:Nat,j<9 - n→S.testBit j=true→0≤cl c j)→seek a S n c=(gen S n c).filter (full a):=by
 intro n
 induction n with
 | zero=>
  intro c _ hc _ hp;simp only[seek,gen]
  have hF:fitsS c a.facts=a.facts.all (Fct.fits c):=by
   unfold fitsS;rw[Bool.eq_iff_iff,List.all_eq_true,List.all_eq_true];refine forall_congr' fun f=>forall_congr' fun hm=>?_;obtain ⟨⟨a1,a2⟩,⟨b1,b2⟩⟩:=hf f hm
   have k1:0≤cl c f.a:=by
    obtain ⟨t,e⟩:=Int.eq_ofNat_of_zero_le a1;rw[e];apply hp t (by omega);cases h:S.testBit t
    ·exact absurd e ((hS t h).1 f hm).1
    ·rfl
   have k2:0≤cl c f.b:=by
    obtain ⟨t,e⟩:=Int.eq_ofNat_of_zero_le b1;rw[e];apply hp t (by omega);cases h:S.testBit t
    ·exact absurd e ((hS t h).1 f hm).2
    ·rfl
   simp[k1,k2]
  cases hfu:full a c
  ·rw[filter_none (by simpa using hfu)]
   split
   ·rename_i h1;rw[Bool.and_eq_true,hF] at h1;rw[if_neg];intro h2;unfold full at hfu;rw[h1.1,h2] at hfu;cases hfu
   ·rfl
  ·rw[if_pos (full_early hf hx (fun _ _ _ _=>rfl) hfu),List.filter_cons_of_pos hfu,if_pos]
   ·rfl
   ·unfold full at hfu;rw[Bool.and_eq_true] at hfu;exact hfu.2
 | succ n ih=>
  intro c hn hc hop hp;unfold seek;cases hE:(fitsS c a.facts&&earlyF c [] a.atoms)
  ·simp only[Bool.false_eq_true,if_false]
   symm
   apply filter_none;intro d hd;obtain ⟨-,h2,-⟩:=gen_ok S (n+1) _ d hn hc hd;cases hfu:full a d
   ·rfl
   ·have:=full_early (c:=c) hf hx (fun j h0 h8 hj=>?_) hfu
    ·rw[hE] at this;cases this
    ·apply h2 j h0;by_cases hlt:(8 - (n+1:Nat):Int)<j
     ·obtain ⟨t,e⟩:=Int.eq_ofNat_of_zero_le h0;have:=hop t (by omega) (by omega);rw[e,this] at hj;omega
     ·omega
  ·rw[if_pos rfl];unfold gen;cases e:S.testBit (8 - n)
   ·simp only[Bool.false_eq_true,if_false]
    have e1:c.set (8 - n) (-1)=c:=by
     have:=hop (8 - n) (by omega) (by omega);have hl:8 - n<c.length:=by omega
     have h1:c[8 - n] = -1:=by simpa [cl,List.getElem?_eq_getElem hl] using this
     rw[←h1,List.set_getElem_self]
    rw[e1];refine ih _ (by omega) hc (fun j h1 h2=>hop j (by omega) h2) (fun j h1 h2=>?_);by_cases ej:j=8 - n
    ·subst ej;rw[e] at h2;cases h2
    ·exact hp j (by omega) h2
   ·rw[if_pos rfl,if_pos rfl,List.filter_flatMap];apply flatMap_congr';intro k hk;rw[List.mem_range] at hk
    split
    ·rfl
    ·refine ih _ (by omega) (by simpa using hc) (fun j h1 h2=>?_) (fun j h1 h2=>?_)
     ·rw[cl_set hc (by omega) _ (by omega),if_neg (by omega)];exact hop j (by omega) h2
     ·rw[cl_set hc (by omega) _ (by omega)]
      split
      ·omega
      ·exact hp j (by omega) h2
theorem seek_cases {a:Asn} {S:Nat} (hf:FactsOk a.facts) (hx:AtomsOk a.atoms) (h0:S.testBit 0=true) (hS:∀ t:Nat,S.testBit t=false→(∀ f∈a.facts,f.a≠t∧f.b≠t)∧(∀ x∈a.atoms,x.a≠t∧x.b≠t)):seek a S 8 opened=cases a S:=by
 have hop:∀ j:Nat,9 - 8≤j→j<9→cl opened j = -1:=by
  intro j h1 h2;obtain rfl|rfl|rfl|rfl|rfl|rfl|rfl|rfl:j=1∨j=2∨j=3∨j=4∨j=5∨j=6∨j=7∨j=8:=by omega
  all_goals rfl
 have hcl:∀ j:Nat,j<9 - 8→S.testBit j=true→0≤cl opened j:=by
  intro j h1 _;obtain rfl:j=0:=by omega
  decide
 rw[seek_eq hf hx hS 8 opened (by omega) rfl hop hcl];unfold cases
 congr 1
 show _=(if S.testBit 0 then _ else _);rw[if_pos h0];show _=(List.range 1).flatMap _;rw[show List.range 1=[0] from rfl];simp only[List.flatMap_cons,List.flatMap_nil,List.append_nil];rw[if_neg (by omega)];refine gen_congr S 8 (zeros.set 0 0) opened (by omega) rfl rfl fun j h1 h2=>?_;obtain rfl:j=0:=by omega
 rfl
end
theorem Asn.valid_ok {a:Asn} (h:a.valid=true):FactsOk a.facts∧AtomsOk a.atoms:=by
 simp only[Asn.valid,factsValid,Bool.and_eq_true,List.all_eq_true] at h;refine ⟨fun f hf=>?_,fun x hx=>?_⟩
 ·have:=h.1.2 f hf;simp[Fct.valid,isTermB] at this;omega
 ·have:=h.2.2 x hx;simp[Atm.valid,isTermB] at this;omega
end
section
open Go Go.RowKit
def Turn (T : TypeId) (B : Nat) (W : World) (row : Option Nat) : Prop := ∀ r, row = some r → B ≤ r ∧ ∃ o : Obj, W.heap[r]? = some o ∧ (o.isCells = false ∨ ∃ cs, o = .cells cs T (0, 0))
def OwnT {β : Type} (T : TypeId) (B : Nat) (I : β → World → Prop) : Prop := ∀ s W W' row, I s W → W.grownBy W' row → Turn T B W row → I s W'
def TurnC (T : TypeId) (B : Nat) (W : World) (row : Option Nat) : Prop := ∀ r, row = some r → B ≤ r ∧ ∃ cs, W.heap[r]? = some (.cells cs T (0, 0))
def AbT {β : Type} (T : TypeId) (B : Nat) (J : β → World → Prop) : Prop := ∀ s W W' row, J s W → W.grownBy W' row → TurnC T B W row → J s W'
structure Kept (T1 T2 : TypeId) (n₀ : Nat) (W W' : World) : Prop where
  bz : Below n₀ W W'
  keep : ∀ (g : Nat) (t : TypeId) (cs : Array Value), (t = T1 ∨ t = T2) → Blk W g t cs → Blk W' g t cs
section
variable {T1 T2 T : TypeId} {n₀ B : Nat} {A W W' W2 : World}
theorem Kept.refl (W : World) : Kept T1 T2 n₀ W W := ⟨Below.refl _ _, fun _ _ _ _ h => h⟩
theorem Kept.trans (h : Kept T1 T2 n₀ A W) (k : Kept T1 T2 n₀ W W') : Kept T1 T2 n₀ A W' := ⟨h.bz.trans k.bz, fun g t cs ht hb => k.keep g t cs ht (h.keep g t cs ht hb)⟩
theorem Kept.nz (h : Below W.heap.size W W') (hn : n₀ ≤ W.heap.size) : Kept T1 T2 n₀ W W' := ⟨h.mono hn, fun _ _ _ _ hb => hb.nz h⟩
theorem Kept.alloc (hn : n₀ ≤ W.heap.size) (o : Obj) : Kept T1 T2 n₀ W (W.alloc o) := ⟨(Below.refl _ _).alloc hn _, fun _ _ _ _ hb => hb.alloc o⟩
theorem Kept.set {cs : Array Value} (hk : Blk W B T cs) (hn : n₀ ≤ B) (h1 : T ≠ T1) (h2 : T ≠ T2) (i : Nat) (u : Value) : Kept T1 T2 n₀ W (W.setCell ⟨B, i, none⟩ u) :=
  ⟨(Below.refl _ _).setCell (p := ⟨B, i, none⟩) hn _, fun g t cs ht hb => hb.far (p := ⟨B, i, none⟩) (by
    intro e;have e : g = B := e;subst e;rcases ht with rfl | rfl
    · exact (hb.ne_ hk (fun e => h1 e.symm)) rfl
    · exact (hb.ne_ hk (fun e => h2 e.symm)) rfl) _⟩
theorem Kept.put {l : Nat} {o : Obj} (o' : Obj) (hn : n₀ ≤ l) (hl : W.heap[l]? = some o) (ho : o.isCells = false) : Kept T1 T2 n₀ W (W.putObj l o') :=
  ⟨(Below.refl n₀ W).grown (grownBy_putObj' W l o') (by have := (Array.getElem?_eq_some_iff.1 hl).1; omega) (fun k e => by cases e; omega),
   fun g t cs _ hb => (World.putObj_heap_other (fun e => by subst e; unfold Blk at hb; rw [hl] at hb; cases hb; cases ho)).trans hb⟩
theorem Kept.app {row : Option Nat} (hg : W.grownBy W' row) (hb : Below n₀ W W') (hr : ∀ r, row = some r → ∃ t cs, Blk W r t cs ∧ t ≠ T1 ∧ t ≠ T2) : Kept T1 T2 n₀ W W' :=
  ⟨hb, fun g t cs ht hk => hk.grown hg (fun e => by
    obtain ⟨t', cs', hk', g1, g2⟩ := hr g e.symm;unfold Blk at hk hk';rw [hk] at hk';injection hk' with hk';injection hk' with _ e2;subst e2;rcases ht with h | h
    · exact g1 h
    · exact g2 h)⟩

theorem OwnT.put {β : Type} {I : β → World → Prop} (h : OwnT T B I) {s : β} {l : Nat} {o : Obj} (o' : Obj) (hs : I s W) (hB : B ≤ l) (hl : W.heap[l]? = some o) (ho : o.isCells = false) : I s (W.putObj l o') :=
  h s W _ (some l) hs (grownBy_putObj' W l o') (fun r e => by cases e; exact ⟨hB, o, hl, Or.inl ho⟩)
theorem OwnT.alloc {β : Type} {I : β → World → Prop} (h : OwnT T B I) {s : β} (o : Obj) (hs : I s W) : I s (W.alloc o) :=
  h s W _ none hs (World.grownBy_alloc W o none) (fun r e => by cases e)
theorem grown_of_below {row : Option Nat} (h : Below W.heap.size W W') : W.grownBy W' row := ⟨h.os, h.tape, h.output, h.size, fun k hk _ => h.block k hk⟩
theorem AbT.nz {β : Type} {J : β → World → Prop} (h : AbT T B J) {s : β} (hs : J s W) (hb : Below W.heap.size W W') : J s W' := h s W W' none hs (grown_of_below hb) (fun r e => by cases e)
theorem AbT.set {β : Type} {J : β → World → Prop} (h : AbT T B J) {s : β} (hs : J s W) {g : Nat} {cs : Array Value} (hk : Blk W g T cs) (hg : B ≤ g) (i : Nat) (u : Value) : J s (W.setCell ⟨g, i, none⟩ u) :=
  h s W _ (some g) hs ⟨rfl, rfl, rfl, by simp, fun k hk' hne => Below.heap_setCell W ⟨g, i, none⟩ u k (fun e => hne (by rw [e]))⟩ (fun r e => by cases e; exact ⟨hg, cs, hk⟩)

theorem OwnT.and {β : Type} {I I' : β → World → Prop} (h : OwnT T B I) (h' : OwnT T B I') : OwnT T B (fun s W => I s W ∧ I' s W) := fun s W W' row hs hg hr => ⟨h s W W' row hs.1 hg hr, h' s W W' row hs.2 hg hr⟩
theorem Blk.turn {g : Nat} {t : TypeId} {cs : Array Value} {row : Option Nat} (h : Blk W g t cs) (hg : W.grownBy W' row) (hr : Turn T B W row) (ht : t ≠ T ∨ g < B) : Blk W' g t cs :=
  h.grown hg (fun e => by
    obtain ⟨hb, o, ho, hc⟩ := hr g e.symm;unfold Blk at h;rw [h] at ho;cases ho;rcases hc with hc | ⟨cs', hc⟩
    · cases hc
    · injection hc with _ e2
      rcases ht with ht | ht
      · exact ht e2
      · omega)
theorem Below.turn {row : Option Nat} (h : Below n₀ A W) (hg : W.grownBy W' row) (hr : Turn T B W row) (hn : n₀ ≤ B) (hw : n₀ ≤ W.heap.size) : Below n₀ A W' :=
  h.grown hg hw (fun k e => by have := (hr k e).1; omega)
end

def postT {α : Type} (B : Nat) (Kp : World → World → Prop) (I : List α → World → Prop) (Ix : Code → List α → World → Prop) (xs : List α) (W : World) : Exit → Act → World → Prop
  | .normal, _, W' => KeepsFrom B W W' ∧ Kp W W' ∧ I xs W'
  | .ret, _, W' => KeepsFrom B W W' ∧ Ix .ret xs W'
  | .exit id, _, W' => KeepsFrom B W W' ∧ Ix (.exit id) xs W'
  | .goto t, _, W' => KeepsFrom B W W' ∧ Ix (.goto t) xs W'
  | .panic _, _, _ => False
  | .outgrown, _, _ => False
def SeqT {α : Type} (P : Program) (g : Nat) (lb : Array Value) (encs : α → Array Value) (T : TypeId) (Kp : World → World → Prop) (Adm S Sp : List α → Prop) (w : World) : Prop :=
  ∀ (n l : Nat) (J Jx : List α → World → Prop) (W : World), Below w.heap.size w W → AbT T W.heap.size J → AbT T W.heap.size Jx →
    (∀ m pre x W1, J pre W1 → Adm (pre ++ [x]) → YieldAt Fence.wide m P l (encs x) W1 fun e W' =>
      (e = .returned (.bool true) ∧ J (pre ++ [x]) W' ∧ Kp W1 W') ∨ (e = .returned (.bool false) ∧ Jx (pre ++ [x]) W')) →
    J [] W →
    CallsIn Fence.wide n P g (#[.func (.yield l) #[] #[]] ++ lb) W fun e W' => (∃ v, e = .returned v) ∧ ((∃ xs, S xs ∧ J xs W') ∨ (∃ pre, Sp pre ∧ Jx pre W'))

variable {n : Nat} {P : Program}
theorem wp_rangeT {α : Type} {g : Operand} {ps : Array Tmp} {assign body : Code} {Q : Exit → Act → World → Prop} {a : Act} {w : World}
    {gf : Nat} {lb : Array Value} (hg : a.eval g = .func (.func gf) #[] lb) (eg : ∀ args w, (callFunc gf args).run P w = .ok (.enter gf args) w)
    {encs : α → Array Value} {T : TypeId} {Kp : World → World → Prop} {Adm S Sp : List α → Prop} {w0 : World} (hseq : SeqT P gf lb encs T Kp Adm S Sp w0)
    (hKt : ∀ {A B C : World}, Kp A B → Kp B C → Kp A C) (hKb : ∀ (W : World) (l : Nat) (o o' : Obj), w.heap.size ≤ l → W.heap[l]? = some o → o.isCells = false → Kp W (W.putObj l o')) (hb0 : Below w0.heap.size w0 w) (hps : ∀ x, (encs x).size = ps.size)
    (I : List α → World → Prop) (Ix : Code → List α → World → Prop) (hI : OwnT T w.heap.size I) (hIx : ∀ c, OwnT T w.heap.size (Ix c)) (h0 : I [] w)
    (hround : ∀ (l : Nat) (pre : List α) (x : α) (W : World), w.heap.size ≤ l → I pre W → Adm (pre ++ [x]) →
      assign.wpIn (Fence.wide.inRound l) (n - 1 - 1) P (Exit.then (fun a1 W1 => KeepsFrom w.heap.size W W1 ∧ Kp W W1 ∧ ∀ (o o' : Obj), W1.heap[l]? = some o → o.isCells = false →
        body.wpIn (Fence.wide.inRound l) (n - 1 - 1) P (postT w.heap.size Kp I Ix (pre ++ [x]) (W1.putObj l o')) a1 (W1.putObj l o')) (fun _ _ _ => False)) { tmps := (ps.zip (encs x)).foldl (fun t (p, v) => t.setIfInBounds p v) a.tmps, defers := [] } W)
    (hdone : ∀ (D : Nat) (xs : List α) (W : World), w.heap.size ≤ D → S xs → I xs W → W.heap[D]? = some (.deferred (some [])) → Q .normal { a with defers := { target := .collected D, args := #[] } :: a.defers } W)
    (hstop : ∀ (D : Nat) (c : Code) (pre : List α) (W : World), w.heap.size ≤ D → Sp pre → Ix c pre W → W.heap[D]? = some (.deferred (some [])) → c.wpIn Fence.wide n P Q { a with defers := { target := .collected D, args := #[] } :: a.defers } W) :
    (Code.rangeFunc g ps assign body).wpIn Fence.wide n P Q a w := by
  refine wpIn_rangeFunc fun fn hfn => ?_;show ∃ (l : Nat) (mark : List Deferred) (w₁ : World) (d : Deferred) (w₁' : World) (f : FuncId) (args : Array Value) (w₂ : World), (Instr.enterLoop fn a.tmps ps assign body none).run P w = .ok (l, mark) w₁ ∧ _
  let rec_ : LoopState → Option Code → Loop := fun st pe => { state := st, pending := pe, fn, tmps := a.tmps, params := ps, assign, body, defers := w.heap.size }
  let W1 := (w.alloc (.deferred (some []))).alloc (.loop (rec_ .ready none))
  have hL1 : W1.heap[w.heap.size + 1]? = some (.loop (rec_ .ready none)) := by
    have := World.alloc_heap_new (w.alloc (.deferred (some []))) (.loop (rec_ .ready none)); rwa [World.size_alloc] at this
  have hK1 : W1.heap[w.heap.size]? = some (.deferred (some [])) := (Below.heap_alloc _ _ _ (by simp)).trans (World.alloc_heap_new w _);have hs1 : W1.heap.size = w.heap.size + 1 + 1 := by simp [W1]
  have hcy : ∀ {X Y : World} {row : Option Nat}, TurnC T W1.heap.size X row → Turn T w.heap.size X row := fun h r e => by
    obtain ⟨h1, cs, h2⟩ := h r e;exact ⟨by omega, _, h2, Or.inr ⟨cs, rfl⟩⟩
  have hst : ∀ {X Y : World} {row : Option Nat} {k : Nat} {o : Obj}, X.grownBy Y row → TurnC T W1.heap.size X row → X.heap[k]? = some o → o.isCells = false → Y.heap[k]? = some o := fun hg' hr hk ho =>
    (hg'.block _ (Array.getElem?_eq_some_iff.1 hk).1 (fun e => by
      obtain ⟨-, cs, h2⟩ := hr _ e.symm
      rw [hk] at h2; cases h2; cases ho)).trans hk
  refine ⟨w.heap.size + 1, [{ target := .collected w.heap.size, args := #[] }], W1, { target := .fn (.func gf) lb, args := #[.func (.yield (w.heap.size + 1)) #[] #[]] }, W1, gf,
    #[.func (.yield (w.heap.size + 1)) #[] #[]] ++ lb, W1, run_enterLoop_outer _ _ _ _ _, ?_, fun _ _ => trivial, ?_, fun h => (by cases h), ?_⟩
  · simp only [resolve, hg]
    simp [go_sem]
  · simp [invoke, go_sem, eg]
  · refine (hseq (n - 1) (w.heap.size + 1)
      (fun pre W => I pre W ∧ W.heap[w.heap.size + 1]? = some (.loop (rec_ .ready none)) ∧ W.heap[w.heap.size]? = some (.deferred (some [])))
      (fun pre W => ∃ c, Ix c pre W ∧ W.heap[w.heap.size + 1]? = some (.loop (rec_ .done (some c))) ∧ W.heap[w.heap.size]? = some (.deferred (some [])))
      W1 (hb0.trans ((((Below.refl _ w).alloc (Nat.le_refl _) _).alloc (by simp) _).mono hb0.size))
      (fun s X Y row hs hg' hr => ⟨hI s X Y row hs.1 hg' (hcy (Y := Y) hr), hst hg' hr hs.2.1 rfl, hst hg' hr hs.2.2 rfl⟩)
      (fun s X Y row hs hg' hr => by
        obtain ⟨c, hc, hl, hk⟩ := hs
        exact ⟨c, hIx c s X Y row hc hg' (hcy (Y := Y) hr), hst hg' hr hl rfl, hst hg' hr hk rfl⟩)
      ?_ ⟨hI.alloc _ (hI.alloc _ h0), hL1, hK1⟩).mono ?_
    · rintro m pre x W ⟨hi, hl, hk⟩ hadm
      have hlt : w.heap.size + 1 < W.heap.size := (Array.getElem?_eq_some_iff.1 hl).1;have hy := run_yield (P := P) (args := encs x) hl (hps x);refine ⟨fn, _, assign, body, hy, ?_⟩
      have hdep : ∀ {m m' : Nat} {l : Nat} {f : FuncId} {tmps : Array Value} {assign body : Code} {w : World} {R : Ending → World → Prop}, RoundIn Fence.wide m P l f tmps assign body w R → RoundIn Fence.wide m' P l f tmps assign body w R :=
        fun h => ⟨h.1, fun c cs _ => h.2 c cs (room_wide _)⟩
      refine hdep (m := n - 1 - 1) (roundIn_of_wpIn trivial (wpIn_mono (hround (w.heap.size + 1) pre x W (by omega) hi hadm) ?_));rintro e a2 W2 hp
      cases e with
      | normal =>
        obtain ⟨hkf, hkp, hb⟩ := hp;have hl1 := hkf.same _ _ (by omega) hl rfl;have hk1 := hkf.same _ _ (Nat.le_refl _) hk rfl;refine ⟨_, run_beginRound hl1 rfl, ?_⟩;have hlt2 : w.heap.size + 1 < W2.heap.size := (Array.getElem?_eq_some_iff.1 hl1).1;have hl2 : (W2.putObj (w.heap.size + 1) (.loop { rec_ .ready none with state := .busy })).heap[w.heap.size + 1]? = some (.loop { rec_ .ready none with state := .busy }) := World.putObj_heap_same hlt2;have hk2 : (W2.putObj (w.heap.size + 1) (.loop { rec_ .ready none with state := .busy })).heap[w.heap.size]? = some (.deferred (some [])) := (World.putObj_heap_other (by omega)).trans hk1;have hw2 : Kp W2 (W2.putObj (w.heap.size + 1) (.loop { rec_ .ready none with state := .busy })) := hKb _ _ _ _ (by omega) hl1 rfl;refine wpIn_mono (hb _ (.loop { rec_ .ready none with state := .busy }) hl1 rfl) ?_
        have fin : ∀ (jump : Option Code) (W3 : World), KeepsFrom w.heap.size (W2.putObj (w.heap.size + 1) (.loop { rec_ .ready none with state := .busy })) W3 →
            (Instr.endRound (w.heap.size + 1) jump).run P W3 = .ok (.bool jump.isNone) (W3.putObj (w.heap.size + 1) (.loop (rec_ (if jump.isNone then .ready else .done) jump))) ∧
            W3.heap[w.heap.size + 1]? = some (.loop { rec_ .ready none with state := .busy }) ∧
            (W3.putObj (w.heap.size + 1) (.loop (rec_ (if jump.isNone then .ready else .done) jump))).heap[w.heap.size + 1]? = some (.loop (rec_ (if jump.isNone then .ready else .done) jump)) ∧
            (W3.putObj (w.heap.size + 1) (.loop (rec_ (if jump.isNone then .ready else .done) jump))).heap[w.heap.size]? = some (.deferred (some [])) := fun jump W3 hk3 => by
          have hl3 := hk3.same _ _ (by omega) hl2 rfl;exact ⟨run_endRound (P := P) jump hl3, hl3, World.putObj_heap_same (Array.getElem?_eq_some_iff.1 hl3).1, (World.putObj_heap_other (by omega)).trans (hk3.same _ _ (Nat.le_refl _) hk2 rfl)⟩
        rintro e a3 W3 hp
        cases e with
        | normal =>
          obtain ⟨hk3, hkp3, hi3⟩ := hp;obtain ⟨hr, hl3, hl4, hk4⟩ := fin none W3 hk3;exact ⟨_, _, hr, .inl ⟨rfl, ⟨hI.put _ hi3 (by omega) hl3 rfl, hl4, hk4⟩, hKt (hKt (hKt hkp hw2) hkp3) (hKb _ _ _ _ (by omega) hl3 rfl)⟩⟩
        | ret =>
          obtain ⟨hk3, hi3⟩ := hp;obtain ⟨hr, hl3, hl4, hk4⟩ := fin (some .ret) W3 hk3;exact ⟨_, _, hr, .inr ⟨rfl, .ret, (hIx _).put _ hi3 (by omega) hl3 rfl, hl4, hk4⟩⟩
        | exit id =>
          obtain ⟨hk3, hi3⟩ := hp;obtain ⟨hr, hl3, hl4, hk4⟩ := fin (some (.exit id)) W3 hk3;exact ⟨_, _, hr, .inr ⟨rfl, .exit id, (hIx _).put _ hi3 (by omega) hl3 rfl, hl4, hk4⟩⟩
        | goto t =>
          obtain ⟨hk3, hi3⟩ := hp;obtain ⟨hr, hl3, hl4, hk4⟩ := fin (some (.goto t)) W3 hk3;exact ⟨_, _, hr, .inr ⟨rfl, .goto t, (hIx _).put _ hi3 (by omega) hl3 rfl, hl4, hk4⟩⟩
        | panic ch => exact hp.elim
        | outgrown => exact hp.elim
      | ret => exact hp.elim
      | exit id => exact hp.elim
      | goto t => exact hp.elim
      | panic ch => exact hp.elim
      | outgrown => exact hp.elim
    · rintro e W2 ⟨⟨v, rfl⟩, (⟨xs, hS, hi, hl, hk⟩ | ⟨pre, hSp, c, hi, hl, hk⟩)⟩
      · exact ⟨none, _, run_endLoop (P := P) hl (by simp [rec_]), hdone _ xs _ (Nat.le_refl _) hS (hI.put _ hi (by omega) hl rfl) ((World.putObj_heap_other (by omega)).trans hk)⟩
      · exact ⟨some c, _, run_endLoop (P := P) hl (by simp [rec_]), hstop _ c pre _ (Nat.le_refl _) hSp ((hIx c).put _ hi (by omega) hl rfl) ((World.putObj_heap_other (by omega)).trans hk)⟩

/-! ### A region that draws its order, within a round -/
end
section
open Go
end
section
open Go Go.RowKit Go.Proofs
theorem c_slHas {lo hi:Nat} (A:Option Addr) (c:Nat) (fs:List Int) (n:Int) (w:World) (h:IntsV w lo hi A fs):Calls Tryz.prog 43 #[.slice A fs.length c,.int .i64 n] w fun e w'=>e=.returned (.bool (decide (n∈fs)))∧Below w.heap.size w w':=by
 have H:=ax h;have HL:=ax h.le;clear h;(go_enter Tryz.func43,Tryz.ntmps43);(go_wp2_with fail)
 go_loopw [5] (fun i wr=>∃ k:Nat,k≤fs.length∧i=.int .i64 k∧aJ (decide (n∈fs)=decide (n∈fs.drop k))∧aJ (Below w.heap.size w wr)) (fun i _=>fs.length - (intOf i).toNat)
 case atStart=>exact ⟨0,Nat.zero_le _,rfl,by show _=_;simp,Below.refl _ _⟩
 case round=>
  obtain ⟨k,hk,rfl,HA,HB⟩:=hrel;have hl:=HL.o;by_cases hlt:k<fs.length
  ·obtain ⟨b,off,rfl,g0⟩:=(H.o.bz HB.o).at hlt
   have HD:aJ (decide (n∈fs.drop k)=(decide (fs[k]=n) || decide (n∈fs.drop (k+1)))):=by
    show _=_;rw[List.drop_eq_getElem_cons hlt,←Bool.decide_or,decide_eq_decide,List.mem_cons];constructor
    ·rintro (h|h)
     ·exact Or.inl h.symm
     ·exact Or.inr h
    ·rintro (h|h)
     ·exact Or.inl h.symm
     ·exact Or.inr h
   have hki:(k:Int)<(fs.length:Int):=by omega
   obtain ⟨f,hf⟩:∃ f,f=fs[k]:=⟨_,rfl⟩;rw[←hf] at g0 HD;clear hf;by_cases f1:f=n
   ·have E:aJ (decide (f=n)=true):=by show _=_;rw[decide_eq_true_eq];exact f1
    rw[f1] at g0;clear f1;(go_wp2_with fail);go_ret;exact ⟨ret_bool (by rw[HA.o,HD.o,E.o];rfl),HB.o⟩
   ·have E:aJ (decide (f=n)=false):=by show _=_;rw[decide_eq_false_iff_not];exact f1
    have e1:(f == n)=false:=by simpa using f1
    clear f1;(go_wp2_with fail)
    go_round
    case rel=>exact ⟨k+1,by omega,by go_num,by show _=_;rw[HA.o,HD.o,E.o];rfl,HB.o⟩
    case measure=>simp[intOf];omega
  ·obtain rfl:k=fs.length:=by omega
   have E:aJ (decide (n∈fs)=false):=by show _=_;rw[HA.o,List.drop_length];simp
   (go_wp2_with fail);go_ret;exact ⟨ret_bool E.o.symm,HB.o⟩
end
end Go.Proofs.YtgdfdmjnadnlnaaGreat
