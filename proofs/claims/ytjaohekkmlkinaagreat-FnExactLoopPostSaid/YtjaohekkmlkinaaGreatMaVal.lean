/- Words for memory: slices that read as lists of cells, whole blocks, prefixes. Plain lemmas; no program. -/
import Derived.WalkKit
import Derived.Lib.Hide
import Derived.BigQuiet
import Derived.Deep.QuietTactic
import Derived.Deep.AppendLies
import Derived.Deep.Draws
import Derived.Deep.RegionHeld
import Derived.Deep.RegionHeld3
import Derived.OwnWalk
import Derived.StillTailTactics
import Derived.Test.YtjaohekkmlkinaaGreatProg
import Derived.ProofKit
import Derived.OpenShut
import Derived.Deep.Slices
import Derived.ChangeSame
set_option linter.unusedSimpArgs false
set_option linter.unusedVariables false
set_option maxRecDepth 100000
set_option maxHeartbeats 25600000
namespace Go.Proofs.YtjaohekkmlkinaaGreat
section
open Go Go.RowKit
def aJ (p:Prop):Prop:=p
theorem aJ.o {p:Prop} (h:aJ p):p:=h
theorem ax {p:Prop} (h:p):aJ p:=h
abbrev Lim (n:Nat):Prop:=n≤1049600
theorem zjD {a b:Bool} (h:a=b):Ending.returned (.bool a)=.returned (.bool b):=by rw[h]
theorem ret_int {k:IntKind} {a b:Int} (h:a=b):Ending.returned (.int k a)=.returned (.int k b):=by rw[h]
def Rw (w:World) (lo hi size:Nat) (A:Option Addr) (n:Nat) (xs:List Value):Prop:=
 xs.length=n * size∧(0<n * size→∃ b o,A=some ⟨b,o,none⟩∧lo≤b∧b<hi∧∀ j u,xs[j]? = some u→w.cell? ⟨b,o+j,none⟩=some u)
structure Rd (w:World) (lo hi size:Nat) (A:Option Addr) (n:Nat) (xs:List Value):Prop where
 raw:Rw w lo hi size A n xs
 lim:Lim n
section
variable {w w':World} {lo hi lo' hi' size n:Nat} {A:Option Addr} {xs:List Value}
theorem Rw.keep (h:Rw w lo hi size A n xs) (hk:∀ b,lo≤b→b<hi→w'.heap[b]? = w.heap[b]?):Rw w' lo hi size A n xs:=
 ⟨h.1,fun hn=>by
  obtain ⟨b,o,e,h1,h2,hc⟩:=h.2 hn
  exact ⟨b,o,e,h1,h2,fun j u hu=>(World.cell?_of_block (a:=⟨b,o+j,none⟩) (hk b h1 h2)).trans (hc j u hu)⟩⟩
theorem Rw.mono (h:Rw w lo hi size A n xs) (h1:lo'≤lo) (h2:hi≤hi'):Rw w lo' hi' size A n xs:=
 ⟨h.1,fun hn=>by
  obtain ⟨b,o,e,g1,g2,hc⟩:=h.2 hn
  exact ⟨b,o,e,by omega,by omega,hc⟩⟩
theorem Rd.keep (h:Rd w lo hi size A n xs) (hk:∀ b,lo≤b→b<hi→w'.heap[b]? = w.heap[b]?):Rd w' lo hi size A n xs:=⟨h.raw.keep hk,h.lim⟩
theorem Rd.mono (h:Rd w lo hi size A n xs) (h1:lo'≤lo) (h2:hi≤hi'):Rd w lo' hi' size A n xs:=⟨h.raw.mono h1 h2,h.lim⟩
theorem Rd.le (h:Rd w lo hi size A n xs):n≤1049600:=h.lim
theorem Rd.nil (w:World) (lo hi size:Nat) (A:Option Addr):Rd w lo hi size A 0 []:=⟨⟨by simp,fun h=>absurd h (by omega)⟩,by simp[Lim]⟩
theorem Rw.form (h:Rw w lo hi size A n xs) (hn:0<n * size):∃ b o,A=some ⟨b,o,none⟩∧lo≤b∧b<hi∧∀ j u,xs[j]? = some u→w.cell? ⟨b,o+j,none⟩=some u:=h.2 hn
end
def Blk (w:World) (g:Nat) (t:TypeId) (cs:Array Value):Prop:=w.heap[g]? = some (.cells cs t (0,0))
section
variable {w w':World} {g:Nat} {t:TypeId} {cs:Array Value}
theorem Blk.lt (h:Blk w g t cs):g<w.heap.size:=by
 rcases Nat.lt_or_ge g w.heap.size with hlt|hge
 ·exact hlt
 ·unfold Blk at h;rw[Array.getElem?_eq_none hge] at h;cases h
theorem Blk.cell (h:Blk w g t cs) (i:Nat):w.cell? ⟨g,i,none⟩=cs[i]?:=cell_of_row w g i cs t (0,0) h
theorem Blk.frozen (h:Blk w g t cs) (i:Nat):w.frozen? ⟨g,i,none⟩=false:=by
 unfold Blk at h;simp[World.frozen?,h]
theorem Blk.z (h:Blk w g t cs):(∀ i:Nat,w.cell? ⟨g,i,none⟩=cs[i]?)∧(∀ i:Nat,w.frozen? ⟨g,i,none⟩=false)∧g<w.heap.size:=⟨h.cell,h.frozen,h.lt⟩
theorem Blk.new (w:World) (t:TypeId) (cs:Array Value):Blk (w.alloc (.cells cs t)) w.heap.size t cs:=heap_alloc_new w _
theorem Blk.newE {w:World} {g:Nat} {t:TypeId} {cs:Array Value} (hg:g=w.heap.size):Blk (w.alloc (.cells cs t)) g t cs:=by subst hg;exact Blk.new w t cs
theorem Blk.drew (h:Blk w g t cs):Blk w.drew g t cs:=h
theorem Blk.drewN (h:Blk w g t cs) (n:Nat):Blk (w.drewN n) g t cs:=h
theorem Blk.alloc (h:Blk w g t cs) (o:Obj):Blk (w.alloc o) g t cs:=(Below.heap_alloc w o g h.lt).trans h
theorem Blk.set_ (h:Blk w g t cs) (i:Nat) (u:Value):Blk (w.setCell ⟨g,i,none⟩ u) g t (cs.setIfInBounds i u):=by
 unfold Blk at h ⊢;simp[World.setCell,Array.getElem?_modify,h]
theorem Blk.far (h:Blk w g t cs) {p:Addr} (hp:g≠p.block) (u:Value):Blk (w.setCell p u) g t cs:=(Below.heap_setCell w p u g hp).trans h
theorem Blk.bz {B:Nat} (h:Blk w g t cs) (hb:Below B w w') (hg:g<B):Blk w' g t cs:=(hb.block g hg).trans h
theorem Blk.grown {row:Option Nat} (h:Blk w g t cs) (hb:w.grownBy w' row) (hg:some g≠row):Blk w' g t cs:=(hb.block g h.lt hg).trans h
theorem Blk.ne_ {g2:Nat} {t2:TypeId} {cs2:Array Value} (h:Blk w g t cs) (h2:Blk w g2 t2 cs2) (ht:t≠t2):g≠g2:=by
 rintro rfl;unfold Blk at h h2;rw[h] at h2;injection h2 with h2;injection h2 with _ h3;exact ht h3
end
def Pre (cs:Array Value) (L:List Value) (m:Nat):Prop:=∀ j,j<m→cs[j]? = L[j]?
theorem Pre.zero (cs:Array Value) (L:List Value):Pre cs L 0:=fun j h=>absurd h (by omega)
theorem Pre.set1 {cs:Array Value} {L:List Value} {k:Nat} {u:Value} (h:Pre cs L k) (hs:k<cs.size) (h0:L[k]? = some u):Pre (cs.setIfInBounds k u) L (k+1):=by
 intro j hj;by_cases e:j=k
 ·subst e;rw[Array.getElem?_setIfInBounds_self,if_pos hs,h0]
 ·rw[Array.getElem?_setIfInBounds_ne (by omega)];exact h j (by omega)
theorem Pre.set3 {cs:Array Value} {L:List Value} {k:Nat} {u0 u1 u2:Value} (h:Pre cs L (k * 3)) (hs:k * 3+2<cs.size) (h0:L[k*3]? = some u0) (h1:L[k*3+1]? = some u1) (h2:L[k*3+2]? = some u2) :
  Pre (((cs.setIfInBounds (k*3) u0).setIfInBounds (k*3+1) u1).setIfInBounds (k*3+2) u2) L ((k+1) * 3):=by
 rw[show (k+1) * 3=k * 3+1+1+1 from by omega];exact ((h.set1 (by omega) h0).set1 (by simp;omega) h1).set1 (by simp;omega) h2
theorem Pre.take {cs:Array Value} {L:List Value} (h:Pre cs L L.length):cs.toList.take L.length=L:=by
 apply List.ext_getElem?;intro j;rw[List.getElem?_take];by_cases hj:j<L.length
 ·rw[if_pos hj];simpa using h j hj
 ·rw[if_neg hj];simp;omega
theorem own_of_blk {w:World} {g base n size cap:Nat} {t:TypeId} {cs:Array Value} {L:List Value} (h:Blk w g t cs) (hb:base≤g) (hL:L.length=n * size) (hp:Pre cs L (n * size)) (hnc:n≤cap) (hc:cap≤maxLen) (hs:cs.size=cap * size) :
  w.ownsRow base t size (.slice (some ⟨g,0,none⟩) n cap) n L:=by
 refine ⟨hL,.inr ⟨g,cap,cs,rfl,hb,h,hnc,hc,hs,?_⟩⟩;rw[←hL] at hp ⊢;exact hp.take
theorem own_reads {w:World} {base:Nat} {e:TypeId} {size:Nat} {v:Value} {n:Nat} {xs:List Value} (h:w.ownsRow base e size v n xs) (hl:Lim n):∃ A c,v=.slice A n c∧Rd w base w.heap.size size A n xs:=by
 obtain ⟨h1,h2⟩:=h;rcases h2 with ⟨rfl,rfl⟩|⟨g,cap,cur,rfl,hb,hg,hn,hm,hs,ht⟩
 ·exact ⟨none,0,rfl,⟨⟨h1,fun hn=>absurd hn (by omega)⟩,hl⟩⟩
 ·refine ⟨_,_,rfl,⟨⟨h1,fun hn0=>⟨g,0,rfl,hb,Blk.lt hg,fun j u hu=>?_⟩⟩,hl⟩⟩;rw[Nat.zero_add,cell_of_row w g j cur e (0,0) hg];rw[←ht,List.getElem?_take] at hu
  split at hu
  ·simpa using hu
  ·cases hu
theorem own_below {w w':World} {base:Nat} {e:TypeId} {size:Nat} {v:Value} {n:Nat} {xs:List Value} (h:w.ownsRow base e size v n xs) (hb:Below w.heap.size w w'):w'.ownsRow base e size v n xs:=by
 obtain ⟨h1,h2⟩:=h;refine ⟨h1,?_⟩;rcases h2 with h2|⟨g,cap,cur,hv,hg,hh,r⟩
 ·exact Or.inl h2
 ·exact Or.inr ⟨g,cap,cur,hv,hg,(hb.block g (Blk.lt hh)).trans hh,r⟩
theorem own_lower {w:World} {base base':Nat} {e:TypeId} {size:Nat} {v:Value} {n:Nat} {xs:List Value} (h:w.ownsRow base e size v n xs) (hb:base'≤base):w.ownsRow base' e size v n xs:=by
 obtain ⟨h1,h2⟩:=h;refine ⟨h1,?_⟩;rcases h2 with h2|⟨g,cap,cur,hv,hg,r⟩
 ·exact Or.inl h2
 ·exact Or.inr ⟨g,cap,cur,hv,by omega,r⟩
theorem below_drewN {B:Nat} {a w:World} (h:Below B a w) (n:Nat):Below B a (w.drewN n):=⟨h.os,h.tape,h.output,h.size,h.block⟩
theorem btoB {w w':World} {B:Nat} (h:Below w.heap.size w w') (hB:B≤w.heap.size):Below B w w':=h.mono hB
theorem bgo {w a b:World} (h:Below w.heap.size w a) (h2:Below a.heap.size a b):Below w.heap.size w b:=h.trans (h2.mono h.size)
theorem bbox {w a:World} (h:Below w.heap.size w a) (o:Obj):Below w.heap.size w (a.alloc o):=h.alloc h.size o
theorem Rw.bz {w w':World} {lo hi size n:Nat} {A:Option Addr} {xs:List Value} (h:Rw w lo hi size A n xs) (hb:Below w.heap.size w w'):Rw w' lo hi size A n xs:=
 ⟨h.1,fun hn=>by
  obtain ⟨b,o,e,h1,h2,hc⟩:=h.2 hn;have h0:=h.1;have hx:xs[0]? = some (xs[0]'(by omega)):=List.getElem?_eq_getElem (by omega);have hlt:b<w.heap.size:=block_lt_of_cell (hc 0 _ hx)
  exact ⟨b,o,e,h1,h2,fun j u hu=>(World.cell?_of_block (a:=⟨b,o+j,none⟩) (hb.block b hlt)).trans (hc j u hu)⟩⟩
theorem Rd.bz {w w':World} {lo hi size n:Nat} {A:Option Addr} {xs:List Value} (h:Rd w lo hi size A n xs) (hb:Below w.heap.size w w'):Rd w' lo hi size A n xs:=⟨h.raw.bz hb,h.lim⟩
theorem Rd.setb {w:World} {lo hi size n:Nat} {A:Option Addr} {xs:List Value} (h:Rd w lo hi size A n xs) {p:Addr} (hp:p.block<lo∨hi≤p.block) (u:Value):Rd (w.setCell p u) lo hi size A n xs:=
 h.keep fun b h1 h2=>Below.heap_setCell w p u b (by omega)
theorem Blk.nz {w w':World} {g:Nat} {t:TypeId} {cs:Array Value} (h:Blk w g t cs) (hb:Below w.heap.size w w'):Blk w' g t cs:=h.bz hb h.lt
structure Abv (lo:Nat) (w w':World):Prop where
 size:w.heap.size≤w'.heap.size
 block:∀ k,lo≤k→k<w.heap.size→w'.heap[k]? = w.heap[k]?
theorem Abv.refl (lo:Nat) (w:World):Abv lo w w:=⟨Nat.le_refl _,fun _ _ _=>rfl⟩
theorem Abv.trans {lo:Nat} {a b c:World} (h:Abv lo a b) (k:Abv lo b c):Abv lo a c:=
 ⟨Nat.le_trans h.size k.size,fun i h1 h2=>(k.block i h1 (Nat.lt_of_lt_of_le h2 h.size)).trans (h.block i h1 h2)⟩
theorem Abv.setCell {lo:Nat} {a b:World} (h:Abv lo a b) {p:Addr} (hp:p.block<lo) (u:Value):Abv lo a (b.setCell p u):=
 h.trans ⟨by simp,fun k h1 _=>Below.heap_setCell b p u k (by omega)⟩
theorem Abv.alloc {lo:Nat} {a b:World} (h:Abv lo a b) (o:Obj):Abv lo a (b.alloc o):=
 h.trans ⟨by simp,fun k _ h2=>Below.heap_alloc b o k h2⟩
theorem Abv.nz {lo:Nat} {a b c:World} (h:Abv lo a b) (hb:Below b.heap.size b c):Abv lo a c:=
 h.trans ⟨hb.size,fun k _ h2=>hb.block k h2⟩
theorem Rw.abv {w w':World} {lo hi lo' size n:Nat} {A:Option Addr} {xs:List Value} (h:Rw w lo hi size A n xs) (hb:Abv lo' w w') (hl:lo'≤lo):Rw w' lo hi size A n xs:=
 ⟨h.1,fun hn=>by
  obtain ⟨b,o,e,h1,h2,hc⟩:=h.2 hn;have h0:=h.1;have hx:xs[0]? = some (xs[0]'(by omega)):=List.getElem?_eq_getElem (by omega);have hlt:b<w.heap.size:=block_lt_of_cell (hc 0 _ hx)
  exact ⟨b,o,e,h1,h2,fun j u hu=>(World.cell?_of_block (a:=⟨b,o+j,none⟩) (hb.block b (by omega) hlt)).trans (hc j u hu)⟩⟩
theorem Rd.abv {w w':World} {lo hi lo' size n:Nat} {A:Option Addr} {xs:List Value} (h:Rd w lo hi size A n xs) (hb:Abv lo' w w') (hl:lo'≤lo):Rd w' lo hi size A n xs:=⟨h.raw.abv hb hl,h.lim⟩
theorem own_abv {w w':World} {base lo:Nat} {e:TypeId} {size:Nat} {v:Value} {n:Nat} {xs:List Value} (h:w.ownsRow base e size v n xs) (hb:Abv lo w w') (hl:lo≤base):w'.ownsRow base e size v n xs:=by
 obtain ⟨h1,h2⟩:=h;refine ⟨h1,?_⟩;rcases h2 with h2|⟨g,cap,cur,hv,hg,hh,r⟩
 ·exact Or.inl h2
 ·exact Or.inr ⟨g,cap,cur,hv,hg,(hb.block g (by omega) (Blk.lt hh)).trans hh,r⟩
theorem bcell {W w1:World} (hb:Below W.heap.size W w1):(∀ b o,b<W.heap.size→w1.cell? ⟨b,o,none⟩=W.cell? ⟨b,o,none⟩)∧(∀ b o,b<W.heap.size→w1.frozen? ⟨b,o,none⟩=W.frozen? ⟨b,o,none⟩):=
 ⟨fun b o h=>hb.cell (p:=⟨b,o,none⟩) h,fun b o h=>hb.frozen (p:=⟨b,o,none⟩) h⟩
theorem bel {B:Nat} {a w:World} (h:Below B a w:=by repeat (first|(with_reducible exact Below.refl _ _)|(with_reducible assumption)|(with_reducible apply bbox)|((with_reducible apply Below.setCell);(case hp=>(first|exact Nat.le_refl _|(simp;done)|(simp;omega)|(simp only;omega)|omega)))|(with_reducible apply Below.drew)|(with_reducible apply below_drewN))):Below B a w:=h
theorem blks {w:World} {g:Nat} {t:TypeId} {cs:Array Value} (h:Blk w g t cs:=by repeat (first|(with_reducible assumption)|(with_reducible exact Blk.new _ _ _)|((with_reducible apply Blk.far);(case hp=>(first|exact Nat.le_refl _|(simp;done)|(simp;omega)|(simp only;omega)|omega)))|(with_reducible apply Blk.set_)|((with_reducible refine Blk.newE ?_);(simp;done))|(with_reducible apply Blk.alloc)|(with_reducible apply Blk.drew)|(with_reducible apply Blk.drewN))):Blk w g t cs:=h
/-! shorter words for the moves through a drawn region -/
theorem zA {α:Type} {xs:List α} {i:Nat} (h:i<xs.toArray.size):xs.toArray[i]=xs[i]'(by simpa using h):=List.getElem_toArray h
theorem zB {α:Type} {a:α} {ls:List α} (h:0<(a :: ls).length):(a :: ls)[0]=a:=rfl
theorem zC {α:Type} {a:α} {ls:List α} {i:Nat} (h:i+1<(a :: ls).length):(a :: ls)[i+1]=ls[i]'(Nat.lt_of_succ_lt_succ h):=rfl
theorem zD {α:Type} {xs:List α} {i:Nat} {v:α}:xs.toArray.setIfInBounds i v=(xs.set i v).toArray:=List.setIfInBounds_toArray _ _ _
theorem zE {α:Type} {a b:α} {ls:List α}:(a :: ls).set 0 b=b :: ls:=rfl
theorem zF {α:Type} {a b:α} {ls:List α} {i:Nat}:(a :: ls).set (i+1) b=a :: ls.set i b:=rfl
/-! boxes made at the beginning -/
theorem bx1 {w:World} {F:World→Prop} {t1:TypeId} {c1:Array Value} (h:∀ W,Blk W w.heap.size t1 c1→Below w.heap.size w W→W.heap.size=w.heap.size+1→F W):F (w.alloc (.cells c1 t1)):=
 h _ (Blk.new _ _ _) ((Below.refl _ _).alloc (Nat.le_refl _) _) (by simp)
theorem bx2 {w:World} {F:World→Prop} {t1 t2:TypeId} {c1 c2:Array Value} (h:∀ W,Blk W w.heap.size t1 c1→Blk W (w.heap.size+1) t2 c2→Below w.heap.size w W→W.heap.size=w.heap.size+2→F W):F ((w.alloc (.cells c1 t1)).alloc (.cells c2 t2)):=
 h _ ((Blk.new _ _ _).alloc _) (by have:=Blk.new (w.alloc (.cells c1 t1)) t2 c2;rwa [World.size_alloc] at this) (((Below.refl _ _).alloc (Nat.le_refl _) _).alloc (by simp) _) (by simp)
theorem bx3 {w:World} {F:World→Prop} {t1 t2 t3:TypeId} {c1 c2 c3:Array Value} (h:∀ W,Blk W w.heap.size t1 c1→Blk W (w.heap.size+1) t2 c2→Blk W (w.heap.size+1+1) t3 c3→Below w.heap.size w W→W.heap.size=w.heap.size+3→F W):F (((w.alloc (.cells c1 t1)).alloc (.cells c2 t2)).alloc (.cells c3 t3)):=
 h _ (((Blk.new _ _ _).alloc _).alloc _) ((by have:=Blk.new (w.alloc (.cells c1 t1)) t2 c2;rwa [World.size_alloc] at this:Blk _ (w.heap.size+1) t2 c2).alloc _) (by have:=Blk.new ((w.alloc (.cells c1 t1)).alloc (.cells c2 t2)) t3 c3;rwa [World.size_alloc,World.size_alloc] at this) ((((Below.refl _ _).alloc (Nat.le_refl _) _).alloc (by simp) _).alloc (by simp;omega) _) (by simp)
theorem zz:(∀ {α:Type} {xs:List α} {i:Nat} (h:i<xs.toArray.size),xs.toArray[i]=xs[i]'(by simpa using h))∧(∀ {α:Type} {a:α} {ls:List α} (_:0<(a :: ls).length),(a :: ls)[0]=a)∧(∀ {α:Type} {a:α} {ls:List α} {i:Nat} (h:i+1<(a :: ls).length),(a :: ls)[i+1]=ls[i]'(Nat.lt_of_succ_lt_succ h))∧
  (∀ {α:Type} {xs:List α} {i:Nat} {v:α},xs.toArray.setIfInBounds i v=(xs.set i v).toArray)∧(∀ {α:Type} {a b:α} {ls:List α},(a :: ls).set 0 b=b :: ls)∧(∀ {α:Type} {a b:α} {ls:List α} {i:Nat},(a :: ls).set (i+1) b=a :: ls.set i b)∧
  (∀ (a:Act) (d:Tmp) (v:Value),a.put (some d) v = { a with tmps:=a.tmps.setIfInBounds d v })∧(∀ (a:Act) (v:Value),a.put none v=a):=
 ⟨fun h=>zA h,fun h=>zB h,fun h=>zC h,zD,zE,zF,fun _ _ _=>rfl,fun _ _=>rfl⟩
section
variable {P:Program} {md:Region.Mode} {ops:Array Oper} {S:World→Prop} {Q:Exit→Act→World→Prop} {fuel:Nat} {listed:Array Bool} {a:Act} {w:World}
theorem tk (i:Nat) (v:Value) {o:Oper} (hi:ops[i]? = some o) (hy:∀ w,S w→(execOp a.eval o).run P w=.ok (.value v) w) (hS:S w) (h:wpAnyH P md ops Q S fuel (listed.setIfInBounds i true) (a.put o.dst v) w)
  (hn:Region.wanted o (yielded ops a.tmps)=true:=by rfl) (hs:Region.noSelect ops=true:=by kernel_rfl) (hf:Region.free md ops listed i=true:=by kernel_rfl) (hr:(Region.ready md ops listed).contains i=true:=by kernel_rfl) (hQ:∀ c a w,Q (.panic c) (a.put o.dst v) w→Q (.panic c) a w:=by exact fun _ _ _ h=>h):wpAnyH P md ops Q S (fuel+1) listed a w:=
 wpAnyH_take hi hs hf hr hQ (Or.inl ⟨hn,hy⟩) hS h
theorem tk2 (i:Nat) {v:Value} {o:Oper} (hi:ops[i]? = some o) (hS:S w)
  (hy:∀ w,S w→(execOp a.eval o).run P w=.ok (.value v) w:=by (intro w hSw;(try dsimp only at hSw);go_split_ands;(try simp only[zz]);go_simp;(try with_reducible rfl)))
  (hn:Region.wanted o (yielded ops a.tmps)=true:=by rfl) (hs:Region.noSelect ops=true:=by kernel_rfl) (hf:Region.free md ops listed i=true:=by kernel_rfl) (hr:(Region.ready md ops listed).contains i=true:=by kernel_rfl) (hQ:∀ c a w,Q (.panic c) (a.put o.dst v) w→Q (.panic c) a w:=by exact fun _ _ _ h=>h)
  (h:wpAnyH P md ops Q S fuel (listed.setIfInBounds i true) (a.put o.dst v) w):wpAnyH P md ops Q S (fuel+1) listed a w:=
 tk i v hi hy hS h hn hs hf hr hQ
theorem dn1 {Q:Exit→Act→World→Prop} (h:Q .normal a w) (hr:Region.ready md ops listed=[]:=by kernel_rfl):wpAnyH P md ops (NoPanic Q) S fuel listed a w:=wpAnyH_done hr (NoPanic.normal h) _
theorem rdd (i j:Nat) {o o':Oper} (ho:ops[i]? = some o) (ho':ops[j]? = some o') (h:∀ K':Act→World→Prop,Shut (∀ a w,S w→(S w→wpAnyH P md ops Q S fuel (listed.setIfInBounds i true) a w)→K' a w)→if Region.wanted o (yielded ops a.tmps)=true then Oper.wp P o a w K' Q else K' (a.put o.dst undef) w)
  (h':∀ K':Act→World→Prop,Shut (∀ a w,S w→(S w→wpAnyH P md ops Q S fuel (listed.setIfInBounds j true) a w)→K' a w)→if Region.wanted o' (yielded ops a.tmps)=true then Oper.wp P o' a w K' Q else K' (a.put o'.dst undef) w)
  (hr:Region.ready md ops listed=[i,j]:=by kernel_rfl):wpAnyH P md ops Q S (fuel+1) listed a w:=wpAnyH_ready hr (by simp) (AllReadyH.cons ho h (AllReadyH.cons ho' h' AllReadyH.nil))
theorem tku (i:Nat) {o:Oper} (hi:ops[i]? = some o) (hS:S w) (h:wpAnyH P md ops Q S fuel (listed.setIfInBounds i true) (a.put o.dst undef) w)
  (hn:Region.wanted o (yielded ops a.tmps)=false:=by rfl) (hs:Region.noSelect ops=true:=by kernel_rfl) (hf:Region.free md ops listed i=true:=by kernel_rfl) (hr:(Region.ready md ops listed).contains i=true:=by kernel_rfl) (hQ:∀ c a w,Q (.panic c) (a.put o.dst undef) w→Q (.panic c) a w:=by exact fun _ _ _ h=>h):wpAnyH P md ops Q S (fuel+1) listed a w:=
 wpAnyH_take hi hs hf hr hQ (Or.inr ⟨hn,rfl⟩) hS h
theorem rdc (i:Nat) {o:Oper} (ho:ops[i]? = some o) (h:∀ K':Act→World→Prop,Shut (∀ a w,S w→(S w→wpAnyH P md ops Q S fuel (listed.setIfInBounds i true) a w)→K' a w)→if Region.wanted o (yielded ops a.tmps)=true then Oper.wp P o a w K' Q else K' (a.put o.dst undef) w)
  (hr:Region.ready md ops listed=[i]:=by kernel_rfl):wpAnyH P md ops Q S (fuel+1) listed a w:=wpAnyH_ready hr (by simp) (AllReadyH.cons ho h AllReadyH.nil)
end
structure Fct where
 eq:Bool
 a:Int
 b:Int
deriving DecidableEq,Inhabited
structure Atm where
 kind:Int
 a:Int
 b:Int
deriving DecidableEq,Inhabited
structure Asn where
 facts:List Fct
 atoms:List Atm
deriving DecidableEq,Inhabited
structure Ste where
 values:List Int
 heap:List Int
deriving DecidableEq,Inhabited
def Fct.enc (f:Fct):List Value:=[.bool f.eq,.int .i64 f.a,.int .i64 f.b]
def Atm.enc (x:Atm):List Value:=[.int .i64 x.kind,.int .i64 x.a,.int .i64 x.b]
abbrev Fct.val (f:Fct):Value:=.agg #[.bool f.eq,.int .i64 f.a,.int .i64 f.b]
abbrev Atm.val (x:Atm):Value:=.agg #[.int .i64 x.kind,.int .i64 x.a,.int .i64 x.b]
theorem flat3 {α:Type} (f0 f1 f2:α→Value) (fs:List α) (k:Nat) (hk:k<fs.length) :
  (fs.flatMap fun x=>[f0 x,f1 x,f2 x])[k*3]? = some (f0 fs[k])∧(fs.flatMap fun x=>[f0 x,f1 x,f2 x])[k*3+1]? = some (f1 fs[k])∧(fs.flatMap fun x=>[f0 x,f1 x,f2 x])[k*3+2]? = some (f2 fs[k]):=by
 induction fs generalizing k with
 | nil=>simp at hk
 | cons f fs ih=>
  cases k with
  | zero=>simp
  | succ k=>
   have:=ih k (by simpa using hk);simp only[List.flatMap_cons,List.getElem_cons_succ,List.getElem?_append,List.length_cons,List.length_nil];rw[if_neg (by omega),if_neg (by omega),if_neg (by omega)];have e1:(k+1)*3 - (0+1+1+1)=k*3:=by omega
   have e2:(k+1)*3+1 - (0+1+1+1)=k*3+1:=by omega
   have e3:(k+1)*3+2 - (0+1+1+1)=k*3+2:=by omega
   rw[e1,e2,e3];exact this
theorem len3 {α:Type} (f0 f1 f2:α→Value) (fs:List α):(fs.flatMap fun x=>[f0 x,f1 x,f2 x]).length=fs.length * 3:=by
 induction fs with
 | nil=>rfl
 | cons f fs ih=>simp only[List.flatMap_cons,List.length_append,ih,List.length_cons,List.length_nil];omega
abbrev encF (fs:List Fct):List Value:=fs.flatMap fun f=>[.bool f.eq,.int .i64 f.a,.int .i64 f.b]
abbrev encA (xs:List Atm):List Value:=xs.flatMap fun x=>[.int .i64 x.kind,.int .i64 x.a,.int .i64 x.b]
abbrev encI (xs:List Int):List Value:=xs.map (Value.int .i64)
abbrev encB (xs:List Bool):List Value:=xs.map Value.bool
def BoolsV (w:World) (lo hi:Nat) (A:Option Addr) (xs:List Bool):Prop:=Rd w lo hi 1 A xs.length (encB xs)
def FactsV (w:World) (lo hi:Nat) (A:Option Addr) (fs:List Fct):Prop:=Rd w lo hi 3 A fs.length (encF fs)
def AtomsV (w:World) (lo hi:Nat) (A:Option Addr) (xs:List Atm):Prop:=Rd w lo hi 3 A xs.length (encA xs)
def IntsV (w:World) (lo hi:Nat) (A:Option Addr) (xs:List Int):Prop:=Rd w lo hi 1 A xs.length (encI xs)
def AsnV (w:World) (lo hi:Nat) (v:Value) (a:Asn):Prop:=
 ∃ A1 c1 A2 c2,v=.agg #[.slice A1 a.facts.length c1,.slice A2 a.atoms.length c2]∧FactsV w lo hi A1 a.facts∧AtomsV w lo hi A2 a.atoms
section
variable {w w':World} {lo hi:Nat} {A:Option Addr}
theorem FactsV.at {fs:List Fct} (h:FactsV w lo hi A fs) {k:Nat} (hk:k<fs.length):∃ b o,A=some ⟨b,o,none⟩∧w.cell? ⟨b,o+k*3,none⟩=some (.bool fs[k].eq)∧w.cell? ⟨b,o+k*3+1,none⟩=some (.int .i64 fs[k].a)∧w.cell? ⟨b,o+k*3+2,none⟩=some (.int .i64 fs[k].b):=by
 obtain ⟨b,o,e,_,hb,hc⟩:=h.raw.2 (by omega);obtain ⟨h0,h1,h2⟩:=flat3 (fun f:Fct=>.bool f.eq) (fun f=>.int .i64 f.a) (fun f=>.int .i64 f.b) fs k hk;exact ⟨b,o,e,hc _ _ h0,hc _ _ h1,hc _ _ h2⟩
theorem AtomsV.at {fs:List Atm} (h:AtomsV w lo hi A fs) {k:Nat} (hk:k<fs.length):∃ b o,A=some ⟨b,o,none⟩∧w.cell? ⟨b,o+k*3,none⟩=some (.int .i64 fs[k].kind)∧w.cell? ⟨b,o+k*3+1,none⟩=some (.int .i64 fs[k].a)∧w.cell? ⟨b,o+k*3+2,none⟩=some (.int .i64 fs[k].b):=by
 obtain ⟨b,o,e,_,hb,hc⟩:=h.raw.2 (by omega);obtain ⟨h0,h1,h2⟩:=flat3 (fun f:Atm=>.int .i64 f.kind) (fun f=>.int .i64 f.a) (fun f=>.int .i64 f.b) fs k hk;exact ⟨b,o,e,hc _ _ h0,hc _ _ h1,hc _ _ h2⟩
theorem IntsV.at {fs:List Int} (h:IntsV w lo hi A fs) {k:Nat} (hk:k<fs.length):∃ b o,A=some ⟨b,o,none⟩∧w.cell? ⟨b,o+k,none⟩=some (.int .i64 fs[k]):=by
 obtain ⟨b,o,e,_,hb,hc⟩:=h.raw.2 (by omega);exact ⟨b,o,e,hc _ _ (by simp[List.getElem?_eq_getElem hk])⟩
theorem BoolsV.at {fs:List Bool} (h:BoolsV w lo hi A fs) {k:Nat} (hk:k<fs.length):∃ b o,A=some ⟨b,o,none⟩∧w.cell? ⟨b,o+k,none⟩=some (.bool fs[k]):=by
 obtain ⟨b,o,e,_,hb,hc⟩:=h.raw.2 (by omega);exact ⟨b,o,e,hc _ _ (by simp[List.getElem?_eq_getElem hk])⟩
theorem BoolsV.bz {fs:List Bool} (h:BoolsV w lo hi A fs) (hb:Below w.heap.size w w'):BoolsV w' lo hi A fs:=Rd.bz h hb
theorem BoolsV.cl {b o:Nat} {fs:List Bool} (h:BoolsV w lo hi (some ⟨b,o,none⟩) fs) {k:Nat} (hk:k<fs.length):w.cell? ⟨b,o+k,none⟩=some (.bool fs[k]):=by
 obtain ⟨b',o',e,hc⟩:=h.at hk;simp only[Option.some.injEq,Addr.mk.injEq,and_true] at e;obtain ⟨rfl,rfl⟩:=e;exact hc
theorem IntsV.cl {b o:Nat} {fs:List Int} (h:IntsV w lo hi (some ⟨b,o,none⟩) fs) {k:Nat} (hk:k<fs.length):w.cell? ⟨b,o+k,none⟩=some (.int .i64 fs[k]):=by
 obtain ⟨b',o',e,hc⟩:=h.at hk;simp only[Option.some.injEq,Addr.mk.injEq,and_true] at e;obtain ⟨rfl,rfl⟩:=e;exact hc
theorem FactsV.bz {fs:List Fct} (h:FactsV w lo hi A fs) (hb:Below w.heap.size w w'):FactsV w' lo hi A fs:=Rd.bz h hb
theorem AtomsV.bz {fs:List Atm} (h:AtomsV w lo hi A fs) (hb:Below w.heap.size w w'):AtomsV w' lo hi A fs:=Rd.bz h hb
theorem IntsV.bz {fs:List Int} (h:IntsV w lo hi A fs) (hb:Below w.heap.size w w'):IntsV w' lo hi A fs:=Rd.bz h hb
theorem AsnV.bz {v:Value} {a:Asn} (h:AsnV w lo hi v a) (hb:Below w.heap.size w w'):AsnV w' lo hi v a:=by
 obtain ⟨A1,c1,A2,c2,e,h1,h2⟩:=h;exact ⟨A1,c1,A2,c2,e,h1.bz hb,h2.bz hb⟩
theorem AsnV.setb {v:Value} {a:Asn} (h:AsnV w lo hi v a) {p:Addr} (hp:p.block<lo∨hi≤p.block) (u:Value):AsnV (w.setCell p u) lo hi v a:=by
 obtain ⟨A1,c1,A2,c2,e,h1,h2⟩:=h;exact ⟨A1,c1,A2,c2,e,Rd.setb h1 hp u,Rd.setb h2 hp u⟩
theorem AsnV.abv {lo':Nat} {v:Value} {a:Asn} (h:AsnV w lo hi v a) (hb:Abv lo' w w') (hl:lo'≤lo):AsnV w' lo hi v a:=by
 obtain ⟨A1,c1,A2,c2,e,h1,h2⟩:=h;exact ⟨A1,c1,A2,c2,e,Rd.abv h1 hb hl,Rd.abv h2 hb hl⟩
theorem AsnV.mono {v:Value} {a:Asn} {lo' hi':Nat} (h:AsnV w lo hi v a) (e1:lo'≤lo) (e2:hi≤hi'):AsnV w lo' hi' v a:=by
 obtain ⟨A1,c1,A2,c2,e,h1,h2⟩:=h;exact ⟨A1,c1,A2,c2,e,Rd.mono h1 e1 e2,Rd.mono h2 e1 e2⟩
theorem IntsV.mono {fs:List Int} {lo' hi':Nat} (h:IntsV w lo hi A fs) (e1:lo'≤lo) (e2:hi≤hi'):IntsV w lo' hi' A fs:=Rd.mono h e1 e2
theorem FactsV.mono {fs:List Fct} {lo' hi':Nat} (h:FactsV w lo hi A fs) (e1:lo'≤lo) (e2:hi≤hi'):FactsV w lo' hi' A fs:=Rd.mono h e1 e2
theorem AtomsV.mono {fs:List Atm} {lo' hi':Nat} (h:AtomsV w lo hi A fs) (e1:lo'≤lo) (e2:hi≤hi'):AtomsV w lo' hi' A fs:=Rd.mono h e1 e2
end
def FactsR (w:World) (A:Option Addr) (fs:List Fct):Prop:=Rw w 0 w.heap.size 3 A fs.length (encF fs)∧fs.length≤9223372036854775807
def AtomsR (w:World) (A:Option Addr) (xs:List Atm):Prop:=Rw w 0 w.heap.size 3 A xs.length (encA xs)∧xs.length≤9223372036854775807
def IntsR (w:World) (A:Option Addr) (xs:List Int):Prop:=Rw w 0 w.heap.size 1 A xs.length (encI xs)∧xs.length≤9223372036854775807
def AsnR (w:World) (v:Value) (a:Asn):Prop:=
 ∃ A1 c1 A2 c2,v=.agg #[.slice A1 a.facts.length c1,.slice A2 a.atoms.length c2]∧FactsR w A1 a.facts∧AtomsR w A2 a.atoms
theorem FactsR.toV {w:World} {A:Option Addr} {fs:List Fct} (h:FactsR w A fs) (hl:fs.length≤1048576):FactsV w 0 w.heap.size A fs:=⟨h.1,by unfold Lim;omega⟩
theorem AtomsR.toV {w:World} {A:Option Addr} {fs:List Atm} (h:AtomsR w A fs) (hl:fs.length≤1048576):AtomsV w 0 w.heap.size A fs:=⟨h.1,by unfold Lim;omega⟩
theorem IntsR.toV {w:World} {A:Option Addr} {fs:List Int} (h:IntsR w A fs) (hl:fs.length≤1048576):IntsV w 0 w.heap.size A fs:=⟨h.1,by unfold Lim;omega⟩
def jq (n:Int):Bool:=decide (0≤n∧n≤8)
def isProgB (n:Int):Bool:=decide (1≤n∧n≤4)
def Fct.valid (f:Fct):Bool:=jq f.a&&jq f.b
def Atm.valid (x:Atm):Bool:=decide (x.kind=1∨x.kind=2)&&jq x.a&&jq x.b
def factsValid (fs:List Fct):Bool:=decide (fs.length≤12)&&fs.all Fct.valid
def Asn.valid (a:Asn):Bool:=factsValid a.facts&&(decide (a.atoms.length≤6)&&a.atoms.all Atm.valid)
theorem all_drop {α:Type} (p:α→Bool) (l:List α) (k:Nat) (hk:k<l.length):(l.drop k).all p=(p l[k]&&(l.drop (k+1)).all p):=by
 rw[List.drop_eq_getElem_cons hk,List.all_cons]
theorem drop_eq {α:Type} [DecidableEq α] (l m:List α) (k:Nat) (h1:k<l.length) (h2:k<m.length):decide (l.drop k=m.drop k)=(decide (l[k]=m[k])&&decide (l.drop (k+1)=m.drop (k+1))):=by
 rw[List.drop_eq_getElem_cons h1,List.drop_eq_getElem_cons h2];simp only[List.cons.injEq,Bool.decide_and]
theorem Fct.eq_iff (f g:Fct):f=g↔f.eq=g.eq∧f.a=g.a∧f.b=g.b:=by cases f;cases g;simp
theorem Atm.eq_iff (f g:Atm):f=g↔f.kind=g.kind∧f.a=g.a∧f.b=g.b:=by cases f;cases g;simp
theorem Asn.eq_iff (f g:Asn):f=g↔f.facts=g.facts∧f.atoms=g.atoms:=by cases f;cases g;simp
end
section
open Go Go.RowKit Go.Proofs Go.ChangeShapes Go.WideShapes Go.ChangeAt Go.Deep
theorem flat_at {α:Type} (e:α→List Value) (size:Nat) (hs:∀ a,(e a).length=size):∀ (xs:List α) (j:Nat) (u:Value),(xs.flatMap e)[j]? = some u→∃ i r,∃ h:i<xs.length,r<size∧j=i * size+r∧(e xs[i])[r]? = some u:=by
 intro xs
 induction xs with
 | nil=>intro j u h;simp at h
 | cons x xs ih=>
  intro j u h;rw[List.flatMap_cons,List.getElem?_append] at h
  split at h
  ·rename_i hj;exact ⟨0,j,by simp,by rw[hs] at hj;exact hj,by omega,h⟩
  ·rename_i hj;rw[hs] at h hj;obtain ⟨i,r,hi,hr,he,hx⟩:=ih _ _ h;exact ⟨i+1,r,by simp;omega,hr,by rw[Nat.add_mul];omega,by simpa using hx⟩
theorem flat_len {α:Type} (e:α→List Value) (size:Nat) (hs:∀ a,(e a).length=size) (xs:List α):(xs.flatMap e).length=xs.length * size:=by
 induction xs with
 | nil=>simp
 | cons x xs ih=>rw[List.flatMap_cons,List.length_append,ih,hs,List.length_cons,Nat.add_mul];omega
theorem form2 {α:Type} {l:List α} (h:l.length=2):∃ a b,l=[a,b]:=by
 match l,h with
 | [a,b],_=>exact ⟨a,b,rfl⟩
theorem form3 {α:Type} {l:List α} (h:l.length=3):∃ a b c,l=[a,b,c]:=by
 match l,h with
 | [a,b,c],_=>exact ⟨a,b,c,rfl⟩
theorem none_of_cell {w:World} {a:Addr} {v:Value} (h:w.cell? a=some v):a.spot=none:=by
 unfold World.cell? at h
 split at h
 ·split at h
  ·cases h
  ·rename_i h2;cases hs:a.spot<;>simp_all
 ·cases h
section
variable {H:Type} {enc:TypeId×Value→H} {P:Program} {w:World} {base:Nat} {spare:Nat→Bool} {held:Bool}
theorem tr_slice {α:Type} [Inhabited α] {t e:TypeId} {fuel:Nat} {cs:List Value} {x:DataW H×List MemPlace} (en:α→List Value) (size:Nat) (hs:∀ a,(en a).length=size) (hsz:0<size) (he:P.cellsOf e=size)
  (ht:P.underlying t=some (.slice e)) (hel:∀ n cs x,DataW.trod enc P w base spare held n e cs=some x→∃ a,cs=en a) (h:DataW.trod enc P w base spare held fuel t cs=some x) :
  ∃ (A:Option Addr) (c:Nat) (xs:List α),cs=[.slice A xs.length c]∧xs.length≤9223372036854775807∧Rw w 0 w.heap.size size A xs.length (xs.flatMap en):=by
 rcases open_slice ht h with ⟨rfl,_⟩|⟨a,len,cap,m,n,D,Pl,rfl,hb,hl,hm,hmm,_,hx⟩
 ·exact ⟨none,0,[],rfl,by simp,by simp,fun h=>by simp at h⟩
 ·have hlm:len≤m:=by rw[hmm];split<;>omega
  obtain ⟨f,hf⟩:=choose_lt (α:=α) (n:=len) (p:=fun i a'=>w.cells? base (a.add (i * size)) size=some (en a')) (fun i hi=>by
   obtain ⟨cs',h1,h2⟩:=hx i (by omega);obtain ⟨a',rfl⟩:=hel _ _ _ h2;rw[he] at h1
   exact ⟨a',h1⟩)
  refine ⟨some a,cap,(List.range len).map f,by simp,by simp;unfold maxLen at hm;omega,?_,fun hn=>?_⟩
  ·rw[flat_len en size hs]
  ·have hn':0<len:=by
    rcases Nat.eq_zero_or_pos len with h0|h0
    ·subst h0;simp at hn
    ·exact h0
   have hcell:∀ i,i<len→∀ j,j<size→w.cell? ((a.add (i * size)).add j)=(en (f i))[j]?:=fun i hi j hj=>(World.cells?_some (hf i hi)).2.2 j hj;have h00:=hcell 0 hn' 0 hsz;have hx0:(en (f 0))[0]? = some ((en (f 0))[0]'(by rw[hs];exact hsz)):=List.getElem?_eq_getElem _;rw[hx0,Nat.zero_mul] at h00;have e0:(a.add 0).add 0=a:=by simp[Addr.add]
   rw[e0] at h00;have hsp:=none_of_cell h00;obtain ⟨b,o,s⟩:=a;simp only at hsp;subst hsp;refine ⟨b,o,rfl,Nat.zero_le _,World.block_lt_of_cell? w _ h00,fun j u hu=>?_⟩;obtain ⟨i,r,hi,hr,rfl,hu2⟩:=flat_at en size hs _ _ _ hu;have hi':i<len:=by simpa using hi
   have hc:=hcell i hi' r hr
   have ea:((⟨b,o,none⟩:Addr).add (i * size)).add r=⟨b,o+(i * size+r),none⟩:=by
    rw[Go.Deep.add_add];unfold Addr.add;split
    ·rename_i h0;rw[h0];rfl
    ·rfl
   rw[ea] at hc;rw[hc];simpa using hu2
theorem tr_struct {t:TypeId} {fs:Array Field} {fuel:Nat} {cs:List Value} {x:DataW H×List MemPlace} (ht:P.underlying t=some (.struct fs)) (h:DataW.trod enc P w base spare held fuel t cs=some x) :
  cs.length=P.cellsOf t∧∀ (i:Nat) (f:Field),fs[i]? = some f→∃ n y,DataW.trod enc P w base spare held n f.type ((cs.drop f.offset).take (P.cellsOf f.type))=some y:=by
 obtain ⟨xs,n,_,_,hl,hlen,hf⟩:=DataW.trod_struct ht h;refine ⟨hl,fun i f hi=>?_⟩;have hlt:i<xs.length:=by rw[hlen];exact (Array.getElem?_eq_some_iff.1 hi).1
 exact ⟨n,_,(hf i f hi).trans (List.getElem?_eq_getElem hlt)⟩
theorem tr_struct2 {t:TypeId} {f0 f1:Field} {fuel:Nat} {cs:List Value} {x:DataW H×List MemPlace} (ht:P.underlying t=some (.struct #[f0,f1])) (h:DataW.trod enc P w base spare held fuel t cs=some x) :
  cs.length=P.cellsOf t∧(∃ n y,DataW.trod enc P w base spare held n f0.type ((cs.drop f0.offset).take (P.cellsOf f0.type))=some y)∧(∃ n y,DataW.trod enc P w base spare held n f1.type ((cs.drop f1.offset).take (P.cellsOf f1.type))=some y):=by
 obtain ⟨hl,hf⟩:=tr_struct ht h;exact ⟨hl,hf 0 f0 rfl,hf 1 f1 rfl⟩
theorem tr_struct3 {t:TypeId} {f0 f1 f2:Field} {fuel:Nat} {cs:List Value} {x:DataW H×List MemPlace} (ht:P.underlying t=some (.struct #[f0,f1,f2])) (h:DataW.trod enc P w base spare held fuel t cs=some x) :
  cs.length=P.cellsOf t∧(∃ n y,DataW.trod enc P w base spare held n f0.type ((cs.drop f0.offset).take (P.cellsOf f0.type))=some y)∧(∃ n y,DataW.trod enc P w base spare held n f1.type ((cs.drop f1.offset).take (P.cellsOf f1.type))=some y)∧(∃ n y,DataW.trod enc P w base spare held n f2.type ((cs.drop f2.offset).take (P.cellsOf f2.type))=some y):=by
 obtain ⟨hl,hf⟩:=tr_struct ht h;exact ⟨hl,hf 0 f0 rfl,hf 1 f1 rfl,hf 2 f2 rfl⟩
end
section
variable {H:Type} {enc:TypeId×Value→H} {w:World} {base:Nat} {spare:Nat→Bool} {held:Bool} {fuel:Nat} {cs:List Value} {x:DataW H×List MemPlace}
theorem cells_int:Tryz.prog.cellsOf 3=1:=by kernel_rfl
theorem cells_bool:Tryz.prog.cellsOf 4=1:=by kernel_rfl
theorem tr_int (h:DataW.trod enc Tryz.prog w base spare held fuel 3 cs=some x):∃ n,cs=[.int .i64 n]∧-9223372036854775808≤n∧n≤9223372036854775807:=by
 obtain ⟨n,e,_,hw⟩:=DataW.trod_int Tryz.underlying3 h;refine ⟨n,e,?_⟩;simp[Lit.wf,IntKind.min,IntKind.max,IntKind.signed,IntKind.bits] at hw;omega
theorem tr_bool (h:DataW.trod enc Tryz.prog w base spare held fuel 4 cs=some x):∃ n,cs=[.bool n]:=by
 obtain ⟨n,e,_⟩:=DataW.trod_bool Tryz.underlying4 h;exact ⟨n,e⟩
theorem tr_ints (h:DataW.trod enc Tryz.prog w base spare held fuel 31 cs=some x):∃ (A:Option Addr) (c:Nat) (xs:List Int),cs=[.slice A xs.length c]∧IntsR w A xs:=by
 obtain ⟨A,c,xs,e,hl,hr⟩:=tr_slice (fun n:Int=>[Value.int .i64 n]) 1 (fun _=>rfl) (by omega) cells_int Tryz.underlying31 (fun n cs x h=>by obtain ⟨n,e,_⟩:=tr_int h;exact ⟨n,e⟩) h;refine ⟨A,c,xs,e,?_,hl⟩;have:xs.flatMap (fun n=>[Value.int .i64 n])=encI xs:=by clear hr hl e;induction xs with|nil=>rfl|cons x xs ih=>rw[List.flatMap_cons,ih];rfl
 rwa [this] at hr
theorem cells_lFact:Tryz.prog.cellsOf 27=3:=by kernel_rfl
theorem tr_fact (h:DataW.trod enc Tryz.prog w base spare held fuel 27 cs=some x):∃ f:Fct,cs=[.bool f.eq,.int .i64 f.a,.int .i64 f.b]:=by
 obtain ⟨hl,⟨n0,y0,h0⟩,⟨n1,y1,h1⟩,⟨n2,y2,h2⟩⟩:=tr_struct3 Tryz.underlying27 h;rw[cells_lFact] at hl;obtain ⟨a,b,c,rfl⟩:=form3 hl;simp only[cells_int,cells_bool,List.drop_succ_cons,List.drop_zero,List.take_succ_cons,List.take_zero] at h0 h1 h2;obtain ⟨b0,e0⟩:=tr_bool h0;obtain ⟨i1,e1,_⟩:=tr_int h1;obtain ⟨i2,e2,_⟩:=tr_int h2;exact ⟨⟨b0,i1,i2⟩,by simp_all⟩
theorem cells_lAtom:Tryz.prog.cellsOf 171=3:=by kernel_rfl
theorem tr_atom (h:DataW.trod enc Tryz.prog w base spare held fuel 171 cs=some x):∃ f:Atm,cs=[.int .i64 f.kind,.int .i64 f.a,.int .i64 f.b]:=by
 obtain ⟨hl,⟨n0,y0,h0⟩,⟨n1,y1,h1⟩,⟨n2,y2,h2⟩⟩:=tr_struct3 Tryz.underlying171 h;rw[cells_lAtom] at hl;obtain ⟨a,b,c,rfl⟩:=form3 hl;simp only[cells_int,List.drop_succ_cons,List.drop_zero,List.take_succ_cons,List.take_zero] at h0 h1 h2;obtain ⟨b0,e0,_⟩:=tr_int h0;obtain ⟨i1,e1,_⟩:=tr_int h1;obtain ⟨i2,e2,_⟩:=tr_int h2;exact ⟨⟨b0,i1,i2⟩,by simp_all⟩
theorem tr_facts (h:DataW.trod enc Tryz.prog w base spare held fuel 22 cs=some x):∃ (A:Option Addr) (c:Nat) (xs:List Fct),cs=[.slice A xs.length c]∧FactsR w A xs:=by
 obtain ⟨A,c,xs,e,hl,hr⟩:=tr_slice (fun f:Fct=>[.bool f.eq,.int .i64 f.a,.int .i64 f.b]) 3 (fun _=>rfl) (by omega) cells_lFact Tryz.underlying22 (fun n cs x h=>tr_fact h) h;exact ⟨A,c,xs,e,hr,hl⟩
theorem tr_atoms (h:DataW.trod enc Tryz.prog w base spare held fuel 23 cs=some x):∃ (A:Option Addr) (c:Nat) (xs:List Atm),cs=[.slice A xs.length c]∧AtomsR w A xs:=by
 obtain ⟨A,c,xs,e,hl,hr⟩:=tr_slice (fun f:Atm=>[.int .i64 f.kind,.int .i64 f.a,.int .i64 f.b]) 3 (fun _=>rfl) (by omega) cells_lAtom Tryz.underlying23 (fun n cs x h=>tr_atom h) h;exact ⟨A,c,xs,e,hr,hl⟩
theorem cells_lAsn:Tryz.prog.cellsOf 25=2:=by kernel_rfl
theorem cells_lFacts:Tryz.prog.cellsOf 22=1:=by kernel_rfl
theorem cells_lAtoms:Tryz.prog.cellsOf 23=1:=by kernel_rfl
theorem tr_asn (h:DataW.trod enc Tryz.prog w base spare held fuel 25 cs=some x):∃ (a:Asn) (A1:Option Addr) (c1:Nat) (A2:Option Addr) (c2:Nat),cs=[.slice A1 a.facts.length c1,.slice A2 a.atoms.length c2]∧FactsR w A1 a.facts∧AtomsR w A2 a.atoms:=by
 obtain ⟨hl,⟨n0,y0,h0⟩,⟨n1,y1,h1⟩⟩:=tr_struct2 Tryz.underlying25 h;rw[cells_lAsn] at hl;obtain ⟨a,b,rfl⟩:=form2 hl;simp only[cells_lFacts,cells_lAtoms,List.drop_succ_cons,List.drop_zero,List.take_succ_cons,List.take_zero] at h0 h1;obtain ⟨A1,c1,xs,e1,g1⟩:=tr_facts h0;obtain ⟨A2,c2,ys,e2,g2⟩:=tr_atoms h1;exact ⟨⟨xs,ys⟩,A1,c1,A2,c2,by simp_all,g1,g2⟩
end
theorem open_asn {H:Type} {enc:TypeId×Value→H} {w:World} {v:Value} {d:DataW H} {p:List MemPlace} (hv:Value.okWide Tryz.prog w .any 0 25 v) (h:DataW.Trod enc Tryz.prog w 0 (fun _=>true) true 25 v d p):∃ k:Asn,AsnR w v k:=by
 obtain ⟨cs,rfl,_⟩:=okWide_struct Tryz.underlying25 hv;obtain ⟨fuel,hf⟩:=h;obtain ⟨a,A1,c1,A2,c2,e,g1,g2⟩:=tr_asn hf;refine ⟨a,A1,c1,A2,c2,?_,g1,g2⟩;have e':cs.toList=[.slice A1 a.facts.length c1,.slice A2 a.atoms.length c2]:=by simpa[Value.cells] using e
 rw[show cs=#[.slice A1 a.facts.length c1,.slice A2 a.atoms.length c2] from by rw[←Array.toList_inj];exact e']
theorem open_ints_ {H:Type} {enc:TypeId×Value→H} {w:World} {v:Value} {d:DataW H} {p:List MemPlace} (hv:Value.okWide Tryz.prog w .any 0 31 v) (h:DataW.Trod enc Tryz.prog w 0 (fun _=>true) true 31 v d p):∃ k:List Int,∃ A c,v=.slice A k.length c∧IntsR w A k:=by
 obtain ⟨a,n,c,rfl⟩:=okWide_slice Tryz.underlying31 hv;obtain ⟨fuel,hf⟩:=h;obtain ⟨A,c',xs,e,g⟩:=tr_ints hf;have e':[Value.slice a n c]=[.slice A xs.length c']:=by simpa[Value.cells] using e
 injection e' with e';exact ⟨xs,A,c',e',g⟩
end
section
open Go Go.RowKit
inductive Cms where
 | nil:Cms
 | cons (kind a b:Int) (test:Fct) (inv:Asn) (body els rest:Cms):Cms
deriving DecidableEq,Inhabited
def Cms.len:Cms→Nat
 | .nil=>0
 | .cons _ _ _ _ _ _ _ r=>r.len+1
def Cms.cost:Cms→Nat
 | .nil=>0
 | .cons _ _ _ _ i body els r=>i.facts.length+i.atoms.length+(body.len+body.cost)+(els.len+els.cost)+r.cost
def Cms.small (n:Nat):Cms→Prop
 | .nil=>True
 | .cons _ _ _ _ i body els r=>i.facts.length≤n∧i.atoms.length≤n∧body.len≤n∧els.len≤n∧body.small n∧els.small n∧r.small n
theorem Cms.cost_small {n:Nat}:∀ {L:Cms},L.cost≤n→L.small n
 | .nil,_=>trivial
 | .cons k a b t i body els r,h=>by
  simp only[Cms.cost] at h;exact ⟨by omega,by omega,by omega,by omega,Cms.cost_small (by omega),Cms.cost_small (by omega),Cms.cost_small (by omega)⟩
def Cms.drop:Nat→Cms→Cms
 | 0,L=>L
 | _+1,.nil=>.nil
 | n+1,.cons _ _ _ _ _ _ _ r=>r.drop n
theorem Cms.drop_len:∀ (n:Nat) (L:Cms),(L.drop n).len=L.len - n
 | 0,L=>rfl
 | n+1,.nil=>by simp[Cms.drop,Cms.len]
 | n+1,.cons _ _ _ _ _ _ _ r=>by simp only[Cms.drop,Cms.len];rw[Cms.drop_len n r];omega
theorem Cms.drop_all:∀ (L:Cms),L.drop L.len=.nil
 | .nil=>rfl
 | .cons k a b t i body els r=>by simp only[Cms.len,Cms.drop];exact Cms.drop_all r
theorem Cms.drop_succ:∀ (n:Nat) (L:Cms) {k a b:Int} {t:Fct} {i:Asn} {body els r:Cms},L.drop n=.cons k a b t i body els r→L.drop (n+1)=r
 | 0,.cons _ _ _ _ _ _ _ r,_,_,_,_,_,_,_,_,h=>by simp only[Cms.drop] at h ⊢;injection h
 | 0,.nil,_,_,_,_,_,_,_,_,h=>by cases h
 | n+1,.nil,_,_,_,_,_,_,_,_,h=>by cases h
 | n+1,.cons _ _ _ _ _ _ _ r,_,_,_,_,_,_,_,_,h=>Cms.drop_succ n r h
theorem Cms.cons_of_len:∀ {L:Cms},0<L.len→∃ k a b t i body els r,L=.cons k a b t i body els r
 | .nil,h=>by simp[Cms.len] at h
 | .cons k a b t i body els r,_=>⟨k,a,b,t,i,body,els,r,rfl⟩
def CmsAt (w:World) (lo hi:Nat):Cms→Nat→Nat→Prop
 | .nil,_,_=>True
 | .cons k a b t i body els r,bl,o=>
  (w.cell? ⟨bl,o,none⟩=some (.int .i64 k)∧w.cell? ⟨bl,o+1,none⟩=some (.int .i64 a)∧w.cell? ⟨bl,o+2,none⟩=some (.int .i64 b)∧
   w.cell? ⟨bl,o+3,none⟩=some (.bool t.eq)∧w.cell? ⟨bl,o+4,none⟩=some (.int .i64 t.a)∧w.cell? ⟨bl,o+5,none⟩=some (.int .i64 t.b))∧
  (∃ A c,w.cell? ⟨bl,o+6,none⟩=some (.slice A i.facts.length c)∧Rw w lo hi 3 A i.facts.length (encF i.facts))∧
  (∃ A c,w.cell? ⟨bl,o+7,none⟩=some (.slice A i.atoms.length c)∧Rw w lo hi 3 A i.atoms.length (encA i.atoms))∧
  (∃ A c,w.cell? ⟨bl,o+8,none⟩=some (.slice A body.len c)∧(0<body.len→∃ b' o',A=some ⟨b',o',none⟩∧lo≤b'∧b'<hi∧CmsAt w lo hi body b' o'))∧
  (∃ A c,w.cell? ⟨bl,o+9,none⟩=some (.slice A els.len c)∧(0<els.len→∃ b' o',A=some ⟨b',o',none⟩∧lo≤b'∧b'<hi∧CmsAt w lo hi els b' o'))∧
  CmsAt w lo hi r bl (o+10)
def CmsV (w:World) (lo hi:Nat) (A:Option Addr) (L:Cms):Prop:=0<L.len→∃ b o,A=some ⟨b,o,none⟩∧lo≤b∧b<hi∧CmsAt w lo hi L b o
section
variable {w w':World} {lo hi lo' hi':Nat}
theorem CmsAt.bz (hb:Below w.heap.size w w'):∀ {L:Cms} {bl o:Nat},CmsAt w lo hi L bl o→CmsAt w' lo hi L bl o
 | .nil,_,_,_=>trivial
 | .cons k a b t i body els r,bl,o,h=>by
  obtain ⟨⟨h0,h1,h2,h3,h4,h5⟩,⟨A6,c6,h6,g6⟩,⟨A7,c7,h7,g7⟩,⟨A8,c8,h8,g8⟩,⟨A9,c9,h9,g9⟩,hr⟩:=h;have hlt:bl<w.heap.size:=block_lt_of_cell h0;have hc:∀ j,w'.cell? ⟨bl,j,none⟩=w.cell? ⟨bl,j,none⟩:=fun j=>hb.cell (p:=⟨bl,j,none⟩) hlt;refine ⟨⟨(hc _).trans h0,(hc _).trans h1,(hc _).trans h2,(hc _).trans h3,(hc _).trans h4,(hc _).trans h5⟩,⟨A6,c6,(hc _).trans h6,g6.bz hb⟩,⟨A7,c7,(hc _).trans h7,g7.bz hb⟩,⟨A8,c8,(hc _).trans h8,fun hl=>?_⟩,⟨A9,c9,(hc _).trans h9,fun hl=>?_⟩,CmsAt.bz hb hr⟩
  ·obtain ⟨b',o',e,p1,p2,p3⟩:=g8 hl;exact ⟨b',o',e,p1,p2,CmsAt.bz hb p3⟩
  ·obtain ⟨b',o',e,p1,p2,p3⟩:=g9 hl;exact ⟨b',o',e,p1,p2,CmsAt.bz hb p3⟩
theorem CmsAt.mono (e1:lo'≤lo) (e2:hi≤hi'):∀ {L:Cms} {bl o:Nat},CmsAt w lo hi L bl o→CmsAt w lo' hi' L bl o
 | .nil,_,_,_=>trivial
 | .cons k a b t i body els r,bl,o,h=>by
  obtain ⟨h0,⟨A6,c6,h6,g6⟩,⟨A7,c7,h7,g7⟩,⟨A8,c8,h8,g8⟩,⟨A9,c9,h9,g9⟩,hr⟩:=h;refine ⟨h0,⟨A6,c6,h6,g6.mono e1 e2⟩,⟨A7,c7,h7,g7.mono e1 e2⟩,⟨A8,c8,h8,fun hl=>?_⟩,⟨A9,c9,h9,fun hl=>?_⟩,CmsAt.mono e1 e2 hr⟩
  ·obtain ⟨b',o',e,p1,p2,p3⟩:=g8 hl;exact ⟨b',o',e,by omega,by omega,CmsAt.mono e1 e2 p3⟩
  ·obtain ⟨b',o',e,p1,p2,p3⟩:=g9 hl;exact ⟨b',o',e,by omega,by omega,CmsAt.mono e1 e2 p3⟩
theorem CmsV.bz {A:Option Addr} {L:Cms} (h:CmsV w lo hi A L) (hb:Below w.heap.size w w'):CmsV w' lo hi A L:=fun hl=>by
 obtain ⟨b,o,e,p1,p2,p3⟩:=h hl;exact ⟨b,o,e,p1,p2,p3.bz hb⟩
theorem CmsV.mono {A:Option Addr} {L:Cms} (h:CmsV w lo hi A L) (e1:lo'≤lo) (e2:hi≤hi'):CmsV w lo' hi' A L:=fun hl=>by
 obtain ⟨b,o,e,p1,p2,p3⟩:=h hl;exact ⟨b,o,e,by omega,by omega,p3.mono e1 e2⟩
theorem CmsAt.drop:∀ (n:Nat) {L:Cms} {bl o:Nat},CmsAt w lo hi L bl o→CmsAt w lo hi (L.drop n) bl (o+n * 10)
 | 0,L,bl,o,h=>by simpa[Cms.drop] using h
 | n+1,.nil,bl,o,h=>trivial
 | n+1,.cons k a b t i body els r,bl,o,h=>by
  have:=CmsAt.drop n h.2.2.2.2.2
  rwa [show o+10+n * 10=o+(n+1) * 10 from by omega] at this
end
theorem Cms.small_drop {m:Nat}:∀ (n:Nat) {L:Cms},L.small m→(L.drop n).small m
 | 0,L,h=>h
 | n+1,.nil,h=>trivial
 | n+1,.cons k a b t i body els r,h=>Cms.small_drop n h.2.2.2.2.2.2
end
section
open Go Go.RowKit Go.Proofs Go.ChangeShapes Go.WideShapes Go.ChangeAt Go.Deep
theorem form10 {α:Type} {l:List α} (h:l.length=10):∃ a b c d e f g i j k,l=[a,b,c,d,e,f,g,i,j,k]:=by
 match l,h with
 | [a,b,c,d,e,f,g,i,j,k],_=>exact ⟨a,b,c,d,e,f,g,i,j,k,rfl⟩
def CmdAt (w:World) (lo hi:Nat) (bl o:Nat):Prop:=∃ (k a b:Int) (t:Fct) (i:Asn) (body els:Cms),CmsAt w lo hi (.cons k a b t i body els .nil) bl o∧(Cms.cons k a b t i body els .nil).small 9223372036854775807
theorem cms_build {w:World} {lo hi bl:Nat}:∀ (n o:Nat),(∀ i,i<n→CmdAt w lo hi bl (o+i * 10))→∃ L:Cms,L.len=n∧CmsAt w lo hi L bl o∧L.small 9223372036854775807
 | 0,o,_=>⟨.nil,rfl,trivial,trivial⟩
 | n+1,o,h=>by
  obtain ⟨k,a,b,t,i,body,els,h0,hs⟩:=h 0 (by omega);obtain ⟨r,hr,hat,hsr⟩:=cms_build n (o+10) (fun i hi=>by have:=h (i+1) (by omega);rwa [show o+(i+1) * 10=o+10+i * 10 from by omega] at this);rw[Nat.zero_mul,Nat.add_zero] at h0;exact ⟨.cons k a b t i body els r,by simp[Cms.len,hr],⟨h0.1,h0.2.1,h0.2.2.1,h0.2.2.2.1,h0.2.2.2.2.1,hat⟩,hs.1,hs.2.1,hs.2.2.1,hs.2.2.2.1,hs.2.2.2.2.1,hs.2.2.2.2.2.1,hsr⟩
section
variable {H:Type} {enc:TypeId×Value→H} {w:World} {base:Nat} {spare:Nat→Bool} {held:Bool}
theorem tr_struct7n {P:Program} {t:TypeId} {f0 f1 f2 f3 f4 f5 f6:Field} {fuel:Nat} {cs:List Value} {x:DataW H×List MemPlace} (ht:P.underlying t=some (.struct #[f0,f1,f2,f3,f4,f5,f6])) (h:DataW.trod enc P w base spare held fuel t cs=some x) :
  ∃ n,fuel=n+1∧cs.length=P.cellsOf t∧(∃ y,DataW.trod enc P w base spare held n f0.type ((cs.drop f0.offset).take (P.cellsOf f0.type))=some y)∧(∃ y,DataW.trod enc P w base spare held n f1.type ((cs.drop f1.offset).take (P.cellsOf f1.type))=some y)∧(∃ y,DataW.trod enc P w base spare held n f2.type ((cs.drop f2.offset).take (P.cellsOf f2.type))=some y)∧(∃ y,DataW.trod enc P w base spare held n f3.type ((cs.drop f3.offset).take (P.cellsOf f3.type))=some y)∧(∃ y,DataW.trod enc P w base spare held n f4.type ((cs.drop f4.offset).take (P.cellsOf f4.type))=some y)∧(∃ y,DataW.trod enc P w base spare held n f5.type ((cs.drop f5.offset).take (P.cellsOf f5.type))=some y)∧(∃ y,DataW.trod enc P w base spare held n f6.type ((cs.drop f6.offset).take (P.cellsOf f6.type))=some y):=by
 obtain ⟨xs,n,hfuel,_,hl,hlen,hf⟩:=DataW.trod_struct ht h;have get:∀ (i:Nat) (f:Field),#[f0,f1,f2,f3,f4,f5,f6][i]? = some f→∃ y,DataW.trod enc P w base spare held n f.type ((cs.drop f.offset).take (P.cellsOf f.type))=some y:=fun i f hi=>⟨_,(hf i f hi).trans (List.getElem?_eq_getElem (by rw[hlen];exact (Array.getElem?_eq_some_iff.1 hi).1))⟩;exact ⟨n,hfuel,hl,get 0 f0 rfl,get 1 f1 rfl,get 2 f2 rfl,get 3 f3 rfl,get 4 f4 rfl,get 5 f5 rfl,get 6 f6 rfl⟩
theorem cells_lCmd:Tryz.prog.cellsOf 30=10:=by kernel_rfl
theorem cells_lCmds:Tryz.prog.cellsOf 28=1:=by kernel_rfl
theorem cells_lFact':Tryz.prog.cellsOf 27=3:=by kernel_rfl
theorem cells_lAsn':Tryz.prog.cellsOf 25=2:=by kernel_rfl
def CmdR (w:World) (cs:List Value):Prop:=∃ (k a b:Int) (t:Fct) (i:Asn) (A1:Option Addr) (c1:Nat) (A2:Option Addr) (c2:Nat) (A3:Option Addr) (c3:Nat) (body:Cms) (A4:Option Addr) (c4:Nat) (els:Cms),
 cs=[.int .i64 k,.int .i64 a,.int .i64 b,.bool t.eq,.int .i64 t.a,.int .i64 t.b,.slice A1 i.facts.length c1,.slice A2 i.atoms.length c2,.slice A3 body.len c3,.slice A4 els.len c4]∧
  FactsR w A1 i.facts∧AtomsR w A2 i.atoms∧CmsV w 0 w.heap.size A3 body∧CmsV w 0 w.heap.size A4 els∧body.len≤9223372036854775807∧els.len≤9223372036854775807∧body.small 9223372036854775807∧els.small 9223372036854775807
theorem tr_cmd1 {N:Nat} (IH:∀ fuel,fuel≤N→∀ (cs:List Value) (x:DataW H×List MemPlace),DataW.trod enc Tryz.prog w base spare held fuel 28 cs=some x→∃ (A:Option Addr) (c:Nat) (L:Cms),cs=[.slice A L.len c]∧L.len≤9223372036854775807∧L.small 9223372036854775807∧CmsV w 0 w.heap.size A L)
  {cs:List Value} {x:DataW H×List MemPlace} {fuel:Nat} (hN:fuel≤N+1) (h:DataW.trod enc Tryz.prog w base spare held fuel 30 cs=some x):CmdR w cs:=by
 obtain ⟨n,hfuel,hl,⟨y0,h0⟩,⟨y1,h1⟩,⟨y2,h2⟩,⟨y3,h3⟩,⟨y4,h4⟩,⟨y5,h5⟩,⟨y6,h6⟩⟩:=tr_struct7n Tryz.underlying30 h;have hn:n≤N:=by omega
 rw[cells_lCmd] at hl;obtain ⟨z0,z1,z2,z3,z4,z5,z6,z7,z8,z9,rfl⟩:=form10 hl;simp only[cells_int,cells_lFact',cells_lAsn',cells_lCmds,List.drop_succ_cons,List.drop_zero,List.take_succ_cons,List.take_zero] at h0 h1 h2 h3 h4 h5 h6;obtain ⟨i0,e0,_⟩:=tr_int h0;obtain ⟨i1,e1,_⟩:=tr_int h1;obtain ⟨i2,e2,_⟩:=tr_int h2;obtain ⟨t,e3⟩:=tr_fact h3;obtain ⟨a,A1,c1,A2,c2,e4,g1,g2⟩:=tr_asn h4;obtain ⟨A3,c3,L3,e5,u3,s3,g3⟩:=IH _ hn _ _ h5;obtain ⟨A4,c4,L4,e6,u4,s4,g4⟩:=IH _ hn _ _ h6;exact ⟨i0,i1,i2,t,a,A1,c1,A2,c2,A3,c3,L3,A4,c4,L4,by simp_all,g1,g2,g3,g4,u3,u4,s3,s4⟩
theorem CmdR.at {cs:List Value} (h:CmdR w cs) {bl o:Nat} (hc:∀ j,j<10→w.cell? ⟨bl,o+j,none⟩=cs[j]?):CmdAt w 0 w.heap.size bl o:=by
 obtain ⟨k,a,b,t,i,A1,c1,A2,c2,A3,c3,body,A4,c4,els,rfl,g1,g2,g3,g4,u3,u4,s3,s4⟩:=h;exact ⟨k,a,b,t,i,body,els,⟨⟨hc 0 (by omega),hc 1 (by omega),hc 2 (by omega),hc 3 (by omega),hc 4 (by omega),hc 5 (by omega)⟩,⟨A1,c1,hc 6 (by omega),g1.1⟩,⟨A2,c2,hc 7 (by omega),g2.1⟩,⟨A3,c3,hc 8 (by omega),g3⟩,⟨A4,c4,hc 9 (by omega),g4⟩,trivial⟩,⟨g1.2,g2.2,u3,u4,s3,s4,trivial⟩⟩
theorem tr_cmds:∀ (N:Nat) (fuel:Nat),fuel≤N→∀ (cs:List Value) (x:DataW H×List MemPlace),DataW.trod enc Tryz.prog w base spare held fuel 28 cs=some x→∃ (A:Option Addr) (c:Nat) (L:Cms),cs=[.slice A L.len c]∧L.len≤9223372036854775807∧L.small 9223372036854775807∧CmsV w 0 w.heap.size A L:=by
 intro N
 induction N with
 | zero=>
  intro fuel hf cs x h;obtain rfl:fuel=0:=by omega
  simp[DataW.trod] at h
 | succ N IH=>
  intro fuel hN cs x h;rcases DataW.trod_slice Tryz.underlying28 h with ⟨rfl,_⟩|⟨a,len,cap,elems,rest,n,hfu,rfl,_,_,hl,hm,hlen,hel,_,_⟩
  ·exact ⟨none,0,.nil,rfl,by simp[Cms.len],trivial,fun h=>by simp[Cms.len] at h⟩
  ·have hx:∀ i,i<len→∃ cs',w.cells? base (a.add (i * 10)) 10=some cs'∧CmdR w cs':=fun i hi=>by
    have h1:=hel i hi;rw[cells_lCmd,List.getElem?_eq_getElem (by omega)] at h1;obtain ⟨cs',h2,h3⟩:=Option.bind_eq_some_iff.1 h1;exact ⟨cs',h2,tr_cmd1 IH (by omega) h3⟩
   have hnone:0<len→a.spot=none:=fun hp=>by
    obtain ⟨cs',h1,h2⟩:=hx 0 hp;have h3:=(World.cells?_some h1).2.2 0 (by omega);obtain ⟨k,a',b,t,i,A1,c1,A2,c2,A3,c3,body,A4,c4,els,rfl,_⟩:=h2;rw[Nat.zero_mul] at h3;exact none_of_cell (show w.cell? a=some (.int .i64 k) from by simpa[Addr.add] using h3)
   rcases Nat.eq_zero_or_pos len with rfl|hp
   ·exact ⟨some a,cap,.nil,rfl,by simp[Cms.len],trivial,fun h=>by simp[Cms.len] at h⟩
   have hsp:=hnone hp;obtain ⟨b,o,s⟩:=a;simp only at hsp;subst hsp
   have hcell:∀ i,i<len→CmdAt w 0 w.heap.size b (o+i * 10):=fun i hi=>by
    obtain ⟨cs',h1,h2⟩:=hx i hi;refine h2.at fun j hj=>?_;have h3:=(World.cells?_some h1).2.2 j hj
    have ea:((⟨b,o,none⟩:Addr).add (i * 10)).add j=⟨b,o+i * 10+j,none⟩:=by
     rw[Go.Deep.add_add];unfold Addr.add;split
     ·rename_i h0;simp only[Addr.mk.injEq,and_true,true_and];omega
     ·simp only[Addr.mk.injEq,and_true,true_and];omega
    rwa [ea] at h3
   obtain ⟨L,hL,hat,hsm⟩:=cms_build len o hcell;refine ⟨some ⟨b,o,none⟩,cap,L,by rw[hL],by rw[hL];unfold maxLen at hm;omega,hsm,fun _=>⟨b,o,rfl,Nat.zero_le _,?_,hat⟩⟩;obtain ⟨k,a,b',t,i,body,els,h0⟩:=hcell 0 hp;exact block_lt_of_cell h0.1.1.1
end
theorem open_cmd {H:Type} {enc:TypeId×Value→H} {w:World} {v:Value} {d:DataW H} {p:List MemPlace} (hv:Value.okWide Tryz.prog w .any 0 30 v) (h:DataW.Trod enc Tryz.prog w 0 (fun _=>true) true 30 v d p):∃ cs:Array Value,v=.agg cs∧CmdR w cs.toList:=by
 obtain ⟨cs,rfl,_⟩:=okWide_struct Tryz.underlying30 hv;obtain ⟨fuel,hf⟩:=h;exact ⟨cs,rfl,tr_cmd1 (fun fuel _ cs x h=>tr_cmds fuel fuel (Nat.le_refl _) cs x h) (Nat.le_succ fuel) (by simpa[Value.cells] using hf)⟩
end
section
open Go Go.RowKit Go.Proofs
abbrev tF:Nat:=41
abbrev tA:Nat:=128
abbrev tI:Nat:=3
def FactsO (w:World) (base:Nat) (v:Value) (fs:List Fct):Prop:=w.ownsRow base tF 3 v fs.length (encF fs)∧Lim fs.length
def AtomsO (w:World) (base:Nat) (v:Value) (xs:List Atm):Prop:=w.ownsRow base tA 3 v xs.length (encA xs)∧Lim xs.length
def IntsO (w:World) (base:Nat) (v:Value) (xs:List Int):Prop:=w.ownsRow base tI 1 v xs.length (encI xs)∧Lim xs.length
def AsnO (w:World) (base:Nat) (v:Value) (a:Asn):Prop:=∃ fv av,v=.agg #[fv,av]∧FactsO w base fv a.facts∧AtomsO w base av a.atoms
section
variable {w w':World} {base base':Nat} {v:Value}
theorem FactsO.bz {fs:List Fct} (h:FactsO w base v fs) (hb:Below w.heap.size w w'):FactsO w' base v fs:=⟨own_below h.1 hb,h.2⟩
theorem AtomsO.bz {fs:List Atm} (h:AtomsO w base v fs) (hb:Below w.heap.size w w'):AtomsO w' base v fs:=⟨own_below h.1 hb,h.2⟩
theorem IntsO.bz {fs:List Int} (h:IntsO w base v fs) (hb:Below w.heap.size w w'):IntsO w' base v fs:=⟨own_below h.1 hb,h.2⟩
theorem AsnO.bz {a:Asn} (h:AsnO w base v a) (hb:Below w.heap.size w w'):AsnO w' base v a:=by
 obtain ⟨fv,av,e,h1,h2⟩:=h;exact ⟨fv,av,e,h1.bz hb,h2.bz hb⟩
theorem FactsO.setb {fs:List Fct} (h:FactsO w base v fs) {a:Addr} (ha:a.block<base) (u:Value):FactsO (w.setCell a u) base v fs:=⟨ownsRow_setCell_below h.1 ha u,h.2⟩
theorem AtomsO.setb {fs:List Atm} (h:AtomsO w base v fs) {a:Addr} (ha:a.block<base) (u:Value):AtomsO (w.setCell a u) base v fs:=⟨ownsRow_setCell_below h.1 ha u,h.2⟩
theorem IntsO.setb {fs:List Int} (h:IntsO w base v fs) {a:Addr} (ha:a.block<base) (u:Value):IntsO (w.setCell a u) base v fs:=⟨ownsRow_setCell_below h.1 ha u,h.2⟩
theorem AsnO.setb {a:Asn} (h:AsnO w base v a) {p:Addr} (ha:p.block<base) (u:Value):AsnO (w.setCell p u) base v a:=by
 obtain ⟨fv,av,e,h1,h2⟩:=h;exact ⟨fv,av,e,h1.setb ha u,h2.setb ha u⟩
theorem FactsO.abv {lo:Nat} {fs:List Fct} (h:FactsO w base v fs) (hb:Abv lo w w') (hl:lo≤base):FactsO w' base v fs:=⟨own_abv h.1 hb hl,h.2⟩
theorem AtomsO.abv {lo:Nat} {fs:List Atm} (h:AtomsO w base v fs) (hb:Abv lo w w') (hl:lo≤base):AtomsO w' base v fs:=⟨own_abv h.1 hb hl,h.2⟩
theorem IntsO.abv {lo:Nat} {fs:List Int} (h:IntsO w base v fs) (hb:Abv lo w w') (hl:lo≤base):IntsO w' base v fs:=⟨own_abv h.1 hb hl,h.2⟩
theorem AsnO.abv {lo:Nat} {a:Asn} (h:AsnO w base v a) (hb:Abv lo w w') (hl:lo≤base):AsnO w' base v a:=by
 obtain ⟨fv,av,e,h1,h2⟩:=h;exact ⟨fv,av,e,h1.abv hb hl,h2.abv hb hl⟩
theorem FactsO.bq {fs:List Fct} (h:FactsO w base v fs) (hb:base'≤base):FactsO w base' v fs:=⟨own_lower h.1 hb,h.2⟩
theorem AtomsO.bq {fs:List Atm} (h:AtomsO w base v fs) (hb:base'≤base):AtomsO w base' v fs:=⟨own_lower h.1 hb,h.2⟩
theorem IntsO.bq {fs:List Int} (h:IntsO w base v fs) (hb:base'≤base):IntsO w base' v fs:=⟨own_lower h.1 hb,h.2⟩
theorem AsnO.bq {a:Asn} (h:AsnO w base v a) (hb:base'≤base):AsnO w base' v a:=by
 obtain ⟨fv,av,e,h1,h2⟩:=h;exact ⟨fv,av,e,h1.bq hb,h2.bq hb⟩
theorem FactsO.rj {fs:List Fct} (h:FactsO w base v fs):∃ A c,v=.slice A fs.length c∧FactsV w base w.heap.size A fs:=own_reads h.1 h.2
theorem AtomsO.rj {fs:List Atm} (h:AtomsO w base v fs):∃ A c,v=.slice A fs.length c∧AtomsV w base w.heap.size A fs:=own_reads h.1 h.2
theorem IntsO.rj {fs:List Int} (h:IntsO w base v fs):∃ A c,v=.slice A fs.length c∧IntsV w base w.heap.size A fs:=own_reads h.1 h.2
theorem IntsO.readsI {A:Option Addr} {n c:Nat} {fs:List Int} (h:IntsO w base (.slice A n c) fs):n=fs.length∧IntsV w base w.heap.size A fs:=by
 obtain ⟨A',c',e,h'⟩:=h.rj;injection e with e1 e2 e3;subst e1;exact ⟨e2,h'⟩
theorem FactsO.readsI {A:Option Addr} {n c:Nat} {fs:List Fct} (h:FactsO w base (.slice A n c) fs):n=fs.length∧FactsV w base w.heap.size A fs:=by
 obtain ⟨A',c',e,h'⟩:=h.rj;injection e with e1 e2 e3;subst e1;exact ⟨e2,h'⟩
theorem AtomsO.readsI {A:Option Addr} {n c:Nat} {fs:List Atm} (h:AtomsO w base (.slice A n c) fs):n=fs.length∧AtomsV w base w.heap.size A fs:=by
 obtain ⟨A',c',e,h'⟩:=h.rj;injection e with e1 e2 e3;subst e1;exact ⟨e2,h'⟩
theorem AsnO.rj {a:Asn} (h:AsnO w base v a):AsnV w base w.heap.size v a:=by
 obtain ⟨fv,av,e,h1,h2⟩:=h;obtain ⟨A1,c1,rfl,g1⟩:=h1.rj;obtain ⟨A2,c2,rfl,g2⟩:=h2.rj;exact ⟨A1,c1,A2,c2,e,g1,g2⟩
end
theorem infoF:(Tryz.prog.info? tF).map (fun i=>(i.zero,i.size,i.bytes))=some (some (.agg #[.bool false,.int .i64 0,.int .i64 0]),3,24):=by kernel_rfl
theorem infoA:(Tryz.prog.info? tA).map (fun i=>(i.zero,i.size,i.bytes))=some (some (.agg #[.int .i64 0,.int .i64 0,.int .i64 0]),3,24):=by kernel_rfl
theorem infoI:(Tryz.prog.info? tI).map (fun i=>(i.zero,i.size,i.bytes))=some (some (.int .i64 0),1,8):=by kernel_rfl
theorem run_make_rowN {P:Program} (t e:TypeId) (i:TypeInfo) (z:Value) (ht:P.underlying t=some (.slice e)) (hi:P.info? e=some i) (hz:i.zero=some z)
  (kl kc:IntKind) (n c:Nat) (hnc:n≤c) (hbytes:i.bytes * c≤281474976710656) (h63:c≤9223372036854775807) (w:World) :
  (Instr.makeSlice t (.int kl (n:Int)) (.int kc (c:Int))).run P w=.ok (.slice (some ⟨w.heap.size,0,none⟩) n c) (w.alloc (.cells (madeCells z.cells (c * i.size)) e)):=by
 have hb:(i.bytes:Int) * (c:Int)≤281474976710656:=by
  have h:((i.bytes * c:Nat):Int)≤281474976710656:=by omega
  rwa [Int.natCast_mul] at h
 have hr:=run_make (P:=P) w t e i z ht hi hz kl kc n c (by omega) (by omega) hb (by omega);simp only[Int.toNat_natCast] at hr;exact hr
theorem mkF (n:Nat) (h:Lim n) (w:World):(Instr.makeSlice 34 (.int .i64 (n:Int)) (.int .i64 (n:Int))).run Tryz.prog w=.ok (.slice (some ⟨w.heap.size,0,none⟩) n n) (w.alloc (.cells (madeCells #[.bool false,.int .i64 0,.int .i64 0] (n * 3)) tF)):=by
 obtain ⟨i,hi,hz,hs,hb⟩:=info_parts infoF;have:=run_make_rowN (P:=Tryz.prog) 34 tF i _ Tryz.underlying34 hi hz .i64 .i64 n n (Nat.le_refl _) (by rw[hb];unfold Lim at h;omega) (by unfold Lim at h;omega) w
 rwa [hs] at this
theorem mkA (n:Nat) (h:Lim n) (w:World):(Instr.makeSlice 35 (.int .i64 (n:Int)) (.int .i64 (n:Int))).run Tryz.prog w=.ok (.slice (some ⟨w.heap.size,0,none⟩) n n) (w.alloc (.cells (madeCells #[.int .i64 0,.int .i64 0,.int .i64 0] (n * 3)) tA)):=by
 obtain ⟨i,hi,hz,hs,hb⟩:=info_parts infoA;have:=run_make_rowN (P:=Tryz.prog) 35 tA i _ Tryz.underlying35 hi hz .i64 .i64 n n (Nat.le_refl _) (by rw[hb];unfold Lim at h;omega) (by unfold Lim at h;omega) w
 rwa [hs] at this
theorem mkI (n:Nat) (h:Lim n) (w:World):(Instr.makeSlice 31 (.int .i64 (n:Int)) (.int .i64 (n:Int))).run Tryz.prog w=.ok (.slice (some ⟨w.heap.size,0,none⟩) n n) (w.alloc (.cells (madeCells #[.int .i64 0] (n * 1)) tI)):=by
 obtain ⟨i,hi,hz,hs,hb⟩:=info_parts infoI;have:=run_make_rowN (P:=Tryz.prog) 31 tI i _ Tryz.underlying31 hi hz .i64 .i64 n n (Nat.le_refl _) (by rw[hb];unfold Lim at h;omega) (by unfold Lim at h;omega) w
 rwa [hs] at this
abbrev tB:Nat:=4
theorem infoB:(Tryz.prog.info? tB).map (fun i=>(i.zero,i.size,i.bytes))=some (some (.bool false),1,1):=by kernel_rfl
def BoolsO (w:World) (base:Nat) (v:Value) (xs:List Bool):Prop:=w.ownsRow base tB 1 v xs.length (encB xs)∧Lim xs.length
theorem BoolsO.bz {w w':World} {base:Nat} {v:Value} {fs:List Bool} (h:BoolsO w base v fs) (hb:Below w.heap.size w w'):BoolsO w' base v fs:=⟨own_below h.1 hb,h.2⟩
theorem BoolsO.bq {w:World} {base base':Nat} {v:Value} {fs:List Bool} (h:BoolsO w base v fs) (hb:base'≤base):BoolsO w base' v fs:=⟨own_lower h.1 hb,h.2⟩
theorem BoolsO.abv {w w':World} {base:Nat} {v:Value} {lo:Nat} {fs:List Bool} (h:BoolsO w base v fs) (hb:Abv lo w w') (hl:lo≤base):BoolsO w' base v fs:=⟨own_abv h.1 hb hl,h.2⟩
theorem BoolsO.rj {w:World} {base:Nat} {v:Value} {fs:List Bool} (h:BoolsO w base v fs):∃ A c,v=.slice A fs.length c∧BoolsV w base w.heap.size A fs:=own_reads h.1 h.2
theorem mkB (n:Nat) (h:Lim n) (w:World):(Instr.makeSlice 124 (.int .i64 (n:Int)) (.int .i64 (n:Int))).run Tryz.prog w=.ok (.slice (some ⟨w.heap.size,0,none⟩) n n) (w.alloc (.cells (madeCells #[.bool false] (n * 1)) tB)):=by
 obtain ⟨i,hi,hz,hs,hb⟩:=info_parts infoB;have:=run_make_rowN (P:=Tryz.prog) 124 tB i _ Tryz.underlying124 hi hz .i64 .i64 n n (Nat.le_refl _) (by rw[hb];unfold Lim at h;omega) (by unfold Lim at h;omega) w
 rwa [hs] at this
theorem own_row_below {w w' : World} {base : Nat} {e : TypeId} {size : Nat} {v : Value} {n : Nat} {xs : List Value} (h : w.ownsRow base e size v n xs) (hg : w.grownBy w' v.ownBlock) (hb : base ≤ w.heap.size) : Below base w w' :=
  ⟨hg.os, hg.tape, hg.output, hg.size, fun k hk => hg.block k (by omega) (fun e => by have := (h.lt k e.symm).1; omega)⟩
theorem wpList_app {P : Program} {ops : Array Oper} {rest : List Oper} {o : Oper} {a : Act} {Q : Exit → Act → World → Prop} {w : World} (hgd : o.guard = none) (s x : Operand) (t : TypeId)
    (ho : o.op = .call { callee := .builtin .append, args := #[s, x], argTypes := #[t, t] })
    {base : Nat} {e : TypeId} {z : Value} {size bytes : Nat} (ht : P.underlying t = some (.slice e)) (hinfo : (P.info? e).map (fun i => (i.zero, i.size, i.bytes)) = some (some z, size, bytes)) (hzs : z.cells.size = size) (hsz : 0 < size) (hby : bytes ≤ 200)
    {v : Value} {n : Nat} {xs : List Value} (hs : a.eval s = v) (hown : w.ownsRow base e size v n xs)
    (ad : Addr) (news : List Value) (hx : a.eval x = .slice (some ad) 1 1) (hl : news.length = size) (hnews : ∀ j u, news[j]? = some u → w.cell? (ad.add j) = some u) (h1 : ∀ u ∈ news, u.oneCell' = true)
    (hn : n + 1 ≤ 1049600) (hb : base ≤ w.heap.size)
    (h : ∀ g c w', w'.ownsRow base e size (.slice (some ⟨g, 0, none⟩) (n + 1) c) (n + 1) (xs ++ news) → w.grownBy w' v.ownBlock → Below base w w' → wpList P ops Q rest (a.put o.dst (.slice (some ⟨g, 0, none⟩) (n + 1) c)) w') : wpList P ops Q (o :: rest) a w := by
  obtain ⟨i, hi, hz, hsize, hbytes⟩ := info_parts hinfo;refine wpList_append_own w hgd s x t ho base e i z size bytes ht hi hz hsize hbytes hzs hsz v n xs hs hown ad 1 1 news hx (by omega) hnews h1 (by unfold maxLen; omega) (Nat.le_trans (Nat.mul_le_mul hn hby) (by omega)) hb ?_;intro v' w' ho' hg' _;obtain ⟨g, c, rfl, -⟩ := ho'.form (by omega);exact h g c w' ho' hg' (own_row_below hown hg' hb)
theorem cell_box (w : World) (u : Value) (t : TypeId) : (w.alloc (.cells #[u] t)).cell? ⟨w.heap.size, 0, none⟩ = some u := (Blk.new w t #[u]).cell 0
theorem own_empty (w : World) (t : TypeId) (size : Nat) : (w.alloc (.cells #[] t)).ownsRow w.heap.size t size (.slice (some ⟨w.heap.size, 0, none⟩) 0 0) 0 [] :=
  ⟨by simp, .inr ⟨w.heap.size, 0, #[], rfl, Nat.le_refl _, heap_alloc_new w _, Nat.le_refl _, by decide, by simp, by simp⟩⟩
theorem IntsO.empty (w : World) {g : Nat} (hg : g = w.heap.size) : IntsO (w.alloc (.cells #[] tI)) g (.slice (some ⟨g, 0, none⟩) 0 0) [] := by
  subst hg;exact ⟨own_empty w _ _, by simp [Lim]⟩
theorem IntsO.nil (w : World) (base : Nat) : IntsO w base (.slice none 0 0) [] := ⟨World.ownsRow_nil _ _ _ _, by simp [Lim]⟩
theorem IntsO.one (w : World) (n : Int) {base : Nat} (hb : base ≤ w.heap.size) : IntsO (w.alloc (.cells #[.int .i64 n] tI)) base (.slice (some ⟨w.heap.size, 0, none⟩) 1 1) [n] :=
  ⟨own_of_blk (Blk.new w _ _) hb rfl (by intro j hj; obtain rfl : j = 0 := by omega
                                         rfl) (Nat.le_refl _) (by decide) rfl, by simp [Lim]⟩
section
variable {ops : Array Oper} {rest : List Oper} {o : Oper} {a : Act} {Q : Exit → Act → World → Prop} {w : World}
theorem appI (hgd : o.guard = none) (s x : Operand) (ho : o.op = .call { callee := .builtin .append, args := #[s, x], argTypes := #[31, 31] })
    {base : Nat} {v : Value} {xs : List Int} (hs : a.eval s = v) (hown : IntsO w base v xs) (g0 : Nat) (n : Int) (hx : a.eval x = .slice (some ⟨g0, 0, none⟩) 1 1) (hc : w.cell? ⟨g0, 0, none⟩ = some (.int .i64 n))
    (hn : xs.length + 1 ≤ 1049600) (hb : base ≤ w.heap.size)
    (h : ∀ g c w', IntsO w' base (.slice (some ⟨g, 0, none⟩) (xs.length + 1) c) (xs ++ [n]) → w.grownBy w' v.ownBlock → Below base w w' → wpList Tryz.prog ops Q rest (a.put o.dst (.slice (some ⟨g, 0, none⟩) (xs.length + 1) c)) w') : wpList Tryz.prog ops Q (o :: rest) a w := by
  refine wpList_app hgd s x 31 ho Tryz.underlying31 infoI rfl (by decide) (by decide) hs hown.1 ⟨g0, 0, none⟩ [.int .i64 n] hx rfl ?_ (by simp [Value.oneCell']) hn hb ?_
  · intro j u hu
    match j, hu with
    | 0, hu => simp at hu; subst hu; exact hc
  · intro g c w' h1 h2 h3
    exact h g c w' ⟨by simpa [encI] using h1, by simp [Lim]; omega⟩ h2 h3
end
theorem c_impl_isTerm (n:Int) (w:World):Calls Tryz.prog 151 #[.int .i64 n] w fun e w'=>e=.returned (.bool (jq n))∧w=w':=by
 by_cases h:0≤n
 ·by_cases h2:n≤8
  all_goals
   (go_enter Tryz.func151,Tryz.ntmps151);go_wp2;go_ret;exact ⟨by simp[jq,h,h2],rfl⟩
 ·(go_enter Tryz.func151,Tryz.ntmps151);go_wp2;go_ret;exact ⟨by simp[jq];omega,rfl⟩
theorem c_spec_l1Is (n:Int) (w:World):Calls Tryz.prog 174 #[.int .i64 n] w fun e w'=>e=.returned (.bool (jq n))∧w=w':=by
 by_cases h:0≤n
 ·by_cases h2:n≤8
  all_goals
   (go_enter Tryz.func174,Tryz.ntmps174);go_wp2;go_ret;exact ⟨by simp[jq,h,h2],rfl⟩
 ·(go_enter Tryz.func174,Tryz.ntmps174);go_wp2;go_ret;exact ⟨by simp[jq];omega,rfl⟩
theorem c_impl_isProgramVar (n:Int) (w:World):Calls Tryz.prog 105 #[.int .i64 n] w fun e w'=>e=.returned (.bool (isProgB n))∧w=w':=by
 by_cases h:1≤n
 ·by_cases h2:n≤4
  all_goals
   (go_enter Tryz.func105,Tryz.ntmps105);go_wp2;go_ret;exact ⟨by simp[isProgB,h,h2],rfl⟩
 ·(go_enter Tryz.func105,Tryz.ntmps105);go_wp2;go_ret;exact ⟨by simp[isProgB];omega,rfl⟩
theorem c_spec_l8Prog (n:Int) (w:World):Calls Tryz.prog 173 #[.int .i64 n] w fun e w'=>e=.returned (.bool (isProgB n))∧w=w':=by
 by_cases h:1≤n
 ·by_cases h2:n≤4
  all_goals
   (go_enter Tryz.func173,Tryz.ntmps173);go_wp2;go_ret;exact ⟨by simp[isProgB,h,h2],rfl⟩
 ·(go_enter Tryz.func173,Tryz.ntmps173);go_wp2;go_ret;exact ⟨by simp[isProgB];omega,rfl⟩
theorem c_impl_FactValid (f:Fct) (w:World):Calls Tryz.prog 150 #[f.val] w fun r w'=>r=.returned (.bool f.valid)∧Below w.heap.size w w':=by
 (go_enter Tryz.func150,Tryz.ntmps150);(go_wp2_with (go_at_call 151;refine (c_impl_isTerm _ _).mono ?_;rintro e w' ⟨rfl,rfl⟩))
 all_goals
  go_ret;exact ⟨zjD (by simp[Fct.valid, *]),(Below.refl _ _).alloc (Nat.le_refl _) _⟩
theorem c_spec_FactValid (f:Fct) (w:World):Calls Tryz.prog 181 #[f.val] w fun r w'=>r=.returned (.bool f.valid)∧Below w.heap.size w w':=by
 (go_enter Tryz.func181,Tryz.ntmps181);(go_wp2_with (go_at_call 174;refine (c_spec_l1Is _ _).mono ?_;rintro e w' ⟨rfl,rfl⟩))
 all_goals
  go_ret;exact ⟨zjD (by simp[Fct.valid, *]),(Below.refl _ _).alloc (Nat.le_refl _) _⟩
theorem c_impl_atomValid (x:Atm) (w:World):Calls Tryz.prog 88 #[x.val] w fun r w'=>r=.returned (.bool x.valid)∧Below w.heap.size w w':=by
 (go_enter Tryz.func88,Tryz.ntmps88);(go_wp2_with (go_at_call 151;refine (c_impl_isTerm _ _).mono ?_;rintro e w' ⟨rfl,rfl⟩))
 all_goals
  go_ret;exact ⟨zjD (by simp_all [Atm.valid]),(Below.refl _ _).alloc (Nat.le_refl _) _⟩
theorem c_spec_l3Atom (x:Atm) (w:World):Calls Tryz.prog 126 #[x.val] w fun r w'=>r=.returned (.bool x.valid)∧Below w.heap.size w w':=by
 (go_enter Tryz.func126,Tryz.ntmps126);(go_wp2_with (go_at_call 174;refine (c_spec_l1Is _ _).mono ?_;rintro e w' ⟨rfl,rfl⟩))
 all_goals
  go_ret;exact ⟨zjD (by simp_all [Atm.valid]),(Below.refl _ _).alloc (Nat.le_refl _) _⟩
theorem c_impl_FactsValid {lo hi:Nat} (A:Option Addr) (c:Nat) (fs:List Fct) (w:World) (h:FactsV w lo hi A fs):Calls Tryz.prog 87 #[.slice A fs.length c] w fun r w'=>r=.returned (.bool (factsValid fs))∧Below w.heap.size w w':=by
 have hl:=h.le;(go_enter Tryz.func87,Tryz.ntmps87);by_cases h12:12<fs.length
 ·go_wp2;go_ret;exact ⟨zjD (by simp[factsValid];omega),Below.refl _ _⟩
 go_wp2
 go_loopw [10] (fun i wr=>∃ k:Nat,k≤fs.length∧i=.int .i64 k∧aJ (fs.all Fct.valid=(fs.drop k).all Fct.valid)∧Below w.heap.size w wr) (fun i _=>fs.length - (intOf i).toNat)
 case atStart=>exact ⟨0,Nat.zero_le _,rfl,by simp[aJ],Below.refl _ _⟩
 case round=>
  obtain ⟨k,hk,rfl,HA,hB⟩:=hrel;by_cases hlt:k<fs.length
  ·obtain ⟨b,off,rfl,c0,c1,c2⟩:=(h.bz hB).at hlt;(go_wp2_with (go_at_call 150;refine (c_impl_FactValid fs[k] _).mono ?_;rintro e w' ⟨rfl,hB2⟩))
   ·go_ret;refine ⟨zjD ?_,bgo (bbox hB _) hB2⟩;have:=HA.o;rw[all_drop _ _ _ hlt] at this
    simp_all [factsValid]
   ·go_round
    case rel=>
     refine ⟨k+1,by omega,by go_num,?_,bgo (bbox hB _) hB2⟩;have:=HA.o;rw[all_drop _ _ _ hlt] at this
     simp_all [aJ]
    case measure=>simp[intOf];omega
  ·go_wp2;go_ret;have e:k=fs.length:=by omega
   refine ⟨zjD ?_,hB⟩;have:=HA.o;subst e
   simp_all [factsValid]
theorem c_spec_FactsValid {lo hi:Nat} (A:Option Addr) (c:Nat) (fs:List Fct) (w:World) (h:FactsV w lo hi A fs):Calls Tryz.prog 127 #[.slice A fs.length c] w fun r w'=>r=.returned (.bool (factsValid fs))∧Below w.heap.size w w':=by
 have hl:=h.le;(go_enter Tryz.func127,Tryz.ntmps127);go_wp2
 go_loopw [3] (fun i wr=>∃ k:Nat,k≤fs.length∧i=.int .i64 k∧aJ (fs.all Fct.valid=(fs.drop k).all Fct.valid)∧Below w.heap.size w wr) (fun i _=>fs.length - (intOf i).toNat)
 case atStart=>exact ⟨0,Nat.zero_le _,rfl,by simp[aJ],Below.refl _ _⟩
 case round=>
  obtain ⟨k,hk,rfl,HA,hB⟩:=hrel;by_cases hlt:k<fs.length
  ·obtain ⟨b,off,rfl,c0,c1,c2⟩:=(h.bz hB).at hlt;(go_wp2_with (go_at_call 181;refine (c_spec_FactValid fs[k] _).mono ?_;rintro e w' ⟨rfl,hB2⟩))
   ·go_ret;refine ⟨zjD ?_,bgo hB hB2⟩;have:=HA.o;rw[all_drop _ _ _ hlt] at this
    simp_all [factsValid]
   ·go_round
    case rel=>
     refine ⟨k+1,by omega,by go_num,?_,bgo hB hB2⟩;have:=HA.o;rw[all_drop _ _ _ hlt] at this
     simp_all [aJ]
    case measure=>simp[intOf];omega
  ·go_wp2;go_ret;have e:k=fs.length:=by omega
   refine ⟨zjD ?_,hB⟩;have:=HA.o;subst e;rw[List.drop_length,List.all_nil] at this;rw[factsValid,this,Bool.and_true,decide_eq_decide];omega
theorem jz {lo hi:Nat} (v:Value) (a:Asn) (w:World) (h:AsnV w lo hi v a):Calls Tryz.prog 26 #[v] w fun r w'=>r=.returned (.bool a.valid)∧Below w.heap.size w w':=by
 obtain ⟨A1,c1,A2,c2,rfl,h1,h2⟩:=h;have hl1:=h1.le;have hl2:=h2.le;(go_enter Tryz.func26,Tryz.ntmps26);by_cases hv:factsValid a.facts=true
 ·by_cases h6:6<a.atoms.length
  ·(go_wp2_with (go_at_call 87;refine (c_impl_FactsValid A1 c1 a.facts _ (h1.bz (bbox (Below.refl _ w) _))).mono ?_;rintro e w' ⟨rfl,hB2⟩;have hB:=bgo (bbox (Below.refl _ w) _) hB2;obtain ⟨hc,hf⟩:=bcell hB2));go_ret;exact ⟨zjD (by simp[Asn.valid];omega),hB⟩
  (go_wp2_with (go_at_call 87;refine (c_impl_FactsValid A1 c1 a.facts _ (h1.bz (bbox (Below.refl _ w) _))).mono ?_;rintro e w' ⟨rfl,hB2⟩;have hB:=bgo (bbox (Below.refl _ w) _) hB2;obtain ⟨hc,hf⟩:=bcell hB2));clear hc hf hB2
  go_loopw [18] (fun i wr=>∃ k:Nat,k≤a.atoms.length∧i=.int .i64 k∧aJ (a.atoms.all Atm.valid=(a.atoms.drop k).all Atm.valid)∧Below w.heap.size w wr) (fun i _=>a.atoms.length - (intOf i).toNat)
  case atStart=>exact ⟨0,Nat.zero_le _,rfl,by simp[aJ],hB⟩
  case round=>
   clear hB;obtain ⟨k,hk,rfl,HA,hB⟩:=hrel;by_cases hlt:k<a.atoms.length
   ·obtain ⟨b,off,rfl,c0,c1,c2⟩:=(h2.bz hB).at hlt;(go_wp2_with (go_at_call 88;refine (c_impl_atomValid a.atoms[k] _).mono ?_;rintro e w' ⟨rfl,hB2⟩))
    ·go_ret;refine ⟨zjD ?_,bgo (bbox hB _) hB2⟩;have:=HA.o;rw[all_drop _ _ _ hlt] at this
     simp_all [Asn.valid]
    ·go_round
     case rel=>
      refine ⟨k+1,by omega,by go_num,?_,bgo (bbox hB _) hB2⟩;have:=HA.o;rw[all_drop _ _ _ hlt] at this
      simp_all [aJ]
     case measure=>simp[intOf];omega
   ·go_wp2;go_ret;have e:k=a.atoms.length:=by omega
    refine ⟨zjD ?_,hB⟩;have:=HA.o;rw[e,List.drop_length,List.all_nil] at this;simp[Asn.valid,hv,this];omega
 ·(go_wp2_with (go_at_call 87;refine (c_impl_FactsValid A1 c1 a.facts _ (h1.bz (bbox (Below.refl _ w) _))).mono ?_;rintro e w' ⟨rfl,hB2⟩;have hB:=bgo (bbox (Below.refl _ w) _) hB2;obtain ⟨hc,hf⟩:=bcell hB2));go_ret;exact ⟨zjD (by simp[Asn.valid,hv]),hB⟩
theorem vz {lo hi:Nat} (v:Value) (a:Asn) (w:World) (h:AsnV w lo hi v a):Calls Tryz.prog 54 #[v] w fun r w'=>r=.returned (.bool a.valid)∧Below w.heap.size w w':=by
 obtain ⟨A1,c1,A2,c2,rfl,h1,h2⟩:=h;have hl1:=h1.le;have hl2:=h2.le;(go_enter Tryz.func54,Tryz.ntmps54);go_wp2;have hb0:=bbox (Below.refl w.heap.size w) (.cells #[.slice A1 a.facts.length c1,.slice A2 a.atoms.length c2] 37);obtain ⟨W0,hW0⟩:∃ W0,W0=w.alloc (.cells #[.slice A1 a.facts.length c1,.slice A2 a.atoms.length c2] 37):=⟨_,rfl⟩;have hcc:∀ o,W0.cell? ⟨w.heap.size,o,none⟩=#[Value.slice A1 a.facts.length c1,.slice A2 a.atoms.length c2][o]?:=by rw[hW0];exact Blk.cell (Blk.new _ _ _)
 have hsz:w.heap.size<W0.heap.size:=by rw[hW0];simp
 rw[←hW0] at hb0 ⊢;clear hW0
 go_loopw [3] (fun i wr=>∃ k:Nat,k≤a.atoms.length∧i=.int .i64 k∧aJ (a.atoms.all Atm.valid=(a.atoms.drop k).all Atm.valid)∧Below W0.heap.size W0 wr) (fun i _=>a.atoms.length - (intOf i).toNat)
 case atStart=>exact ⟨0,Nat.zero_le _,rfl,by simp[aJ],Below.refl _ _⟩
 case round=>
  obtain ⟨k,hk,rfl,HA,hB1⟩:=hrel;have hB:=bgo hb0 hB1;have q0:wr.cell? ⟨w.heap.size,0,none⟩=some (.slice A1 a.facts.length c1):=(hB1.cell hsz).trans (hcc 0);have q1:wr.cell? ⟨w.heap.size,1,none⟩=some (.slice A2 a.atoms.length c2):=(hB1.cell hsz).trans (hcc 1);by_cases hlt:k<a.atoms.length
  ·obtain ⟨b,off,rfl,c0,c1,c2⟩:=(h2.bz hB).at hlt;(go_wp2_with (go_at_call 126;refine (c_spec_l3Atom a.atoms[k] _).mono ?_;rintro e w' ⟨rfl,hB2⟩))
   ·go_ret;refine ⟨zjD ?_,bgo hB hB2⟩;have:=HA.o;rw[all_drop _ _ _ hlt] at this
    simp_all [Asn.valid]
   ·go_round
    case rel=>
     refine ⟨k+1,by omega,by go_num,?_,bgo hB1 hB2⟩;have:=HA.o;rw[all_drop _ _ _ hlt] at this
     simp_all [aJ]
    case measure=>simp[intOf];omega
  ·obtain rfl:k=a.atoms.length:=by omega
   have:=HA.o;rw[List.drop_length,List.all_nil] at this;have HT:=ax this;clear this HA;by_cases h6:a.atoms.length≤6<;>by_cases hv:factsValid a.facts=true
   all_goals
    go_wp2_with (go_at_call 127;refine (c_spec_FactsValid A1 c1 a.facts _ (h1.bz hB)).mono ?_;rintro e w' ⟨rfl,hB2⟩;obtain ⟨hc,hf⟩:=bcell hB2;have q3:wr.heap.size > w.heap.size:=Nat.lt_of_lt_of_le hsz hB1.size)
    all_goals
     go_ret;refine ⟨zjD ?_,bgo hB hB2⟩;rw[Asn.valid,HT.o,Bool.and_true];clear hc hf q0 q1 hcc HT
     simp_all
     try omega
end
end Go.Proofs.YtjaohekkmlkinaaGreat
