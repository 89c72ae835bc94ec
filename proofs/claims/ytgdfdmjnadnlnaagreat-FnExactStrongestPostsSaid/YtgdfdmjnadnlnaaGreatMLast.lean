/- Words for memory: slices that read as lists of cells, whole blocks, prefixes. Plain lemmas; no program. -/
import Derived.WalkKit
import Derived.Lib.Hide
import Derived.BigQuiet
import Derived.Deep.QuietTactic
import Derived.Deep.AppendLies
import Derived.Deep.Draws
import Derived.Deep.RegionHeld
import Derived.Deep.RegionHeld3
import Derived.OwnWalk
import Derived.StillTailTactics
import Derived.Test.YtgdfdmjnadnlnaaGreatProg
import Derived.ProofKit
import Derived.OpenShut
import Derived.Deep.Slices
import Derived.ChangeSame
import Derived.Laws.BitsAllLaws
import Derived.Laws.BitsLemmas
import Derived.StillTail
set_option linter.unusedSimpArgs false
set_option linter.unusedVariables false
set_option maxRecDepth 100000
set_option maxHeartbeats 25600000
namespace Go.Proofs.YtgdfdmjnadnlnaaGreat
section
open Go Go.RowKit
def aJ (p:Prop):Prop:=p
theorem aJ.o {p:Prop} (h:aJ p):p:=h
theorem ax {p:Prop} (h:p):aJ p:=h
abbrev Lim (n:Nat):Prop:=n≤1049600
theorem ret_bool {a b:Bool} (h:a=b):Ending.returned (.bool a)=.returned (.bool b):=by rw[h]
theorem ret_int {k:IntKind} {a b:Int} (h:a=b):Ending.returned (.int k a)=.returned (.int k b):=by rw[h]
def Rw (w:World) (lo hi size:Nat) (A:Option Addr) (n:Nat) (xs:List Value):Prop:=
 xs.length=n * size∧(0<n * size→∃ b o,A=some ⟨b,o,none⟩∧lo≤b∧b<hi∧∀ j u,xs[j]? = some u→w.cell? ⟨b,o+j,none⟩=some u)
structure Rd (w:World) (lo hi size:Nat) (A:Option Addr) (n:Nat) (xs:List Value):Prop where
 raw:Rw w lo hi size A n xs
 lim:Lim n
section
variable {w w':World} {lo hi lo' hi' size n:Nat} {A:Option Addr} {xs:List Value}
theorem Rw.keep (h:Rw w lo hi size A n xs) (hk:∀ b,lo≤b→b<hi→w'.heap[b]? = w.heap[b]?):Rw w' lo hi size A n xs:=
 ⟨h.1,fun hn=>by
  obtain ⟨b,o,e,h1,h2,hc⟩:=h.2 hn
  exact ⟨b,o,e,h1,h2,fun j u hu=>(World.cell?_of_block (a:=⟨b,o+j,none⟩) (hk b h1 h2)).trans (hc j u hu)⟩⟩
theorem Rw.mono (h:Rw w lo hi size A n xs) (h1:lo'≤lo) (h2:hi≤hi'):Rw w lo' hi' size A n xs:=
 ⟨h.1,fun hn=>by
  obtain ⟨b,o,e,g1,g2,hc⟩:=h.2 hn
  exact ⟨b,o,e,by omega,by omega,hc⟩⟩
theorem Rd.keep (h:Rd w lo hi size A n xs) (hk:∀ b,lo≤b→b<hi→w'.heap[b]? = w.heap[b]?):Rd w' lo hi size A n xs:=⟨h.raw.keep hk,h.lim⟩
theorem Rd.mono (h:Rd w lo hi size A n xs) (h1:lo'≤lo) (h2:hi≤hi'):Rd w lo' hi' size A n xs:=⟨h.raw.mono h1 h2,h.lim⟩
theorem Rd.le (h:Rd w lo hi size A n xs):n≤1049600:=h.lim
theorem Rd.nil (w:World) (lo hi size:Nat) (A:Option Addr):Rd w lo hi size A 0 []:=⟨⟨by simp,fun h=>absurd h (by omega)⟩,by simp[Lim]⟩
theorem Rw.form (h:Rw w lo hi size A n xs) (hn:0<n * size):∃ b o,A=some ⟨b,o,none⟩∧lo≤b∧b<hi∧∀ j u,xs[j]? = some u→w.cell? ⟨b,o+j,none⟩=some u:=h.2 hn
end
def Blk (w:World) (g:Nat) (t:TypeId) (cs:Array Value):Prop:=w.heap[g]? = some (.cells cs t (0,0))
section
variable {w w':World} {g:Nat} {t:TypeId} {cs:Array Value}
theorem Blk.lt (h:Blk w g t cs):g<w.heap.size:=by
 rcases Nat.lt_or_ge g w.heap.size with hlt|hge
 ·exact hlt
 ·unfold Blk at h;rw[Array.getElem?_eq_none hge] at h;cases h
theorem Blk.cell (h:Blk w g t cs) (i:Nat):w.cell? ⟨g,i,none⟩=cs[i]?:=cell_of_row w g i cs t (0,0) h
theorem Blk.frozen (h:Blk w g t cs) (i:Nat):w.frozen? ⟨g,i,none⟩=false:=by
 unfold Blk at h;simp[World.frozen?,h]
theorem Blk.z (h:Blk w g t cs):(∀ i:Nat,w.cell? ⟨g,i,none⟩=cs[i]?)∧(∀ i:Nat,w.frozen? ⟨g,i,none⟩=false)∧g<w.heap.size:=⟨h.cell,h.frozen,h.lt⟩
theorem Blk.new (w:World) (t:TypeId) (cs:Array Value):Blk (w.alloc (.cells cs t)) w.heap.size t cs:=heap_alloc_new w _
theorem Blk.newE {w:World} {g:Nat} {t:TypeId} {cs:Array Value} (hg:g=w.heap.size):Blk (w.alloc (.cells cs t)) g t cs:=by subst hg;exact Blk.new w t cs
theorem Blk.drew (h:Blk w g t cs):Blk w.drew g t cs:=h
theorem Blk.drewN (h:Blk w g t cs) (n:Nat):Blk (w.drewN n) g t cs:=h
theorem Blk.alloc (h:Blk w g t cs) (o:Obj):Blk (w.alloc o) g t cs:=(Below.heap_alloc w o g h.lt).trans h
theorem Blk.set_ (h:Blk w g t cs) (i:Nat) (u:Value):Blk (w.setCell ⟨g,i,none⟩ u) g t (cs.setIfInBounds i u):=by
 unfold Blk at h ⊢;simp[World.setCell,Array.getElem?_modify,h]
theorem Blk.far (h:Blk w g t cs) {p:Addr} (hp:g≠p.block) (u:Value):Blk (w.setCell p u) g t cs:=(Below.heap_setCell w p u g hp).trans h
theorem Blk.bz {B:Nat} (h:Blk w g t cs) (hb:Below B w w') (hg:g<B):Blk w' g t cs:=(hb.block g hg).trans h
theorem Blk.grown {row:Option Nat} (h:Blk w g t cs) (hb:w.grownBy w' row) (hg:some g≠row):Blk w' g t cs:=(hb.block g h.lt hg).trans h
theorem Blk.ne_ {g2:Nat} {t2:TypeId} {cs2:Array Value} (h:Blk w g t cs) (h2:Blk w g2 t2 cs2) (ht:t≠t2):g≠g2:=by
 rintro rfl;unfold Blk at h h2;rw[h] at h2;injection h2 with h2;injection h2 with _ h3;exact ht h3
end
def Pre (cs:Array Value) (L:List Value) (m:Nat):Prop:=∀ j,j<m→cs[j]? = L[j]?
theorem Pre.zero (cs:Array Value) (L:List Value):Pre cs L 0:=fun j h=>absurd h (by omega)
theorem Pre.set1 {cs:Array Value} {L:List Value} {k:Nat} {u:Value} (h:Pre cs L k) (hs:k<cs.size) (h0:L[k]? = some u):Pre (cs.setIfInBounds k u) L (k+1):=by
 intro j hj;by_cases e:j=k
 ·subst e;rw[Array.getElem?_setIfInBounds_self,if_pos hs,h0]
 ·rw[Array.getElem?_setIfInBounds_ne (by omega)];exact h j (by omega)
theorem Pre.set3 {cs:Array Value} {L:List Value} {k:Nat} {u0 u1 u2:Value} (h:Pre cs L (k * 3)) (hs:k * 3+2<cs.size) (h0:L[k*3]? = some u0) (h1:L[k*3+1]? = some u1) (h2:L[k*3+2]? = some u2) :
  Pre (((cs.setIfInBounds (k*3) u0).setIfInBounds (k*3+1) u1).setIfInBounds (k*3+2) u2) L ((k+1) * 3):=by
 rw[show (k+1) * 3=k * 3+1+1+1 from by omega];exact ((h.set1 (by omega) h0).set1 (by simp;omega) h1).set1 (by simp;omega) h2
theorem Pre.take {cs:Array Value} {L:List Value} (h:Pre cs L L.length):cs.toList.take L.length=L:=by
 apply List.ext_getElem?;intro j;rw[List.getElem?_take];by_cases hj:j<L.length
 ·rw[if_pos hj];simpa using h j hj
 ·rw[if_neg hj];simp;omega
theorem own_of_blk {w:World} {g base n size cap:Nat} {t:TypeId} {cs:Array Value} {L:List Value} (h:Blk w g t cs) (hb:base≤g) (hL:L.length=n * size) (hp:Pre cs L (n * size)) (hnc:n≤cap) (hc:cap≤maxLen) (hs:cs.size=cap * size) :
  w.ownsRow base t size (.slice (some ⟨g,0,none⟩) n cap) n L:=by
 refine ⟨hL,.inr ⟨g,cap,cs,rfl,hb,h,hnc,hc,hs,?_⟩⟩;rw[←hL] at hp ⊢;exact hp.take
theorem own_reads {w:World} {base:Nat} {e:TypeId} {size:Nat} {v:Value} {n:Nat} {xs:List Value} (h:w.ownsRow base e size v n xs) (hl:Lim n):∃ A c,v=.slice A n c∧Rd w base w.heap.size size A n xs:=by
 obtain ⟨h1,h2⟩:=h;rcases h2 with ⟨rfl,rfl⟩|⟨g,cap,cur,rfl,hb,hg,hn,hm,hs,ht⟩
 ·exact ⟨none,0,rfl,⟨⟨h1,fun hn=>absurd hn (by omega)⟩,hl⟩⟩
 ·refine ⟨_,_,rfl,⟨⟨h1,fun hn0=>⟨g,0,rfl,hb,Blk.lt hg,fun j u hu=>?_⟩⟩,hl⟩⟩;rw[Nat.zero_add,cell_of_row w g j cur e (0,0) hg];rw[←ht,List.getElem?_take] at hu
  split at hu
  ·simpa using hu
  ·cases hu
theorem own_below {w w':World} {base:Nat} {e:TypeId} {size:Nat} {v:Value} {n:Nat} {xs:List Value} (h:w.ownsRow base e size v n xs) (hb:Below w.heap.size w w'):w'.ownsRow base e size v n xs:=by
 obtain ⟨h1,h2⟩:=h;refine ⟨h1,?_⟩;rcases h2 with h2|⟨g,cap,cur,hv,hg,hh,r⟩
 ·exact Or.inl h2
 ·exact Or.inr ⟨g,cap,cur,hv,hg,(hb.block g (Blk.lt hh)).trans hh,r⟩
theorem own_lower {w:World} {base base':Nat} {e:TypeId} {size:Nat} {v:Value} {n:Nat} {xs:List Value} (h:w.ownsRow base e size v n xs) (hb:base'≤base):w.ownsRow base' e size v n xs:=by
 obtain ⟨h1,h2⟩:=h;refine ⟨h1,?_⟩;rcases h2 with h2|⟨g,cap,cur,hv,hg,r⟩
 ·exact Or.inl h2
 ·exact Or.inr ⟨g,cap,cur,hv,by omega,r⟩
theorem below_drewN {B:Nat} {a w:World} (h:Below B a w) (n:Nat):Below B a (w.drewN n):=⟨h.os,h.tape,h.output,h.size,h.block⟩
theorem btoB {w w':World} {B:Nat} (h:Below w.heap.size w w') (hB:B≤w.heap.size):Below B w w':=h.mono hB
theorem bgo {w a b:World} (h:Below w.heap.size w a) (h2:Below a.heap.size a b):Below w.heap.size w b:=h.trans (h2.mono h.size)
theorem bbox {w a:World} (h:Below w.heap.size w a) (o:Obj):Below w.heap.size w (a.alloc o):=h.alloc h.size o
theorem Rw.bz {w w':World} {lo hi size n:Nat} {A:Option Addr} {xs:List Value} (h:Rw w lo hi size A n xs) (hb:Below w.heap.size w w'):Rw w' lo hi size A n xs:=
 ⟨h.1,fun hn=>by
  obtain ⟨b,o,e,h1,h2,hc⟩:=h.2 hn;have h0:=h.1;have hx:xs[0]? = some (xs[0]'(by omega)):=List.getElem?_eq_getElem (by omega);have hlt:b<w.heap.size:=block_lt_of_cell (hc 0 _ hx)
  exact ⟨b,o,e,h1,h2,fun j u hu=>(World.cell?_of_block (a:=⟨b,o+j,none⟩) (hb.block b hlt)).trans (hc j u hu)⟩⟩
theorem Rd.bz {w w':World} {lo hi size n:Nat} {A:Option Addr} {xs:List Value} (h:Rd w lo hi size A n xs) (hb:Below w.heap.size w w'):Rd w' lo hi size A n xs:=⟨h.raw.bz hb,h.lim⟩
theorem Rd.setb {w:World} {lo hi size n:Nat} {A:Option Addr} {xs:List Value} (h:Rd w lo hi size A n xs) {p:Addr} (hp:p.block<lo∨hi≤p.block) (u:Value):Rd (w.setCell p u) lo hi size A n xs:=
 h.keep fun b h1 h2=>Below.heap_setCell w p u b (by omega)
theorem Blk.nz {w w':World} {g:Nat} {t:TypeId} {cs:Array Value} (h:Blk w g t cs) (hb:Below w.heap.size w w'):Blk w' g t cs:=h.bz hb h.lt
structure Abv (lo:Nat) (w w':World):Prop where
 size:w.heap.size≤w'.heap.size
 block:∀ k,lo≤k→k<w.heap.size→w'.heap[k]? = w.heap[k]?
theorem Abv.refl (lo:Nat) (w:World):Abv lo w w:=⟨Nat.le_refl _,fun _ _ _=>rfl⟩
theorem Abv.trans {lo:Nat} {a b c:World} (h:Abv lo a b) (k:Abv lo b c):Abv lo a c:=
 ⟨Nat.le_trans h.size k.size,fun i h1 h2=>(k.block i h1 (Nat.lt_of_lt_of_le h2 h.size)).trans (h.block i h1 h2)⟩
theorem Abv.setCell {lo:Nat} {a b:World} (h:Abv lo a b) {p:Addr} (hp:p.block<lo) (u:Value):Abv lo a (b.setCell p u):=
 h.trans ⟨by simp,fun k h1 _=>Below.heap_setCell b p u k (by omega)⟩
theorem Abv.alloc {lo:Nat} {a b:World} (h:Abv lo a b) (o:Obj):Abv lo a (b.alloc o):=
 h.trans ⟨by simp,fun k _ h2=>Below.heap_alloc b o k h2⟩
theorem Abv.nz {lo:Nat} {a b c:World} (h:Abv lo a b) (hb:Below b.heap.size b c):Abv lo a c:=
 h.trans ⟨hb.size,fun k _ h2=>hb.block k h2⟩
theorem Rw.abv {w w':World} {lo hi lo' size n:Nat} {A:Option Addr} {xs:List Value} (h:Rw w lo hi size A n xs) (hb:Abv lo' w w') (hl:lo'≤lo):Rw w' lo hi size A n xs:=
 ⟨h.1,fun hn=>by
  obtain ⟨b,o,e,h1,h2,hc⟩:=h.2 hn;have h0:=h.1;have hx:xs[0]? = some (xs[0]'(by omega)):=List.getElem?_eq_getElem (by omega);have hlt:b<w.heap.size:=block_lt_of_cell (hc 0 _ hx)
  exact ⟨b,o,e,h1,h2,fun j u hu=>(World.cell?_of_block (a:=⟨b,o+j,none⟩) (hb.block b (by omega) hlt)).trans (hc j u hu)⟩⟩
theorem Rd.abv {w w':World} {lo hi lo' size n:Nat} {A:Option Addr} {xs:List Value} (h:Rd w lo hi size A n xs) (hb:Abv lo' w w') (hl:lo'≤lo):Rd w' lo hi size A n xs:=⟨h.raw.abv hb hl,h.lim⟩
theorem own_abv {w w':World} {base lo:Nat} {e:TypeId} {size:Nat} {v:Value} {n:Nat} {xs:List Value} (h:w.ownsRow base e size v n xs) (hb:Abv lo w w') (hl:lo≤base):w'.ownsRow base e size v n xs:=by
 obtain ⟨h1,h2⟩:=h;refine ⟨h1,?_⟩;rcases h2 with h2|⟨g,cap,cur,hv,hg,hh,r⟩
 ·exact Or.inl h2
 ·exact Or.inr ⟨g,cap,cur,hv,hg,(hb.block g (by omega) (Blk.lt hh)).trans hh,r⟩
theorem bcell {W w1:World} (hb:Below W.heap.size W w1):(∀ b o,b<W.heap.size→w1.cell? ⟨b,o,none⟩=W.cell? ⟨b,o,none⟩)∧(∀ b o,b<W.heap.size→w1.frozen? ⟨b,o,none⟩=W.frozen? ⟨b,o,none⟩):=
 ⟨fun b o h=>hb.cell (p:=⟨b,o,none⟩) h,fun b o h=>hb.frozen (p:=⟨b,o,none⟩) h⟩
theorem bel {B:Nat} {a w:World} (h:Below B a w:=by repeat (first|(with_reducible exact Below.refl _ _)|(with_reducible assumption)|(with_reducible apply bbox)|((with_reducible apply Below.setCell);(case hp=>(first|exact Nat.le_refl _|(simp;done)|(simp;omega)|(simp only;omega)|omega)))|(with_reducible apply Below.drew)|(with_reducible apply below_drewN))):Below B a w:=h
theorem blks {w:World} {g:Nat} {t:TypeId} {cs:Array Value} (h:Blk w g t cs:=by repeat (first|(with_reducible assumption)|(with_reducible exact Blk.new _ _ _)|((with_reducible apply Blk.far);(case hp=>(first|exact Nat.le_refl _|(simp;done)|(simp;omega)|(simp only;omega)|omega)))|(with_reducible apply Blk.set_)|((with_reducible refine Blk.newE ?_);(simp;done))|(with_reducible apply Blk.alloc)|(with_reducible apply Blk.drew)|(with_reducible apply Blk.drewN))):Blk w g t cs:=h
/-! shorter words for the moves through a drawn region -/
theorem zA {α:Type} {xs:List α} {i:Nat} (h:i<xs.toArray.size):xs.toArray[i]=xs[i]'(by simpa using h):=List.getElem_toArray h
theorem zB {α:Type} {a:α} {ls:List α} (h:0<(a :: ls).length):(a :: ls)[0]=a:=rfl
theorem zC {α:Type} {a:α} {ls:List α} {i:Nat} (h:i+1<(a :: ls).length):(a :: ls)[i+1]=ls[i]'(Nat.lt_of_succ_lt_succ h):=rfl
theorem zD {α:Type} {xs:List α} {i:Nat} {v:α}:xs.toArray.setIfInBounds i v=(xs.set i v).toArray:=List.setIfInBounds_toArray _ _ _
theorem zE {α:Type} {a b:α} {ls:List α}:(a :: ls).set 0 b=b :: ls:=rfl
theorem zF {α:Type} {a b:α} {ls:List α} {i:Nat}:(a :: ls).set (i+1) b=a :: ls.set i b:=rfl
/-! boxes made at the beginning -/
theorem bx1 {w:World} {F:World→Prop} {t1:TypeId} {c1:Array Value} (h:∀ W,Blk W w.heap.size t1 c1→Below w.heap.size w W→W.heap.size=w.heap.size+1→F W):F (w.alloc (.cells c1 t1)):=
 h _ (Blk.new _ _ _) ((Below.refl _ _).alloc (Nat.le_refl _) _) (by simp)
theorem bx2 {w:World} {F:World→Prop} {t1 t2:TypeId} {c1 c2:Array Value} (h:∀ W,Blk W w.heap.size t1 c1→Blk W (w.heap.size+1) t2 c2→Below w.heap.size w W→W.heap.size=w.heap.size+2→F W):F ((w.alloc (.cells c1 t1)).alloc (.cells c2 t2)):=
 h _ ((Blk.new _ _ _).alloc _) (by have:=Blk.new (w.alloc (.cells c1 t1)) t2 c2;rwa [World.size_alloc] at this) (((Below.refl _ _).alloc (Nat.le_refl _) _).alloc (by simp) _) (by simp)
theorem bx3 {w:World} {F:World→Prop} {t1 t2 t3:TypeId} {c1 c2 c3:Array Value} (h:∀ W,Blk W w.heap.size t1 c1→Blk W (w.heap.size+1) t2 c2→Blk W (w.heap.size+1+1) t3 c3→Below w.heap.size w W→W.heap.size=w.heap.size+3→F W):F (((w.alloc (.cells c1 t1)).alloc (.cells c2 t2)).alloc (.cells c3 t3)):=
 h _ (((Blk.new _ _ _).alloc _).alloc _) ((by have:=Blk.new (w.alloc (.cells c1 t1)) t2 c2;rwa [World.size_alloc] at this:Blk _ (w.heap.size+1) t2 c2).alloc _) (by have:=Blk.new ((w.alloc (.cells c1 t1)).alloc (.cells c2 t2)) t3 c3;rwa [World.size_alloc,World.size_alloc] at this) ((((Below.refl _ _).alloc (Nat.le_refl _) _).alloc (by simp) _).alloc (by simp;omega) _) (by simp)
theorem zz:(∀ {α:Type} {xs:List α} {i:Nat} (h:i<xs.toArray.size),xs.toArray[i]=xs[i]'(by simpa using h))∧(∀ {α:Type} {a:α} {ls:List α} (_:0<(a :: ls).length),(a :: ls)[0]=a)∧(∀ {α:Type} {a:α} {ls:List α} {i:Nat} (h:i+1<(a :: ls).length),(a :: ls)[i+1]=ls[i]'(Nat.lt_of_succ_lt_succ h))∧
  (∀ {α:Type} {xs:List α} {i:Nat} {v:α},xs.toArray.setIfInBounds i v=(xs.set i v).toArray)∧(∀ {α:Type} {a b:α} {ls:List α},(a :: ls).set 0 b=b :: ls)∧(∀ {α:Type} {a b:α} {ls:List α} {i:Nat},(a :: ls).set (i+1) b=a :: ls.set i b)∧
  (∀ (a:Act) (d:Tmp) (v:Value),a.put (some d) v = { a with tmps:=a.tmps.setIfInBounds d v })∧(∀ (a:Act) (v:Value),a.put none v=a):=
 ⟨fun h=>zA h,fun h=>zB h,fun h=>zC h,zD,zE,zF,fun _ _ _=>rfl,fun _ _=>rfl⟩
section
variable {P:Program} {md:Region.Mode} {ops:Array Oper} {S:World→Prop} {Q:Exit→Act→World→Prop} {fuel:Nat} {listed:Array Bool} {a:Act} {w:World}
theorem tk (i:Nat) (v:Value) {o:Oper} (hi:ops[i]? = some o) (hy:∀ w,S w→(execOp a.eval o).run P w=.ok (.value v) w) (hS:S w) (h:wpAnyH P md ops Q S fuel (listed.setIfInBounds i true) (a.put o.dst v) w)
  (hn:Region.wanted o (yielded ops a.tmps)=true:=by rfl) (hs:Region.noSelect ops=true:=by kernel_rfl) (hf:Region.free md ops listed i=true:=by kernel_rfl) (hr:(Region.ready md ops listed).contains i=true:=by kernel_rfl) (hQ:∀ c a w,Q (.panic c) (a.put o.dst v) w→Q (.panic c) a w:=by exact fun _ _ _ h=>h):wpAnyH P md ops Q S (fuel+1) listed a w:=
 wpAnyH_take hi hs hf hr hQ (Or.inl ⟨hn,hy⟩) hS h
theorem tk2 (i:Nat) {v:Value} {o:Oper} (hi:ops[i]? = some o) (hS:S w)
  (hy:∀ w,S w→(execOp a.eval o).run P w=.ok (.value v) w:=by (intro w hSw;(try dsimp only at hSw);go_split_ands;(try simp only[zz]);go_simp;(try with_reducible rfl)))
  (hn:Region.wanted o (yielded ops a.tmps)=true:=by rfl) (hs:Region.noSelect ops=true:=by kernel_rfl) (hf:Region.free md ops listed i=true:=by kernel_rfl) (hr:(Region.ready md ops listed).contains i=true:=by kernel_rfl) (hQ:∀ c a w,Q (.panic c) (a.put o.dst v) w→Q (.panic c) a w:=by exact fun _ _ _ h=>h)
  (h:wpAnyH P md ops Q S fuel (listed.setIfInBounds i true) (a.put o.dst v) w):wpAnyH P md ops Q S (fuel+1) listed a w:=
 tk i v hi hy hS h hn hs hf hr hQ
theorem dn1 {Q:Exit→Act→World→Prop} (h:Q .normal a w) (hr:Region.ready md ops listed=[]:=by kernel_rfl):wpAnyH P md ops (NoPanic Q) S fuel listed a w:=wpAnyH_done hr (NoPanic.normal h) _
theorem rdd (i j:Nat) {o o':Oper} (ho:ops[i]? = some o) (ho':ops[j]? = some o') (h:∀ K':Act→World→Prop,Shut (∀ a w,S w→(S w→wpAnyH P md ops Q S fuel (listed.setIfInBounds i true) a w)→K' a w)→if Region.wanted o (yielded ops a.tmps)=true then Oper.wp P o a w K' Q else K' (a.put o.dst undef) w)
  (h':∀ K':Act→World→Prop,Shut (∀ a w,S w→(S w→wpAnyH P md ops Q S fuel (listed.setIfInBounds j true) a w)→K' a w)→if Region.wanted o' (yielded ops a.tmps)=true then Oper.wp P o' a w K' Q else K' (a.put o'.dst undef) w)
  (hr:Region.ready md ops listed=[i,j]:=by kernel_rfl):wpAnyH P md ops Q S (fuel+1) listed a w:=wpAnyH_ready hr (by simp) (AllReadyH.cons ho h (AllReadyH.cons ho' h' AllReadyH.nil))
theorem tku (i:Nat) {o:Oper} (hi:ops[i]? = some o) (hS:S w) (h:wpAnyH P md ops Q S fuel (listed.setIfInBounds i true) (a.put o.dst undef) w)
  (hn:Region.wanted o (yielded ops a.tmps)=false:=by rfl) (hs:Region.noSelect ops=true:=by kernel_rfl) (hf:Region.free md ops listed i=true:=by kernel_rfl) (hr:(Region.ready md ops listed).contains i=true:=by kernel_rfl) (hQ:∀ c a w,Q (.panic c) (a.put o.dst undef) w→Q (.panic c) a w:=by exact fun _ _ _ h=>h):wpAnyH P md ops Q S (fuel+1) listed a w:=
 wpAnyH_take hi hs hf hr hQ (Or.inr ⟨hn,rfl⟩) hS h
theorem rdc (i:Nat) {o:Oper} (ho:ops[i]? = some o) (h:∀ K':Act→World→Prop,Shut (∀ a w,S w→(S w→wpAnyH P md ops Q S fuel (listed.setIfInBounds i true) a w)→K' a w)→if Region.wanted o (yielded ops a.tmps)=true then Oper.wp P o a w K' Q else K' (a.put o.dst undef) w)
  (hr:Region.ready md ops listed=[i]:=by kernel_rfl):wpAnyH P md ops Q S (fuel+1) listed a w:=wpAnyH_ready hr (by simp) (AllReadyH.cons ho h AllReadyH.nil)
end
structure Fct where
 eq:Bool
 a:Int
 b:Int
deriving DecidableEq,Inhabited
structure Atm where
 kind:Int
 a:Int
 b:Int
deriving DecidableEq,Inhabited
structure Asn where
 facts:List Fct
 atoms:List Atm
deriving DecidableEq,Inhabited
structure Ste where
 values:List Int
 heap:List Int
deriving DecidableEq,Inhabited
def Fct.enc (f:Fct):List Value:=[.bool f.eq,.int .i64 f.a,.int .i64 f.b]
def Atm.enc (x:Atm):List Value:=[.int .i64 x.kind,.int .i64 x.a,.int .i64 x.b]
abbrev Fct.val (f:Fct):Value:=.agg #[.bool f.eq,.int .i64 f.a,.int .i64 f.b]
abbrev Atm.val (x:Atm):Value:=.agg #[.int .i64 x.kind,.int .i64 x.a,.int .i64 x.b]
theorem flat3 {α:Type} (f0 f1 f2:α→Value) (fs:List α) (k:Nat) (hk:k<fs.length) :
  (fs.flatMap fun x=>[f0 x,f1 x,f2 x])[k*3]? = some (f0 fs[k])∧(fs.flatMap fun x=>[f0 x,f1 x,f2 x])[k*3+1]? = some (f1 fs[k])∧(fs.flatMap fun x=>[f0 x,f1 x,f2 x])[k*3+2]? = some (f2 fs[k]):=by
 induction fs generalizing k with
 | nil=>simp at hk
 | cons f fs ih=>
  cases k with
  | zero=>simp
  | succ k=>
   have:=ih k (by simpa using hk);simp only[List.flatMap_cons,List.getElem_cons_succ,List.getElem?_append,List.length_cons,List.length_nil];rw[if_neg (by omega),if_neg (by omega),if_neg (by omega)];have e1:(k+1)*3 - (0+1+1+1)=k*3:=by omega
   have e2:(k+1)*3+1 - (0+1+1+1)=k*3+1:=by omega
   have e3:(k+1)*3+2 - (0+1+1+1)=k*3+2:=by omega
   rw[e1,e2,e3];exact this
theorem len3 {α:Type} (f0 f1 f2:α→Value) (fs:List α):(fs.flatMap fun x=>[f0 x,f1 x,f2 x]).length=fs.length * 3:=by
 induction fs with
 | nil=>rfl
 | cons f fs ih=>simp only[List.flatMap_cons,List.length_append,ih,List.length_cons,List.length_nil];omega
abbrev encF (fs:List Fct):List Value:=fs.flatMap fun f=>[.bool f.eq,.int .i64 f.a,.int .i64 f.b]
abbrev encA (xs:List Atm):List Value:=xs.flatMap fun x=>[.int .i64 x.kind,.int .i64 x.a,.int .i64 x.b]
abbrev encI (xs:List Int):List Value:=xs.map (Value.int .i64)
abbrev encB (xs:List Bool):List Value:=xs.map Value.bool
def BoolsV (w:World) (lo hi:Nat) (A:Option Addr) (xs:List Bool):Prop:=Rd w lo hi 1 A xs.length (encB xs)
def FactsV (w:World) (lo hi:Nat) (A:Option Addr) (fs:List Fct):Prop:=Rd w lo hi 3 A fs.length (encF fs)
def AtomsV (w:World) (lo hi:Nat) (A:Option Addr) (xs:List Atm):Prop:=Rd w lo hi 3 A xs.length (encA xs)
def IntsV (w:World) (lo hi:Nat) (A:Option Addr) (xs:List Int):Prop:=Rd w lo hi 1 A xs.length (encI xs)
def AsnV (w:World) (lo hi:Nat) (v:Value) (a:Asn):Prop:=
 ∃ A1 c1 A2 c2,v=.agg #[.slice A1 a.facts.length c1,.slice A2 a.atoms.length c2]∧FactsV w lo hi A1 a.facts∧AtomsV w lo hi A2 a.atoms
section
variable {w w':World} {lo hi:Nat} {A:Option Addr}
theorem FactsV.at {fs:List Fct} (h:FactsV w lo hi A fs) {k:Nat} (hk:k<fs.length):∃ b o,A=some ⟨b,o,none⟩∧w.cell? ⟨b,o+k*3,none⟩=some (.bool fs[k].eq)∧w.cell? ⟨b,o+k*3+1,none⟩=some (.int .i64 fs[k].a)∧w.cell? ⟨b,o+k*3+2,none⟩=some (.int .i64 fs[k].b):=by
 obtain ⟨b,o,e,_,hb,hc⟩:=h.raw.2 (by omega);obtain ⟨h0,h1,h2⟩:=flat3 (fun f:Fct=>.bool f.eq) (fun f=>.int .i64 f.a) (fun f=>.int .i64 f.b) fs k hk;exact ⟨b,o,e,hc _ _ h0,hc _ _ h1,hc _ _ h2⟩
theorem AtomsV.at {fs:List Atm} (h:AtomsV w lo hi A fs) {k:Nat} (hk:k<fs.length):∃ b o,A=some ⟨b,o,none⟩∧w.cell? ⟨b,o+k*3,none⟩=some (.int .i64 fs[k].kind)∧w.cell? ⟨b,o+k*3+1,none⟩=some (.int .i64 fs[k].a)∧w.cell? ⟨b,o+k*3+2,none⟩=some (.int .i64 fs[k].b):=by
 obtain ⟨b,o,e,_,hb,hc⟩:=h.raw.2 (by omega);obtain ⟨h0,h1,h2⟩:=flat3 (fun f:Atm=>.int .i64 f.kind) (fun f=>.int .i64 f.a) (fun f=>.int .i64 f.b) fs k hk;exact ⟨b,o,e,hc _ _ h0,hc _ _ h1,hc _ _ h2⟩
theorem IntsV.at {fs:List Int} (h:IntsV w lo hi A fs) {k:Nat} (hk:k<fs.length):∃ b o,A=some ⟨b,o,none⟩∧w.cell? ⟨b,o+k,none⟩=some (.int .i64 fs[k]):=by
 obtain ⟨b,o,e,_,hb,hc⟩:=h.raw.2 (by omega);exact ⟨b,o,e,hc _ _ (by simp[List.getElem?_eq_getElem hk])⟩
theorem BoolsV.at {fs:List Bool} (h:BoolsV w lo hi A fs) {k:Nat} (hk:k<fs.length):∃ b o,A=some ⟨b,o,none⟩∧w.cell? ⟨b,o+k,none⟩=some (.bool fs[k]):=by
 obtain ⟨b,o,e,_,hb,hc⟩:=h.raw.2 (by omega);exact ⟨b,o,e,hc _ _ (by simp[List.getElem?_eq_getElem hk])⟩
theorem BoolsV.bz {fs:List Bool} (h:BoolsV w lo hi A fs) (hb:Below w.heap.size w w'):BoolsV w' lo hi A fs:=Rd.bz h hb
theorem BoolsV.cl {b o:Nat} {fs:List Bool} (h:BoolsV w lo hi (some ⟨b,o,none⟩) fs) {k:Nat} (hk:k<fs.length):w.cell? ⟨b,o+k,none⟩=some (.bool fs[k]):=by
 obtain ⟨b',o',e,hc⟩:=h.at hk;simp only[Option.some.injEq,Addr.mk.injEq,and_true] at e;obtain ⟨rfl,rfl⟩:=e;exact hc
theorem IntsV.cl {b o:Nat} {fs:List Int} (h:IntsV w lo hi (some ⟨b,o,none⟩) fs) {k:Nat} (hk:k<fs.length):w.cell? ⟨b,o+k,none⟩=some (.int .i64 fs[k]):=by
 obtain ⟨b',o',e,hc⟩:=h.at hk;simp only[Option.some.injEq,Addr.mk.injEq,and_true] at e;obtain ⟨rfl,rfl⟩:=e;exact hc
theorem FactsV.bz {fs:List Fct} (h:FactsV w lo hi A fs) (hb:Below w.heap.size w w'):FactsV w' lo hi A fs:=Rd.bz h hb
theorem AtomsV.bz {fs:List Atm} (h:AtomsV w lo hi A fs) (hb:Below w.heap.size w w'):AtomsV w' lo hi A fs:=Rd.bz h hb
theorem IntsV.bz {fs:List Int} (h:IntsV w lo hi A fs) (hb:Below w.heap.size w w'):IntsV w' lo hi A fs:=Rd.bz h hb
theorem AsnV.bz {v:Value} {a:Asn} (h:AsnV w lo hi v a) (hb:Below w.heap.size w w'):AsnV w' lo hi v a:=by
 obtain ⟨A1,c1,A2,c2,e,h1,h2⟩:=h;exact ⟨A1,c1,A2,c2,e,h1.bz hb,h2.bz hb⟩
theorem AsnV.setb {v:Value} {a:Asn} (h:AsnV w lo hi v a) {p:Addr} (hp:p.block<lo∨hi≤p.block) (u:Value):AsnV (w.setCell p u) lo hi v a:=by
 obtain ⟨A1,c1,A2,c2,e,h1,h2⟩:=h;exact ⟨A1,c1,A2,c2,e,Rd.setb h1 hp u,Rd.setb h2 hp u⟩
theorem AsnV.abv {lo':Nat} {v:Value} {a:Asn} (h:AsnV w lo hi v a) (hb:Abv lo' w w') (hl:lo'≤lo):AsnV w' lo hi v a:=by
 obtain ⟨A1,c1,A2,c2,e,h1,h2⟩:=h;exact ⟨A1,c1,A2,c2,e,Rd.abv h1 hb hl,Rd.abv h2 hb hl⟩
theorem AsnV.mono {v:Value} {a:Asn} {lo' hi':Nat} (h:AsnV w lo hi v a) (e1:lo'≤lo) (e2:hi≤hi'):AsnV w lo' hi' v a:=by
 obtain ⟨A1,c1,A2,c2,e,h1,h2⟩:=h;exact ⟨A1,c1,A2,c2,e,Rd.mono h1 e1 e2,Rd.mono h2 e1 e2⟩
theorem IntsV.mono {fs:List Int} {lo' hi':Nat} (h:IntsV w lo hi A fs) (e1:lo'≤lo) (e2:hi≤hi'):IntsV w lo' hi' A fs:=Rd.mono h e1 e2
theorem FactsV.mono {fs:List Fct} {lo' hi':Nat} (h:FactsV w lo hi A fs) (e1:lo'≤lo) (e2:hi≤hi'):FactsV w lo' hi' A fs:=Rd.mono h e1 e2
theorem AtomsV.mono {fs:List Atm} {lo' hi':Nat} (h:AtomsV w lo hi A fs) (e1:lo'≤lo) (e2:hi≤hi'):AtomsV w lo' hi' A fs:=Rd.mono h e1 e2
end
def FactsR (w:World) (A:Option Addr) (fs:List Fct):Prop:=Rw w 0 w.heap.size 3 A fs.length (encF fs)∧fs.length≤9223372036854775807
def AtomsR (w:World) (A:Option Addr) (xs:List Atm):Prop:=Rw w 0 w.heap.size 3 A xs.length (encA xs)∧xs.length≤9223372036854775807
def IntsR (w:World) (A:Option Addr) (xs:List Int):Prop:=Rw w 0 w.heap.size 1 A xs.length (encI xs)∧xs.length≤9223372036854775807
def AsnR (w:World) (v:Value) (a:Asn):Prop:=
 ∃ A1 c1 A2 c2,v=.agg #[.slice A1 a.facts.length c1,.slice A2 a.atoms.length c2]∧FactsR w A1 a.facts∧AtomsR w A2 a.atoms
theorem FactsR.toV {w:World} {A:Option Addr} {fs:List Fct} (h:FactsR w A fs) (hl:fs.length≤1048576):FactsV w 0 w.heap.size A fs:=⟨h.1,by unfold Lim;omega⟩
theorem AtomsR.toV {w:World} {A:Option Addr} {fs:List Atm} (h:AtomsR w A fs) (hl:fs.length≤1048576):AtomsV w 0 w.heap.size A fs:=⟨h.1,by unfold Lim;omega⟩
theorem IntsR.toV {w:World} {A:Option Addr} {fs:List Int} (h:IntsR w A fs) (hl:fs.length≤1048576):IntsV w 0 w.heap.size A fs:=⟨h.1,by unfold Lim;omega⟩
def isTermB (n:Int):Bool:=decide (0≤n∧n≤8)
def isProgB (n:Int):Bool:=decide (1≤n∧n≤4)
def Fct.valid (f:Fct):Bool:=isTermB f.a&&isTermB f.b
def Atm.valid (x:Atm):Bool:=decide (x.kind=1∨x.kind=2)&&isTermB x.a&&isTermB x.b
def factsValid (fs:List Fct):Bool:=decide (fs.length≤12)&&fs.all Fct.valid
def Asn.valid (a:Asn):Bool:=factsValid a.facts&&(decide (a.atoms.length≤6)&&a.atoms.all Atm.valid)
theorem all_drop {α:Type} (p:α→Bool) (l:List α) (k:Nat) (hk:k<l.length):(l.drop k).all p=(p l[k]&&(l.drop (k+1)).all p):=by
 rw[List.drop_eq_getElem_cons hk,List.all_cons]
theorem drop_eq {α:Type} [DecidableEq α] (l m:List α) (k:Nat) (h1:k<l.length) (h2:k<m.length):decide (l.drop k=m.drop k)=(decide (l[k]=m[k])&&decide (l.drop (k+1)=m.drop (k+1))):=by
 rw[List.drop_eq_getElem_cons h1,List.drop_eq_getElem_cons h2];simp only[List.cons.injEq,Bool.decide_and]
theorem Fct.eq_iff (f g:Fct):f=g↔f.eq=g.eq∧f.a=g.a∧f.b=g.b:=by cases f;cases g;simp
theorem Atm.eq_iff (f g:Atm):f=g↔f.kind=g.kind∧f.a=g.a∧f.b=g.b:=by cases f;cases g;simp
theorem Asn.eq_iff (f g:Asn):f=g↔f.facts=g.facts∧f.atoms=g.atoms:=by cases f;cases g;simp
end
section
open Go Go.RowKit Go.Proofs Go.ChangeShapes Go.WideShapes Go.ChangeAt Go.Deep
theorem flat_at {α:Type} (e:α→List Value) (size:Nat) (hs:∀ a,(e a).length=size):∀ (xs:List α) (j:Nat) (u:Value),(xs.flatMap e)[j]? = some u→∃ i r,∃ h:i<xs.length,r<size∧j=i * size+r∧(e xs[i])[r]? = some u:=by
 intro xs
 induction xs with
 | nil=>intro j u h;simp at h
 | cons x xs ih=>
  intro j u h;rw[List.flatMap_cons,List.getElem?_append] at h
  split at h
  ·rename_i hj;exact ⟨0,j,by simp,by rw[hs] at hj;exact hj,by omega,h⟩
  ·rename_i hj;rw[hs] at h hj;obtain ⟨i,r,hi,hr,he,hx⟩:=ih _ _ h;exact ⟨i+1,r,by simp;omega,hr,by rw[Nat.add_mul];omega,by simpa using hx⟩
theorem flat_len {α:Type} (e:α→List Value) (size:Nat) (hs:∀ a,(e a).length=size) (xs:List α):(xs.flatMap e).length=xs.length * size:=by
 induction xs with
 | nil=>simp
 | cons x xs ih=>rw[List.flatMap_cons,List.length_append,ih,hs,List.length_cons,Nat.add_mul];omega
theorem form2 {α:Type} {l:List α} (h:l.length=2):∃ a b,l=[a,b]:=by
 match l,h with
 | [a,b],_=>exact ⟨a,b,rfl⟩
theorem form3 {α:Type} {l:List α} (h:l.length=3):∃ a b c,l=[a,b,c]:=by
 match l,h with
 | [a,b,c],_=>exact ⟨a,b,c,rfl⟩
theorem none_of_cell {w:World} {a:Addr} {v:Value} (h:w.cell? a=some v):a.spot=none:=by
 unfold World.cell? at h
 split at h
 ·split at h
  ·cases h
  ·rename_i h2;cases hs:a.spot<;>simp_all
 ·cases h
section
variable {H:Type} {enc:TypeId×Value→H} {P:Program} {w:World} {base:Nat} {spare:Nat→Bool} {held:Bool}
theorem tr_slice {α:Type} [Inhabited α] {t e:TypeId} {fuel:Nat} {cs:List Value} {x:DataW H×List MemPlace} (en:α→List Value) (size:Nat) (hs:∀ a,(en a).length=size) (hsz:0<size) (he:P.cellsOf e=size)
  (ht:P.underlying t=some (.slice e)) (hel:∀ n cs x,DataW.trod enc P w base spare held n e cs=some x→∃ a,cs=en a) (h:DataW.trod enc P w base spare held fuel t cs=some x) :
  ∃ (A:Option Addr) (c:Nat) (xs:List α),cs=[.slice A xs.length c]∧xs.length≤9223372036854775807∧Rw w 0 w.heap.size size A xs.length (xs.flatMap en):=by
 rcases open_slice ht h with ⟨rfl,_⟩|⟨a,len,cap,m,n,D,Pl,rfl,hb,hl,hm,hmm,_,hx⟩
 ·exact ⟨none,0,[],rfl,by simp,by simp,fun h=>by simp at h⟩
 ·have hlm:len≤m:=by rw[hmm];split<;>omega
  obtain ⟨f,hf⟩:=choose_lt (α:=α) (n:=len) (p:=fun i a'=>w.cells? base (a.add (i * size)) size=some (en a')) (fun i hi=>by
   obtain ⟨cs',h1,h2⟩:=hx i (by omega);obtain ⟨a',rfl⟩:=hel _ _ _ h2;rw[he] at h1
   exact ⟨a',h1⟩)
  refine ⟨some a,cap,(List.range len).map f,by simp,by simp;unfold maxLen at hm;omega,?_,fun hn=>?_⟩
  ·rw[flat_len en size hs]
  ·have hn':0<len:=by
    rcases Nat.eq_zero_or_pos len with h0|h0
    ·subst h0;simp at hn
    ·exact h0
   have hcell:∀ i,i<len→∀ j,j<size→w.cell? ((a.add (i * size)).add j)=(en (f i))[j]?:=fun i hi j hj=>(World.cells?_some (hf i hi)).2.2 j hj;have h00:=hcell 0 hn' 0 hsz;have hx0:(en (f 0))[0]? = some ((en (f 0))[0]'(by rw[hs];exact hsz)):=List.getElem?_eq_getElem _;rw[hx0,Nat.zero_mul] at h00;have e0:(a.add 0).add 0=a:=by simp[Addr.add]
   rw[e0] at h00;have hsp:=none_of_cell h00;obtain ⟨b,o,s⟩:=a;simp only at hsp;subst hsp;refine ⟨b,o,rfl,Nat.zero_le _,World.block_lt_of_cell? w _ h00,fun j u hu=>?_⟩;obtain ⟨i,r,hi,hr,rfl,hu2⟩:=flat_at en size hs _ _ _ hu;have hi':i<len:=by simpa using hi
   have hc:=hcell i hi' r hr
   have ea:((⟨b,o,none⟩:Addr).add (i * size)).add r=⟨b,o+(i * size+r),none⟩:=by
    rw[Go.Deep.add_add];unfold Addr.add;split
    ·rename_i h0;rw[h0];rfl
    ·rfl
   rw[ea] at hc;rw[hc];simpa using hu2
theorem tr_struct {t:TypeId} {fs:Array Field} {fuel:Nat} {cs:List Value} {x:DataW H×List MemPlace} (ht:P.underlying t=some (.struct fs)) (h:DataW.trod enc P w base spare held fuel t cs=some x) :
  cs.length=P.cellsOf t∧∀ (i:Nat) (f:Field),fs[i]? = some f→∃ n y,DataW.trod enc P w base spare held n f.type ((cs.drop f.offset).take (P.cellsOf f.type))=some y:=by
 obtain ⟨xs,n,_,_,hl,hlen,hf⟩:=DataW.trod_struct ht h;refine ⟨hl,fun i f hi=>?_⟩;have hlt:i<xs.length:=by rw[hlen];exact (Array.getElem?_eq_some_iff.1 hi).1
 exact ⟨n,_,(hf i f hi).trans (List.getElem?_eq_getElem hlt)⟩
theorem tr_struct2 {t:TypeId} {f0 f1:Field} {fuel:Nat} {cs:List Value} {x:DataW H×List MemPlace} (ht:P.underlying t=some (.struct #[f0,f1])) (h:DataW.trod enc P w base spare held fuel t cs=some x) :
  cs.length=P.cellsOf t∧(∃ n y,DataW.trod enc P w base spare held n f0.type ((cs.drop f0.offset).take (P.cellsOf f0.type))=some y)∧(∃ n y,DataW.trod enc P w base spare held n f1.type ((cs.drop f1.offset).take (P.cellsOf f1.type))=some y):=by
 obtain ⟨hl,hf⟩:=tr_struct ht h;exact ⟨hl,hf 0 f0 rfl,hf 1 f1 rfl⟩
theorem tr_struct3 {t:TypeId} {f0 f1 f2:Field} {fuel:Nat} {cs:List Value} {x:DataW H×List MemPlace} (ht:P.underlying t=some (.struct #[f0,f1,f2])) (h:DataW.trod enc P w base spare held fuel t cs=some x) :
  cs.length=P.cellsOf t∧(∃ n y,DataW.trod enc P w base spare held n f0.type ((cs.drop f0.offset).take (P.cellsOf f0.type))=some y)∧(∃ n y,DataW.trod enc P w base spare held n f1.type ((cs.drop f1.offset).take (P.cellsOf f1.type))=some y)∧(∃ n y,DataW.trod enc P w base spare held n f2.type ((cs.drop f2.offset).take (P.cellsOf f2.type))=some y):=by
 obtain ⟨hl,hf⟩:=tr_struct ht h;exact ⟨hl,hf 0 f0 rfl,hf 1 f1 rfl,hf 2 f2 rfl⟩
end
section
variable {H:Type} {enc:TypeId×Value→H} {w:World} {base:Nat} {spare:Nat→Bool} {held:Bool} {fuel:Nat} {cs:List Value} {x:DataW H×List MemPlace}
theorem cells_int:Tryz.prog.cellsOf 3=1:=by kernel_rfl
theorem cells_bool:Tryz.prog.cellsOf 4=1:=by kernel_rfl
theorem tr_int (h:DataW.trod enc Tryz.prog w base spare held fuel 3 cs=some x):∃ n,cs=[.int .i64 n]∧-9223372036854775808≤n∧n≤9223372036854775807:=by
 obtain ⟨n,e,_,hw⟩:=DataW.trod_int Tryz.underlying3 h;refine ⟨n,e,?_⟩;simp[Lit.wf,IntKind.min,IntKind.max,IntKind.signed,IntKind.bits] at hw;omega
theorem tr_bool (h:DataW.trod enc Tryz.prog w base spare held fuel 4 cs=some x):∃ n,cs=[.bool n]:=by
 obtain ⟨n,e,_⟩:=DataW.trod_bool Tryz.underlying4 h;exact ⟨n,e⟩
theorem tr_ints (h:DataW.trod enc Tryz.prog w base spare held fuel 27 cs=some x):∃ (A:Option Addr) (c:Nat) (xs:List Int),cs=[.slice A xs.length c]∧IntsR w A xs:=by
 obtain ⟨A,c,xs,e,hl,hr⟩:=tr_slice (fun n:Int=>[Value.int .i64 n]) 1 (fun _=>rfl) (by omega) cells_int Tryz.underlying27 (fun n cs x h=>by obtain ⟨n,e,_⟩:=tr_int h;exact ⟨n,e⟩) h;refine ⟨A,c,xs,e,?_,hl⟩;have:xs.flatMap (fun n=>[Value.int .i64 n])=encI xs:=by clear hr hl e;induction xs with|nil=>rfl|cons x xs ih=>rw[List.flatMap_cons,ih];rfl
 rwa [this] at hr
theorem cells_lFact:Tryz.prog.cellsOf 55=3:=by kernel_rfl
theorem tr_fact (h:DataW.trod enc Tryz.prog w base spare held fuel 55 cs=some x):∃ f:Fct,cs=[.bool f.eq,.int .i64 f.a,.int .i64 f.b]:=by
 obtain ⟨hl,⟨n0,y0,h0⟩,⟨n1,y1,h1⟩,⟨n2,y2,h2⟩⟩:=tr_struct3 Tryz.underlying55 h;rw[cells_lFact] at hl;obtain ⟨a,b,c,rfl⟩:=form3 hl;simp only[cells_int,cells_bool,List.drop_succ_cons,List.drop_zero,List.take_succ_cons,List.take_zero] at h0 h1 h2;obtain ⟨b0,e0⟩:=tr_bool h0;obtain ⟨i1,e1,_⟩:=tr_int h1;obtain ⟨i2,e2,_⟩:=tr_int h2;exact ⟨⟨b0,i1,i2⟩,by simp_all⟩
theorem cells_lAtom:Tryz.prog.cellsOf 162=3:=by kernel_rfl
theorem tr_atom (h:DataW.trod enc Tryz.prog w base spare held fuel 162 cs=some x):∃ f:Atm,cs=[.int .i64 f.kind,.int .i64 f.a,.int .i64 f.b]:=by
 obtain ⟨hl,⟨n0,y0,h0⟩,⟨n1,y1,h1⟩,⟨n2,y2,h2⟩⟩:=tr_struct3 Tryz.underlying162 h;rw[cells_lAtom] at hl;obtain ⟨a,b,c,rfl⟩:=form3 hl;simp only[cells_int,List.drop_succ_cons,List.drop_zero,List.take_succ_cons,List.take_zero] at h0 h1 h2;obtain ⟨b0,e0,_⟩:=tr_int h0;obtain ⟨i1,e1,_⟩:=tr_int h1;obtain ⟨i2,e2,_⟩:=tr_int h2;exact ⟨⟨b0,i1,i2⟩,by simp_all⟩
theorem tr_facts (h:DataW.trod enc Tryz.prog w base spare held fuel 22 cs=some x):∃ (A:Option Addr) (c:Nat) (xs:List Fct),cs=[.slice A xs.length c]∧FactsR w A xs:=by
 obtain ⟨A,c,xs,e,hl,hr⟩:=tr_slice (fun f:Fct=>[.bool f.eq,.int .i64 f.a,.int .i64 f.b]) 3 (fun _=>rfl) (by omega) cells_lFact Tryz.underlying22 (fun n cs x h=>tr_fact h) h;exact ⟨A,c,xs,e,hr,hl⟩
theorem tr_atoms (h:DataW.trod enc Tryz.prog w base spare held fuel 23 cs=some x):∃ (A:Option Addr) (c:Nat) (xs:List Atm),cs=[.slice A xs.length c]∧AtomsR w A xs:=by
 obtain ⟨A,c,xs,e,hl,hr⟩:=tr_slice (fun f:Atm=>[.int .i64 f.kind,.int .i64 f.a,.int .i64 f.b]) 3 (fun _=>rfl) (by omega) cells_lAtom Tryz.underlying23 (fun n cs x h=>tr_atom h) h;exact ⟨A,c,xs,e,hr,hl⟩
theorem cells_lAsn:Tryz.prog.cellsOf 25=2:=by kernel_rfl
theorem cells_lFacts:Tryz.prog.cellsOf 22=1:=by kernel_rfl
theorem cells_lAtoms:Tryz.prog.cellsOf 23=1:=by kernel_rfl
theorem tr_asn (h:DataW.trod enc Tryz.prog w base spare held fuel 25 cs=some x):∃ (a:Asn) (A1:Option Addr) (c1:Nat) (A2:Option Addr) (c2:Nat),cs=[.slice A1 a.facts.length c1,.slice A2 a.atoms.length c2]∧FactsR w A1 a.facts∧AtomsR w A2 a.atoms:=by
 obtain ⟨hl,⟨n0,y0,h0⟩,⟨n1,y1,h1⟩⟩:=tr_struct2 Tryz.underlying25 h;rw[cells_lAsn] at hl;obtain ⟨a,b,rfl⟩:=form2 hl;simp only[cells_lFacts,cells_lAtoms,List.drop_succ_cons,List.drop_zero,List.take_succ_cons,List.take_zero] at h0 h1;obtain ⟨A1,c1,xs,e1,g1⟩:=tr_facts h0;obtain ⟨A2,c2,ys,e2,g2⟩:=tr_atoms h1;exact ⟨⟨xs,ys⟩,A1,c1,A2,c2,by simp_all,g1,g2⟩
end
theorem open_asn {H:Type} {enc:TypeId×Value→H} {w:World} {v:Value} {d:DataW H} {p:List MemPlace} (hv:Value.okWide Tryz.prog w .any 0 25 v) (h:DataW.Trod enc Tryz.prog w 0 (fun _=>true) true 25 v d p):∃ k:Asn,AsnR w v k:=by
 obtain ⟨cs,rfl,_⟩:=okWide_struct Tryz.underlying25 hv;obtain ⟨fuel,hf⟩:=h;obtain ⟨a,A1,c1,A2,c2,e,g1,g2⟩:=tr_asn hf;refine ⟨a,A1,c1,A2,c2,?_,g1,g2⟩;have e':cs.toList=[.slice A1 a.facts.length c1,.slice A2 a.atoms.length c2]:=by simpa [Value.cells] using e
 rw[show cs=#[.slice A1 a.facts.length c1,.slice A2 a.atoms.length c2] from by rw[←Array.toList_inj];exact e']
theorem open_ints_ {H:Type} {enc:TypeId×Value→H} {w:World} {v:Value} {d:DataW H} {p:List MemPlace} (hv:Value.okWide Tryz.prog w .any 0 27 v) (h:DataW.Trod enc Tryz.prog w 0 (fun _=>true) true 27 v d p):∃ k:List Int,∃ A c,v=.slice A k.length c∧IntsR w A k:=by
 obtain ⟨a,n,c,rfl⟩:=okWide_slice Tryz.underlying27 hv;obtain ⟨fuel,hf⟩:=h;obtain ⟨A,c',xs,e,g⟩:=tr_ints hf;have e':[Value.slice a n c]=[.slice A xs.length c']:=by simpa [Value.cells] using e
 injection e' with e';exact ⟨xs,A,c',e',g⟩
end
section
open Go Go.RowKit
inductive Cms where
 | nil:Cms
 | cons (kind a b:Int) (test:Fct) (inv:Asn) (body els rest:Cms):Cms
deriving DecidableEq,Inhabited
def Cms.len:Cms→Nat
 | .nil=>0
 | .cons _ _ _ _ _ _ _ r=>r.len+1
def Cms.cost:Cms→Nat
 | .nil=>0
 | .cons _ _ _ _ i body els r=>i.facts.length+i.atoms.length+(body.len+body.cost)+(els.len+els.cost)+r.cost
def Cms.small (n:Nat):Cms→Prop
 | .nil=>True
 | .cons _ _ _ _ i body els r=>i.facts.length≤n∧i.atoms.length≤n∧body.len≤n∧els.len≤n∧body.small n∧els.small n∧r.small n
theorem Cms.cost_small {n:Nat}:∀ {L:Cms},L.cost≤n→L.small n
 | .nil,_=>trivial
 | .cons k a b t i body els r,h=>by
  simp only[Cms.cost] at h;exact ⟨by omega,by omega,by omega,by omega,Cms.cost_small (by omega),Cms.cost_small (by omega),Cms.cost_small (by omega)⟩
def Cms.drop:Nat→Cms→Cms
 | 0,L=>L
 | _+1,.nil=>.nil
 | n+1,.cons _ _ _ _ _ _ _ r=>r.drop n
theorem Cms.drop_len:∀ (n:Nat) (L:Cms),(L.drop n).len=L.len - n
 | 0,L=>rfl
 | n+1,.nil=>by simp[Cms.drop,Cms.len]
 | n+1,.cons _ _ _ _ _ _ _ r=>by simp only[Cms.drop,Cms.len];rw[Cms.drop_len n r];omega
theorem Cms.drop_all:∀ (L:Cms),L.drop L.len=.nil
 | .nil=>rfl
 | .cons k a b t i body els r=>by simp only[Cms.len,Cms.drop];exact Cms.drop_all r
theorem Cms.drop_succ:∀ (n:Nat) (L:Cms) {k a b:Int} {t:Fct} {i:Asn} {body els r:Cms},L.drop n=.cons k a b t i body els r→L.drop (n+1)=r
 | 0,.cons _ _ _ _ _ _ _ r,_,_,_,_,_,_,_,_,h=>by simp only[Cms.drop] at h ⊢;injection h
 | 0,.nil,_,_,_,_,_,_,_,_,h=>by cases h
 | n+1,.nil,_,_,_,_,_,_,_,_,h=>by cases h
 | n+1,.cons _ _ _ _ _ _ _ r,_,_,_,_,_,_,_,_,h=>Cms.drop_succ n r h
theorem Cms.cons_of_len:∀ {L:Cms},0<L.len→∃ k a b t i body els r,L=.cons k a b t i body els r
 | .nil,h=>by simp[Cms.len] at h
 | .cons k a b t i body els r,_=>⟨k,a,b,t,i,body,els,r,rfl⟩
def CmsAt (w:World) (lo hi:Nat):Cms→Nat→Nat→Prop
 | .nil,_,_=>True
 | .cons k a b t i body els r,bl,o=>
  (w.cell? ⟨bl,o,none⟩=some (.int .i64 k)∧w.cell? ⟨bl,o+1,none⟩=some (.int .i64 a)∧w.cell? ⟨bl,o+2,none⟩=some (.int .i64 b)∧
   w.cell? ⟨bl,o+3,none⟩=some (.bool t.eq)∧w.cell? ⟨bl,o+4,none⟩=some (.int .i64 t.a)∧w.cell? ⟨bl,o+5,none⟩=some (.int .i64 t.b))∧
  (∃ A c,w.cell? ⟨bl,o+6,none⟩=some (.slice A i.facts.length c)∧Rw w lo hi 3 A i.facts.length (encF i.facts))∧
  (∃ A c,w.cell? ⟨bl,o+7,none⟩=some (.slice A i.atoms.length c)∧Rw w lo hi 3 A i.atoms.length (encA i.atoms))∧
  (∃ A c,w.cell? ⟨bl,o+8,none⟩=some (.slice A body.len c)∧(0<body.len→∃ b' o',A=some ⟨b',o',none⟩∧lo≤b'∧b'<hi∧CmsAt w lo hi body b' o'))∧
  (∃ A c,w.cell? ⟨bl,o+9,none⟩=some (.slice A els.len c)∧(0<els.len→∃ b' o',A=some ⟨b',o',none⟩∧lo≤b'∧b'<hi∧CmsAt w lo hi els b' o'))∧
  CmsAt w lo hi r bl (o+10)
def CmsV (w:World) (lo hi:Nat) (A:Option Addr) (L:Cms):Prop:=0<L.len→∃ b o,A=some ⟨b,o,none⟩∧lo≤b∧b<hi∧CmsAt w lo hi L b o
section
variable {w w':World} {lo hi lo' hi':Nat}
theorem CmsAt.bz (hb:Below w.heap.size w w'):∀ {L:Cms} {bl o:Nat},CmsAt w lo hi L bl o→CmsAt w' lo hi L bl o
 | .nil,_,_,_=>trivial
 | .cons k a b t i body els r,bl,o,h=>by
  obtain ⟨⟨h0,h1,h2,h3,h4,h5⟩,⟨A6,c6,h6,g6⟩,⟨A7,c7,h7,g7⟩,⟨A8,c8,h8,g8⟩,⟨A9,c9,h9,g9⟩,hr⟩:=h;have hlt:bl<w.heap.size:=block_lt_of_cell h0;have hc:∀ j,w'.cell? ⟨bl,j,none⟩=w.cell? ⟨bl,j,none⟩:=fun j=>hb.cell (p:=⟨bl,j,none⟩) hlt;refine ⟨⟨(hc _).trans h0,(hc _).trans h1,(hc _).trans h2,(hc _).trans h3,(hc _).trans h4,(hc _).trans h5⟩,⟨A6,c6,(hc _).trans h6,g6.bz hb⟩,⟨A7,c7,(hc _).trans h7,g7.bz hb⟩,⟨A8,c8,(hc _).trans h8,fun hl=>?_⟩,⟨A9,c9,(hc _).trans h9,fun hl=>?_⟩,CmsAt.bz hb hr⟩
  ·obtain ⟨b',o',e,p1,p2,p3⟩:=g8 hl;exact ⟨b',o',e,p1,p2,CmsAt.bz hb p3⟩
  ·obtain ⟨b',o',e,p1,p2,p3⟩:=g9 hl;exact ⟨b',o',e,p1,p2,CmsAt.bz hb p3⟩
theorem CmsAt.mono (e1:lo'≤lo) (e2:hi≤hi'):∀ {L:Cms} {bl o:Nat},CmsAt w lo hi L bl o→CmsAt w lo' hi' L bl o
 | .nil,_,_,_=>trivial
 | .cons k a b t i body els r,bl,o,h=>by
  obtain ⟨h0,⟨A6,c6,h6,g6⟩,⟨A7,c7,h7,g7⟩,⟨A8,c8,h8,g8⟩,⟨A9,c9,h9,g9⟩,hr⟩:=h;refine ⟨h0,⟨A6,c6,h6,g6.mono e1 e2⟩,⟨A7,c7,h7,g7.mono e1 e2⟩,⟨A8,c8,h8,fun hl=>?_⟩,⟨A9,c9,h9,fun hl=>?_⟩,CmsAt.mono e1 e2 hr⟩
  ·obtain ⟨b',o',e,p1,p2,p3⟩:=g8 hl;exact ⟨b',o',e,by omega,by omega,CmsAt.mono e1 e2 p3⟩
  ·obtain ⟨b',o',e,p1,p2,p3⟩:=g9 hl;exact ⟨b',o',e,by omega,by omega,CmsAt.mono e1 e2 p3⟩
theorem CmsV.bz {A:Option Addr} {L:Cms} (h:CmsV w lo hi A L) (hb:Below w.heap.size w w'):CmsV w' lo hi A L:=fun hl=>by
 obtain ⟨b,o,e,p1,p2,p3⟩:=h hl;exact ⟨b,o,e,p1,p2,p3.bz hb⟩
theorem CmsV.mono {A:Option Addr} {L:Cms} (h:CmsV w lo hi A L) (e1:lo'≤lo) (e2:hi≤hi'):CmsV w lo' hi' A L:=fun hl=>by
 obtain ⟨b,o,e,p1,p2,p3⟩:=h hl;exact ⟨b,o,e,by omega,by omega,p3.mono e1 e2⟩
theorem CmsAt.drop:∀ (n:Nat) {L:Cms} {bl o:Nat},CmsAt w lo hi L bl o→CmsAt w lo hi (L.drop n) bl (o+n * 10)
 | 0,L,bl,o,h=>by simpa [Cms.drop] using h
 | n+1,.nil,bl,o,h=>trivial
 | n+1,.cons k a b t i body els r,bl,o,h=>by
  have:=CmsAt.drop n h.2.2.2.2.2
  rwa [show o+10+n * 10=o+(n+1) * 10 from by omega] at this
end
theorem Cms.small_drop {m:Nat}:∀ (n:Nat) {L:Cms},L.small m→(L.drop n).small m
 | 0,L,h=>h
 | n+1,.nil,h=>trivial
 | n+1,.cons k a b t i body els r,h=>Cms.small_drop n h.2.2.2.2.2.2
end
section
open Go Go.RowKit Go.Proofs Go.ChangeShapes Go.WideShapes Go.ChangeAt Go.Deep
theorem form10 {α:Type} {l:List α} (h:l.length=10):∃ a b c d e f g i j k,l=[a,b,c,d,e,f,g,i,j,k]:=by
 match l,h with
 | [a,b,c,d,e,f,g,i,j,k],_=>exact ⟨a,b,c,d,e,f,g,i,j,k,rfl⟩
def CmdAt (w:World) (lo hi:Nat) (bl o:Nat):Prop:=∃ (k a b:Int) (t:Fct) (i:Asn) (body els:Cms),CmsAt w lo hi (.cons k a b t i body els .nil) bl o∧(Cms.cons k a b t i body els .nil).small 9223372036854775807
theorem cms_build {w:World} {lo hi bl:Nat}:∀ (n o:Nat),(∀ i,i<n→CmdAt w lo hi bl (o+i * 10))→∃ L:Cms,L.len=n∧CmsAt w lo hi L bl o∧L.small 9223372036854775807
 | 0,o,_=>⟨.nil,rfl,trivial,trivial⟩
 | n+1,o,h=>by
  obtain ⟨k,a,b,t,i,body,els,h0,hs⟩:=h 0 (by omega);obtain ⟨r,hr,hat,hsr⟩:=cms_build n (o+10) (fun i hi=>by have:=h (i+1) (by omega);rwa [show o+(i+1) * 10=o+10+i * 10 from by omega] at this);rw[Nat.zero_mul,Nat.add_zero] at h0;exact ⟨.cons k a b t i body els r,by simp[Cms.len,hr],⟨h0.1,h0.2.1,h0.2.2.1,h0.2.2.2.1,h0.2.2.2.2.1,hat⟩,hs.1,hs.2.1,hs.2.2.1,hs.2.2.2.1,hs.2.2.2.2.1,hs.2.2.2.2.2.1,hsr⟩
section
variable {H:Type} {enc:TypeId×Value→H} {w:World} {base:Nat} {spare:Nat→Bool} {held:Bool}
theorem tr_struct7n {P:Program} {t:TypeId} {f0 f1 f2 f3 f4 f5 f6:Field} {fuel:Nat} {cs:List Value} {x:DataW H×List MemPlace} (ht:P.underlying t=some (.struct #[f0,f1,f2,f3,f4,f5,f6])) (h:DataW.trod enc P w base spare held fuel t cs=some x) :
  ∃ n,fuel=n+1∧cs.length=P.cellsOf t∧(∃ y,DataW.trod enc P w base spare held n f0.type ((cs.drop f0.offset).take (P.cellsOf f0.type))=some y)∧(∃ y,DataW.trod enc P w base spare held n f1.type ((cs.drop f1.offset).take (P.cellsOf f1.type))=some y)∧(∃ y,DataW.trod enc P w base spare held n f2.type ((cs.drop f2.offset).take (P.cellsOf f2.type))=some y)∧(∃ y,DataW.trod enc P w base spare held n f3.type ((cs.drop f3.offset).take (P.cellsOf f3.type))=some y)∧(∃ y,DataW.trod enc P w base spare held n f4.type ((cs.drop f4.offset).take (P.cellsOf f4.type))=some y)∧(∃ y,DataW.trod enc P w base spare held n f5.type ((cs.drop f5.offset).take (P.cellsOf f5.type))=some y)∧(∃ y,DataW.trod enc P w base spare held n f6.type ((cs.drop f6.offset).take (P.cellsOf f6.type))=some y):=by
 obtain ⟨xs,n,hfuel,_,hl,hlen,hf⟩:=DataW.trod_struct ht h;have get:∀ (i:Nat) (f:Field),#[f0,f1,f2,f3,f4,f5,f6][i]? = some f→∃ y,DataW.trod enc P w base spare held n f.type ((cs.drop f.offset).take (P.cellsOf f.type))=some y:=fun i f hi=>⟨_,(hf i f hi).trans (List.getElem?_eq_getElem (by rw[hlen];exact (Array.getElem?_eq_some_iff.1 hi).1))⟩;exact ⟨n,hfuel,hl,get 0 f0 rfl,get 1 f1 rfl,get 2 f2 rfl,get 3 f3 rfl,get 4 f4 rfl,get 5 f5 rfl,get 6 f6 rfl⟩
theorem cells_lCmd:Tryz.prog.cellsOf 57=10:=by kernel_rfl
theorem cells_lCmds:Tryz.prog.cellsOf 26=1:=by kernel_rfl
theorem cells_lFact':Tryz.prog.cellsOf 55=3:=by kernel_rfl
theorem cells_lAsn':Tryz.prog.cellsOf 25=2:=by kernel_rfl
def CmdR (w:World) (cs:List Value):Prop:=∃ (k a b:Int) (t:Fct) (i:Asn) (A1:Option Addr) (c1:Nat) (A2:Option Addr) (c2:Nat) (A3:Option Addr) (c3:Nat) (body:Cms) (A4:Option Addr) (c4:Nat) (els:Cms),
 cs=[.int .i64 k,.int .i64 a,.int .i64 b,.bool t.eq,.int .i64 t.a,.int .i64 t.b,.slice A1 i.facts.length c1,.slice A2 i.atoms.length c2,.slice A3 body.len c3,.slice A4 els.len c4]∧
  FactsR w A1 i.facts∧AtomsR w A2 i.atoms∧CmsV w 0 w.heap.size A3 body∧CmsV w 0 w.heap.size A4 els∧body.len≤9223372036854775807∧els.len≤9223372036854775807∧body.small 9223372036854775807∧els.small 9223372036854775807
theorem tr_cmd1 {N:Nat} (IH:∀ fuel,fuel≤N→∀ (cs:List Value) (x:DataW H×List MemPlace),DataW.trod enc Tryz.prog w base spare held fuel 26 cs=some x→∃ (A:Option Addr) (c:Nat) (L:Cms),cs=[.slice A L.len c]∧L.len≤9223372036854775807∧L.small 9223372036854775807∧CmsV w 0 w.heap.size A L)
  {cs:List Value} {x:DataW H×List MemPlace} {fuel:Nat} (hN:fuel≤N+1) (h:DataW.trod enc Tryz.prog w base spare held fuel 57 cs=some x):CmdR w cs:=by
 obtain ⟨n,hfuel,hl,⟨y0,h0⟩,⟨y1,h1⟩,⟨y2,h2⟩,⟨y3,h3⟩,⟨y4,h4⟩,⟨y5,h5⟩,⟨y6,h6⟩⟩:=tr_struct7n Tryz.underlying57 h;have hn:n≤N:=by omega
 rw[cells_lCmd] at hl;obtain ⟨z0,z1,z2,z3,z4,z5,z6,z7,z8,z9,rfl⟩:=form10 hl;simp only[cells_int,cells_lFact',cells_lAsn',cells_lCmds,List.drop_succ_cons,List.drop_zero,List.take_succ_cons,List.take_zero] at h0 h1 h2 h3 h4 h5 h6;obtain ⟨i0,e0,_⟩:=tr_int h0;obtain ⟨i1,e1,_⟩:=tr_int h1;obtain ⟨i2,e2,_⟩:=tr_int h2;obtain ⟨t,e3⟩:=tr_fact h3;obtain ⟨a,A1,c1,A2,c2,e4,g1,g2⟩:=tr_asn h4;obtain ⟨A3,c3,L3,e5,u3,s3,g3⟩:=IH _ hn _ _ h5;obtain ⟨A4,c4,L4,e6,u4,s4,g4⟩:=IH _ hn _ _ h6;exact ⟨i0,i1,i2,t,a,A1,c1,A2,c2,A3,c3,L3,A4,c4,L4,by simp_all,g1,g2,g3,g4,u3,u4,s3,s4⟩
theorem CmdR.at {cs:List Value} (h:CmdR w cs) {bl o:Nat} (hc:∀ j,j<10→w.cell? ⟨bl,o+j,none⟩=cs[j]?):CmdAt w 0 w.heap.size bl o:=by
 obtain ⟨k,a,b,t,i,A1,c1,A2,c2,A3,c3,body,A4,c4,els,rfl,g1,g2,g3,g4,u3,u4,s3,s4⟩:=h;exact ⟨k,a,b,t,i,body,els,⟨⟨hc 0 (by omega),hc 1 (by omega),hc 2 (by omega),hc 3 (by omega),hc 4 (by omega),hc 5 (by omega)⟩,⟨A1,c1,hc 6 (by omega),g1.1⟩,⟨A2,c2,hc 7 (by omega),g2.1⟩,⟨A3,c3,hc 8 (by omega),g3⟩,⟨A4,c4,hc 9 (by omega),g4⟩,trivial⟩,⟨g1.2,g2.2,u3,u4,s3,s4,trivial⟩⟩
theorem tr_cmds:∀ (N:Nat) (fuel:Nat),fuel≤N→∀ (cs:List Value) (x:DataW H×List MemPlace),DataW.trod enc Tryz.prog w base spare held fuel 26 cs=some x→∃ (A:Option Addr) (c:Nat) (L:Cms),cs=[.slice A L.len c]∧L.len≤9223372036854775807∧L.small 9223372036854775807∧CmsV w 0 w.heap.size A L:=by
 intro N
 induction N with
 | zero=>
  intro fuel hf cs x h;obtain rfl:fuel=0:=by omega
  simp[DataW.trod] at h
 | succ N IH=>
  intro fuel hN cs x h;rcases DataW.trod_slice Tryz.underlying26 h with ⟨rfl,_⟩|⟨a,len,cap,elems,rest,n,hfu,rfl,_,_,hl,hm,hlen,hel,_,_⟩
  ·exact ⟨none,0,.nil,rfl,by simp[Cms.len],trivial,fun h=>by simp[Cms.len] at h⟩
  ·have hx:∀ i,i<len→∃ cs',w.cells? base (a.add (i * 10)) 10=some cs'∧CmdR w cs':=fun i hi=>by
    have h1:=hel i hi;rw[cells_lCmd,List.getElem?_eq_getElem (by omega)] at h1;obtain ⟨cs',h2,h3⟩:=Option.bind_eq_some_iff.1 h1;exact ⟨cs',h2,tr_cmd1 IH (by omega) h3⟩
   have hnone:0<len→a.spot=none:=fun hp=>by
    obtain ⟨cs',h1,h2⟩:=hx 0 hp;have h3:=(World.cells?_some h1).2.2 0 (by omega);obtain ⟨k,a',b,t,i,A1,c1,A2,c2,A3,c3,body,A4,c4,els,rfl,_⟩:=h2;rw[Nat.zero_mul] at h3;exact none_of_cell (show w.cell? a=some (.int .i64 k) from by simpa [Addr.add] using h3)
   rcases Nat.eq_zero_or_pos len with rfl|hp
   ·exact ⟨some a,cap,.nil,rfl,by simp[Cms.len],trivial,fun h=>by simp[Cms.len] at h⟩
   have hsp:=hnone hp;obtain ⟨b,o,s⟩:=a;simp only at hsp;subst hsp
   have hcell:∀ i,i<len→CmdAt w 0 w.heap.size b (o+i * 10):=fun i hi=>by
    obtain ⟨cs',h1,h2⟩:=hx i hi;refine h2.at fun j hj=>?_;have h3:=(World.cells?_some h1).2.2 j hj
    have ea:((⟨b,o,none⟩:Addr).add (i * 10)).add j=⟨b,o+i * 10+j,none⟩:=by
     rw[Go.Deep.add_add];unfold Addr.add;split
     ·rename_i h0;simp only[Addr.mk.injEq,and_true,true_and];omega
     ·simp only[Addr.mk.injEq,and_true,true_and];omega
    rwa [ea] at h3
   obtain ⟨L,hL,hat,hsm⟩:=cms_build len o hcell;refine ⟨some ⟨b,o,none⟩,cap,L,by rw[hL],by rw[hL];unfold maxLen at hm;omega,hsm,fun _=>⟨b,o,rfl,Nat.zero_le _,?_,hat⟩⟩;obtain ⟨k,a,b',t,i,body,els,h0⟩:=hcell 0 hp;exact block_lt_of_cell h0.1.1.1
end
theorem open_cmds {H:Type} {enc:TypeId×Value→H} {w:World} {v:Value} {d:DataW H} {p:List MemPlace} (hv:Value.okWide Tryz.prog w .any 0 26 v) (h:DataW.Trod enc Tryz.prog w 0 (fun _=>true) true 26 v d p):∃ L:Cms,∃ A c,v=.slice A L.len c∧L.len≤9223372036854775807∧L.small 9223372036854775807∧CmsV w 0 w.heap.size A L:=by
 obtain ⟨a,n,c,rfl⟩:=okWide_slice Tryz.underlying26 hv;obtain ⟨fuel,hf⟩:=h;obtain ⟨A,c',L,e,g⟩:=tr_cmds fuel fuel (Nat.le_refl _) _ _ hf;have e':[Value.slice a n c]=[.slice A L.len c']:=by simpa [Value.cells] using e
 injection e' with e';exact ⟨L,A,c',e',g⟩
end
section
open Go Go.RowKit Go.Proofs
abbrev tF:Nat:=61
abbrev tA:Nat:=73
abbrev tI:Nat:=3
def FactsO (w:World) (base:Nat) (v:Value) (fs:List Fct):Prop:=w.ownsRow base tF 3 v fs.length (encF fs)∧Lim fs.length
def AtomsO (w:World) (base:Nat) (v:Value) (xs:List Atm):Prop:=w.ownsRow base tA 3 v xs.length (encA xs)∧Lim xs.length
def IntsO (w:World) (base:Nat) (v:Value) (xs:List Int):Prop:=w.ownsRow base tI 1 v xs.length (encI xs)∧Lim xs.length
def AsnO (w:World) (base:Nat) (v:Value) (a:Asn):Prop:=∃ fv av,v=.agg #[fv,av]∧FactsO w base fv a.facts∧AtomsO w base av a.atoms
section
variable {w w':World} {base base':Nat} {v:Value}
theorem FactsO.bz {fs:List Fct} (h:FactsO w base v fs) (hb:Below w.heap.size w w'):FactsO w' base v fs:=⟨own_below h.1 hb,h.2⟩
theorem AtomsO.bz {fs:List Atm} (h:AtomsO w base v fs) (hb:Below w.heap.size w w'):AtomsO w' base v fs:=⟨own_below h.1 hb,h.2⟩
theorem IntsO.bz {fs:List Int} (h:IntsO w base v fs) (hb:Below w.heap.size w w'):IntsO w' base v fs:=⟨own_below h.1 hb,h.2⟩
theorem AsnO.bz {a:Asn} (h:AsnO w base v a) (hb:Below w.heap.size w w'):AsnO w' base v a:=by
 obtain ⟨fv,av,e,h1,h2⟩:=h;exact ⟨fv,av,e,h1.bz hb,h2.bz hb⟩
theorem FactsO.setb {fs:List Fct} (h:FactsO w base v fs) {a:Addr} (ha:a.block<base) (u:Value):FactsO (w.setCell a u) base v fs:=⟨ownsRow_setCell_below h.1 ha u,h.2⟩
theorem AtomsO.setb {fs:List Atm} (h:AtomsO w base v fs) {a:Addr} (ha:a.block<base) (u:Value):AtomsO (w.setCell a u) base v fs:=⟨ownsRow_setCell_below h.1 ha u,h.2⟩
theorem IntsO.setb {fs:List Int} (h:IntsO w base v fs) {a:Addr} (ha:a.block<base) (u:Value):IntsO (w.setCell a u) base v fs:=⟨ownsRow_setCell_below h.1 ha u,h.2⟩
theorem AsnO.setb {a:Asn} (h:AsnO w base v a) {p:Addr} (ha:p.block<base) (u:Value):AsnO (w.setCell p u) base v a:=by
 obtain ⟨fv,av,e,h1,h2⟩:=h;exact ⟨fv,av,e,h1.setb ha u,h2.setb ha u⟩
theorem FactsO.abv {lo:Nat} {fs:List Fct} (h:FactsO w base v fs) (hb:Abv lo w w') (hl:lo≤base):FactsO w' base v fs:=⟨own_abv h.1 hb hl,h.2⟩
theorem AtomsO.abv {lo:Nat} {fs:List Atm} (h:AtomsO w base v fs) (hb:Abv lo w w') (hl:lo≤base):AtomsO w' base v fs:=⟨own_abv h.1 hb hl,h.2⟩
theorem IntsO.abv {lo:Nat} {fs:List Int} (h:IntsO w base v fs) (hb:Abv lo w w') (hl:lo≤base):IntsO w' base v fs:=⟨own_abv h.1 hb hl,h.2⟩
theorem AsnO.abv {lo:Nat} {a:Asn} (h:AsnO w base v a) (hb:Abv lo w w') (hl:lo≤base):AsnO w' base v a:=by
 obtain ⟨fv,av,e,h1,h2⟩:=h;exact ⟨fv,av,e,h1.abv hb hl,h2.abv hb hl⟩
theorem FactsO.lower {fs:List Fct} (h:FactsO w base v fs) (hb:base'≤base):FactsO w base' v fs:=⟨own_lower h.1 hb,h.2⟩
theorem AtomsO.lower {fs:List Atm} (h:AtomsO w base v fs) (hb:base'≤base):AtomsO w base' v fs:=⟨own_lower h.1 hb,h.2⟩
theorem IntsO.lower {fs:List Int} (h:IntsO w base v fs) (hb:base'≤base):IntsO w base' v fs:=⟨own_lower h.1 hb,h.2⟩
theorem AsnO.lower {a:Asn} (h:AsnO w base v a) (hb:base'≤base):AsnO w base' v a:=by
 obtain ⟨fv,av,e,h1,h2⟩:=h;exact ⟨fv,av,e,h1.lower hb,h2.lower hb⟩
theorem FactsO.reads {fs:List Fct} (h:FactsO w base v fs):∃ A c,v=.slice A fs.length c∧FactsV w base w.heap.size A fs:=own_reads h.1 h.2
theorem AtomsO.reads {fs:List Atm} (h:AtomsO w base v fs):∃ A c,v=.slice A fs.length c∧AtomsV w base w.heap.size A fs:=own_reads h.1 h.2
theorem IntsO.reads {fs:List Int} (h:IntsO w base v fs):∃ A c,v=.slice A fs.length c∧IntsV w base w.heap.size A fs:=own_reads h.1 h.2
theorem IntsO.readsI {A:Option Addr} {n c:Nat} {fs:List Int} (h:IntsO w base (.slice A n c) fs):n=fs.length∧IntsV w base w.heap.size A fs:=by
 obtain ⟨A',c',e,h'⟩:=h.reads;injection e with e1 e2 e3;subst e1;exact ⟨e2,h'⟩
theorem FactsO.readsI {A:Option Addr} {n c:Nat} {fs:List Fct} (h:FactsO w base (.slice A n c) fs):n=fs.length∧FactsV w base w.heap.size A fs:=by
 obtain ⟨A',c',e,h'⟩:=h.reads;injection e with e1 e2 e3;subst e1;exact ⟨e2,h'⟩
theorem AtomsO.readsI {A:Option Addr} {n c:Nat} {fs:List Atm} (h:AtomsO w base (.slice A n c) fs):n=fs.length∧AtomsV w base w.heap.size A fs:=by
 obtain ⟨A',c',e,h'⟩:=h.reads;injection e with e1 e2 e3;subst e1;exact ⟨e2,h'⟩
theorem AsnO.reads {a:Asn} (h:AsnO w base v a):AsnV w base w.heap.size v a:=by
 obtain ⟨fv,av,e,h1,h2⟩:=h;obtain ⟨A1,c1,rfl,g1⟩:=h1.reads;obtain ⟨A2,c2,rfl,g2⟩:=h2.reads;exact ⟨A1,c1,A2,c2,e,g1,g2⟩
end
theorem infoF:(Tryz.prog.info? tF).map (fun i=>(i.zero,i.size,i.bytes))=some (some (.agg #[.bool false,.int .i64 0,.int .i64 0]),3,24):=by kernel_rfl
theorem infoA:(Tryz.prog.info? tA).map (fun i=>(i.zero,i.size,i.bytes))=some (some (.agg #[.int .i64 0,.int .i64 0,.int .i64 0]),3,24):=by kernel_rfl
theorem infoI:(Tryz.prog.info? tI).map (fun i=>(i.zero,i.size,i.bytes))=some (some (.int .i64 0),1,8):=by kernel_rfl
theorem run_make_rowN {P:Program} (t e:TypeId) (i:TypeInfo) (z:Value) (ht:P.underlying t=some (.slice e)) (hi:P.info? e=some i) (hz:i.zero=some z)
  (kl kc:IntKind) (n c:Nat) (hnc:n≤c) (hbytes:i.bytes * c≤281474976710656) (h63:c≤9223372036854775807) (w:World) :
  (Instr.makeSlice t (.int kl (n:Int)) (.int kc (c:Int))).run P w=.ok (.slice (some ⟨w.heap.size,0,none⟩) n c) (w.alloc (.cells (madeCells z.cells (c * i.size)) e)):=by
 have hb:(i.bytes:Int) * (c:Int)≤281474976710656:=by
  have h:((i.bytes * c:Nat):Int)≤281474976710656:=by omega
  rwa [Int.natCast_mul] at h
 have hr:=run_make (P:=P) w t e i z ht hi hz kl kc n c (by omega) (by omega) hb (by omega);simp only[Int.toNat_natCast] at hr;exact hr
theorem mkF (n:Nat) (h:Lim n) (w:World):(Instr.makeSlice 33 (.int .i64 (n:Int)) (.int .i64 (n:Int))).run Tryz.prog w=.ok (.slice (some ⟨w.heap.size,0,none⟩) n n) (w.alloc (.cells (madeCells #[.bool false,.int .i64 0,.int .i64 0] (n * 3)) tF)):=by
 obtain ⟨i,hi,hz,hs,hb⟩:=info_parts infoF;have:=run_make_rowN (P:=Tryz.prog) 33 tF i _ Tryz.underlying33 hi hz .i64 .i64 n n (Nat.le_refl _) (by rw[hb];unfold Lim at h;omega) (by unfold Lim at h;omega) w
 rwa [hs] at this
theorem mkA (n:Nat) (h:Lim n) (w:World):(Instr.makeSlice 34 (.int .i64 (n:Int)) (.int .i64 (n:Int))).run Tryz.prog w=.ok (.slice (some ⟨w.heap.size,0,none⟩) n n) (w.alloc (.cells (madeCells #[.int .i64 0,.int .i64 0,.int .i64 0] (n * 3)) tA)):=by
 obtain ⟨i,hi,hz,hs,hb⟩:=info_parts infoA;have:=run_make_rowN (P:=Tryz.prog) 34 tA i _ Tryz.underlying34 hi hz .i64 .i64 n n (Nat.le_refl _) (by rw[hb];unfold Lim at h;omega) (by unfold Lim at h;omega) w
 rwa [hs] at this
theorem mkI (n:Nat) (h:Lim n) (w:World):(Instr.makeSlice 27 (.int .i64 (n:Int)) (.int .i64 (n:Int))).run Tryz.prog w=.ok (.slice (some ⟨w.heap.size,0,none⟩) n n) (w.alloc (.cells (madeCells #[.int .i64 0] (n * 1)) tI)):=by
 obtain ⟨i,hi,hz,hs,hb⟩:=info_parts infoI;have:=run_make_rowN (P:=Tryz.prog) 27 tI i _ Tryz.underlying27 hi hz .i64 .i64 n n (Nat.le_refl _) (by rw[hb];unfold Lim at h;omega) (by unfold Lim at h;omega) w
 rwa [hs] at this
abbrev tB:Nat:=4
theorem infoB:(Tryz.prog.info? tB).map (fun i=>(i.zero,i.size,i.bytes))=some (some (.bool false),1,1):=by kernel_rfl
def BoolsO (w:World) (base:Nat) (v:Value) (xs:List Bool):Prop:=w.ownsRow base tB 1 v xs.length (encB xs)∧Lim xs.length
theorem BoolsO.bz {w w':World} {base:Nat} {v:Value} {fs:List Bool} (h:BoolsO w base v fs) (hb:Below w.heap.size w w'):BoolsO w' base v fs:=⟨own_below h.1 hb,h.2⟩
theorem BoolsO.lower {w:World} {base base':Nat} {v:Value} {fs:List Bool} (h:BoolsO w base v fs) (hb:base'≤base):BoolsO w base' v fs:=⟨own_lower h.1 hb,h.2⟩
theorem BoolsO.abv {w w':World} {base:Nat} {v:Value} {lo:Nat} {fs:List Bool} (h:BoolsO w base v fs) (hb:Abv lo w w') (hl:lo≤base):BoolsO w' base v fs:=⟨own_abv h.1 hb hl,h.2⟩
theorem BoolsO.reads {w:World} {base:Nat} {v:Value} {fs:List Bool} (h:BoolsO w base v fs):∃ A c,v=.slice A fs.length c∧BoolsV w base w.heap.size A fs:=own_reads h.1 h.2
theorem mkB (n:Nat) (h:Lim n) (w:World):(Instr.makeSlice 116 (.int .i64 (n:Int)) (.int .i64 (n:Int))).run Tryz.prog w=.ok (.slice (some ⟨w.heap.size,0,none⟩) n n) (w.alloc (.cells (madeCells #[.bool false] (n * 1)) tB)):=by
 obtain ⟨i,hi,hz,hs,hb⟩:=info_parts infoB;have:=run_make_rowN (P:=Tryz.prog) 116 tB i _ Tryz.underlying116 hi hz .i64 .i64 n n (Nat.le_refl _) (by rw[hb];unfold Lim at h;omega) (by unfold Lim at h;omega) w
 rwa [hs] at this
theorem own_row_below {w w' : World} {base : Nat} {e : TypeId} {size : Nat} {v : Value} {n : Nat} {xs : List Value} (h : w.ownsRow base e size v n xs) (hg : w.grownBy w' v.ownBlock) (hb : base ≤ w.heap.size) : Below base w w' :=
  ⟨hg.os, hg.tape, hg.output, hg.size, fun k hk => hg.block k (by omega) (fun e => by have := (h.lt k e.symm).1; omega)⟩
theorem wpList_app {P : Program} {ops : Array Oper} {rest : List Oper} {o : Oper} {a : Act} {Q : Exit → Act → World → Prop} {w : World} (hgd : o.guard = none) (s x : Operand) (t : TypeId)
    (ho : o.op = .call { callee := .builtin .append, args := #[s, x], argTypes := #[t, t] })
    {base : Nat} {e : TypeId} {z : Value} {size bytes : Nat} (ht : P.underlying t = some (.slice e)) (hinfo : (P.info? e).map (fun i => (i.zero, i.size, i.bytes)) = some (some z, size, bytes)) (hzs : z.cells.size = size) (hsz : 0 < size) (hby : bytes ≤ 200)
    {v : Value} {n : Nat} {xs : List Value} (hs : a.eval s = v) (hown : w.ownsRow base e size v n xs)
    (ad : Addr) (news : List Value) (hx : a.eval x = .slice (some ad) 1 1) (hl : news.length = size) (hnews : ∀ j u, news[j]? = some u → w.cell? (ad.add j) = some u) (h1 : ∀ u ∈ news, u.oneCell' = true)
    (hn : n + 1 ≤ 1049600) (hb : base ≤ w.heap.size)
    (h : ∀ g c w', w'.ownsRow base e size (.slice (some ⟨g, 0, none⟩) (n + 1) c) (n + 1) (xs ++ news) → w.grownBy w' v.ownBlock → Below base w w' → wpList P ops Q rest (a.put o.dst (.slice (some ⟨g, 0, none⟩) (n + 1) c)) w') : wpList P ops Q (o :: rest) a w := by
  obtain ⟨i, hi, hz, hsize, hbytes⟩ := info_parts hinfo;refine wpList_append_own w hgd s x t ho base e i z size bytes ht hi hz hsize hbytes hzs hsz v n xs hs hown ad 1 1 news hx (by omega) hnews h1 (by unfold maxLen; omega) (Nat.le_trans (Nat.mul_le_mul hn hby) (by omega)) hb ?_;intro v' w' ho' hg' _;obtain ⟨g, c, rfl, -⟩ := ho'.form (by omega);exact h g c w' ho' hg' (own_row_below hown hg' hb)
theorem cell_box (w : World) (u : Value) (t : TypeId) : (w.alloc (.cells #[u] t)).cell? ⟨w.heap.size, 0, none⟩ = some u := (Blk.new w t #[u]).cell 0
theorem own_empty (w : World) (t : TypeId) (size : Nat) : (w.alloc (.cells #[] t)).ownsRow w.heap.size t size (.slice (some ⟨w.heap.size, 0, none⟩) 0 0) 0 [] :=
  ⟨by simp, .inr ⟨w.heap.size, 0, #[], rfl, Nat.le_refl _, heap_alloc_new w _, Nat.le_refl _, by decide, by simp, by simp⟩⟩
theorem IntsO.empty (w : World) {g : Nat} (hg : g = w.heap.size) : IntsO (w.alloc (.cells #[] tI)) g (.slice (some ⟨g, 0, none⟩) 0 0) [] := by
  subst hg;exact ⟨own_empty w _ _, by simp [Lim]⟩
theorem IntsO.nil (w : World) (base : Nat) : IntsO w base (.slice none 0 0) [] := ⟨World.ownsRow_nil _ _ _ _, by simp [Lim]⟩
theorem IntsO.one (w : World) (n : Int) {base : Nat} (hb : base ≤ w.heap.size) : IntsO (w.alloc (.cells #[.int .i64 n] tI)) base (.slice (some ⟨w.heap.size, 0, none⟩) 1 1) [n] :=
  ⟨own_of_blk (Blk.new w _ _) hb rfl (by intro j hj; obtain rfl : j = 0 := by omega
                                         rfl) (Nat.le_refl _) (by decide) rfl, by simp [Lim]⟩
section
variable {ops : Array Oper} {rest : List Oper} {o : Oper} {a : Act} {Q : Exit → Act → World → Prop} {w : World}
theorem appI (hgd : o.guard = none) (s x : Operand) (ho : o.op = .call { callee := .builtin .append, args := #[s, x], argTypes := #[27, 27] })
    {base : Nat} {v : Value} {xs : List Int} (hs : a.eval s = v) (hown : IntsO w base v xs) (g0 : Nat) (n : Int) (hx : a.eval x = .slice (some ⟨g0, 0, none⟩) 1 1) (hc : w.cell? ⟨g0, 0, none⟩ = some (.int .i64 n))
    (hn : xs.length + 1 ≤ 1049600) (hb : base ≤ w.heap.size)
    (h : ∀ g c w', IntsO w' base (.slice (some ⟨g, 0, none⟩) (xs.length + 1) c) (xs ++ [n]) → w.grownBy w' v.ownBlock → Below base w w' → wpList Tryz.prog ops Q rest (a.put o.dst (.slice (some ⟨g, 0, none⟩) (xs.length + 1) c)) w') : wpList Tryz.prog ops Q (o :: rest) a w := by
  refine wpList_app hgd s x 27 ho Tryz.underlying27 infoI rfl (by decide) (by decide) hs hown.1 ⟨g0, 0, none⟩ [.int .i64 n] hx rfl ?_ (by simp [Value.oneCell']) hn hb ?_
  · intro j u hu
    match j, hu with
    | 0, hu => simp at hu; subst hu; exact hc
  · intro g c w' h1 h2 h3
    exact h g c w' ⟨by simpa [encI] using h1, by simp [Lim]; omega⟩ h2 h3
end
end
section
open Go Go.RowKit
theorem ofInt_u16 (a:Nat) (ha:a<65536):(BitVec.ofInt 16 (a:Int)).toNat=a:=by
 rw[BitVec.ofInt_natCast,BitVec.toNat_ofNat];exact Nat.mod_eq_of_lt (by omega)
theorem wrap_u16 (a:Nat) (ha:a<65536):IntKind.u16.wrap (a:Int)=a:=by
 simp[IntKind.wrap,IntKind.bits,IntKind.signed];omega
theorem u16_and_nat (a b:Nat) (ha:a<65536) (hb:b<65536):bits .and .u16 (a:Int) (b:Int)=((a &&& b:Nat):Int):=by
 have hx:a &&& b<2 ^ 16:=Nat.and_lt_two_pow _ (by omega);show IntKind.u16.wrap ((BitVec.ofInt 16 (a:Int) &&& BitVec.ofInt 16 (b:Int)).toNat:Int)=_;rw[BitVec.toNat_and,ofInt_u16 a ha,ofInt_u16 b hb,wrap_u16 _ (by omega)]
theorem u16_or_nat (a b:Nat) (ha:a<65536) (hb:b<65536):bits .or .u16 (a:Int) (b:Int)=((a|||b:Nat):Int):=by
 have hx:a|||b<2 ^ 16:=Nat.or_lt_two_pow (by omega) (by omega);show IntKind.u16.wrap ((BitVec.ofInt 16 (a:Int)|||BitVec.ofInt 16 (b:Int)).toNat:Int)=_;rw[BitVec.toNat_or,ofInt_u16 a ha,ofInt_u16 b hb,wrap_u16 _ (by omega)]
theorem bit_has (S n:Nat) (hS:S<65536):(bits .and .u16 ((S:Int) / 2 ^ n) 1 == 1)=S.testBit n:=by
 have e:((S:Int) / 2 ^ n)=((S / 2 ^ n:Nat):Int):=by simp
 have hlt:S / 2 ^ n<65536:=Nat.lt_of_le_of_lt (Nat.div_le_self _ _) hS;rw[e,show (1:Int)=((1:Nat):Int) from rfl,u16_and_nat _ _ hlt (by omega)];rw[Nat.testBit_eq_decide_div_mod_eq];rw[Nat.and_one_is_mod];rw[Bool.eq_iff_iff];simp only[beq_iff_eq,decide_eq_true_eq];omega
theorem bit_or (T n:Nat) (hT:T<65536) (hn:n<16):bits .or .u16 (T:Int) (IntKind.u16.wrap (2 ^ n))=((T|||1 <<< n:Nat):Int):=by
 have h2:2 ^ n<65536:=by
  have:2 ^ n≤2 ^ 15:=Nat.pow_le_pow_right (by omega) (by omega);omega
 have e:(2:Int) ^ n=((2 ^ n:Nat):Int):=by simp
 rw[e,wrap_u16 _ h2,u16_or_nat _ _ hT h2,Nat.one_shiftLeft]
section
variable {w w':World} {lo hi lo' hi':Nat} {v:Value} {s:Ste}
end
def addrB (n:Int):Bool:=decide (1≤n∧n≤8)
def valB (n:Int):Bool:=decide (0≤n∧n≤8)
def cellB (n:Int):Bool:=decide (n = -1) || valB n
def Ste.valid (s:Ste):Bool:=decide (s.values.length=8)&&decide (s.heap.length=8)&&(s.values.all valB&&s.heap.all cellB)
def cont (h:List Int) (a:Int):Int:=if addrB a then (h[(a-1).toNat]?).getD (-1) else -1
def allocB (h:List Int) (a:Int):Bool:=decide (0≤cont h a)
def tval (vs:List Int) (t:Int):Int:=if t=0 then 0 else (vs[(t-1).toNat]?).getD 0
def Fct.holds (vs:List Int) (f:Fct):Bool:=decide (tval vs f.a=tval vs f.b) == f.eq
def factsHold (fs:List Fct) (vs:List Int):Bool:=factsValid fs&&decide (vs.length=8)&&fs.all (Fct.holds vs)
theorem Ste.valid_len {s:Ste} (h:s.valid=true):s.values.length=8∧s.heap.length=8:=by
 simp[Ste.valid] at h;exact h.1
def walkF (h:List Int):Nat→Int→Int→Option (List Int)
 | 0,x,tz0=>if x=tz0 then some [] else none
 | n+1,x,tz0=>if x=tz0 then some [] else if allocB h x then (walkF h n (cont h x) tz0).map (x :: ·) else none
def addAll:List Int→List Int→Option (List Int)
 | seen,[]=>some seen
 | seen,c :: cs=>if c∈seen then none else addAll (seen++[c]) cs
def atomCells (s:Ste) (x:Atm):Option (List Int):=
 if x.kind=2 then walkF s.heap 8 (tval s.values x.a) (tval s.values x.b) else if cont s.heap (tval s.values x.a)=tval s.values x.b then some [tval s.values x.a] else none
def partAtoms (s:Ste):List Int→List Atm→Option (List Int)
 | seen,[]=>some seen
 | seen,x :: xs=>(atomCells s x).bind fun cs=>(addAll seen cs).bind fun seen'=>partAtoms s seen' xs
def partOf (s:Ste) (a:Asn):Option (List Int):=if s.valid&&a.valid&&factsHold a.facts s.values then partAtoms s [] a.atoms else none
end
section
open Go
def cl (c:List Int) (t:Int):Int:=(c[t.toNat]?).getD 0
def Fct.fits (c:List Int) (f:Fct):Bool:=decide (cl c f.a=cl c f.b) == f.eq
def Atm.fill (c:List Int) (x:Atm):Bool:=decide (x.kind=1) || !decide (cl c x.a=cl c x.b)
def Atm.cls (c:List Int) (x:Atm):Atm:=⟨x.kind,cl c x.a,cl c x.b⟩
def filledL (xs:List Atm) (c:List Int):List Atm:=(xs.filter (Atm.fill c)).map (Atm.cls c)
def apartF:List Int→List Atm→Bool
 | _,[]=>true
 | seen,x :: xs=>!decide (x.a=0) && !decide (x.a∈seen)&&apartF (seen++[x.a]) xs
def full (a:Asn) (c:List Int):Bool:=a.facts.all (Fct.fits c)&&apartF [] (filledL a.atoms c)
def gen (S:Nat):Nat→List Int→List (List Int)
 | 0,c=>[c]
 | n+1,c=>if S.testBit (8 - n) then (List.range (9 - n)).flatMap fun k=>if k<8 - n∧cl c k≠k then [] else gen S n (c.set (8 - n) k) else gen S n (c.set (8 - n) (-1))
def zeros:List Int:=[0,0,0,0,0,0,0,0,0]
def opened:List Int:=[0,-1,-1,-1,-1,-1,-1,-1,-1]
def cases (a:Asn) (S:Nat):List (List Int):=(gen S 9 zeros).filter (full a)
def possF (c:List Int) (last:Int) (fs:List Fct):Bool:=fs.all fun f=>!(decide (f.a≤last)&&decide (f.b≤last) && !f.fits c)
def inLast (c:List Int) (last:Int) (x:Atm):Bool:=decide (x.a≤last)&&decide (x.b≤last)&&x.fill c
def possA (c:List Int) (last:Int):List Int→List Atm→Bool
 | _,[]=>true
 | seen,x :: xs=>if inLast c last x then !decide (cl c x.a=0) && !decide (cl c x.a∈seen)&&possA c last (seen++[cl c x.a]) xs else possA c last seen xs
def poss (a:Asn) (c:List Int) (last:Int):Bool:=possF c last a.facts&&possA c last [] a.atoms
def ext (a:Asn) (S:Nat):Nat→List Int→List (List Int)
 | 0,c=>[c]
 | n+1,c=>if S.testBit (8 - n) then (List.range (9 - n)).flatMap fun k=>if k<8 - n∧cl c k≠k then [] else if poss a (c.set (8 - n) k) (8 - n:Nat) then ext a S n (c.set (8 - n) k) else [] else ext a S n (c.set (8 - n) (-1))
def fitsS (c:List Int) (fs:List Fct):Bool:=fs.all fun f=>!(decide (0≤cl c f.a)&&decide (0≤cl c f.b) && !f.fits c)
def earlyF (c:List Int):List Int→List Atm→Bool
 | _,[]=>true
 | seen,x :: xs=>if decide (x.kind=1)&&decide (0≤cl c x.a) then !decide (cl c x.a=0) && !decide (cl c x.a∈seen)&&earlyF c (seen++[cl c x.a]) xs else earlyF c seen xs
def seek (a:Asn) (S:Nat):Nat→List Int→List (List Int)
 | 0,c=>if fitsS c a.facts&&earlyF c [] a.atoms then (if apartF [] (filledL a.atoms c) then [c] else []) else []
 | n+1,c=>if fitsS c a.facts&&earlyF c [] a.atoms then (if S.testBit (8 - n) then (List.range (9 - n)).flatMap fun k=>if k<8 - n∧cl c k≠k then [] else seek a S n (c.set (8 - n) k) else seek a S n c) else []
theorem flatMap_congr' {α β:Type} {l:List α} {f g:α→List β} (h:∀ x∈l,f x=g x):l.flatMap f=l.flatMap g:=by
 induction l with
 | nil=>rfl
 | cons x xs ih=>rw[List.flatMap_cons,List.flatMap_cons,h x List.mem_cons_self,ih fun y hy=>h y (List.mem_cons_of_mem _ hy)]
section
variable {c d:List Int}
theorem cl_set (h:c.length=9) {t:Nat} (ht:t<9) (v:Int) {j:Int} (hj:0≤j):cl (c.set t v) j=if j=t then v else cl c j:=by
 unfold cl;by_cases e:j=t
 ·subst e;rw[if_pos rfl,Int.toNat_natCast,List.getElem?_set_self (by omega)];rfl
 ·rw[if_neg e,List.getElem?_set_ne (by omega)]
def Agr (c d:List Int) (last:Int):Prop:=∀ j:Int,0≤j→j≤last→cl d j=cl c j
theorem Agr.fits {f:Fct} {last:Int} (h:Agr c d last) (ha:0≤f.a) (hb:0≤f.b) (h1:f.a≤last) (h2:f.b≤last):f.fits d=f.fits c:=by
 unfold Fct.fits;rw[h _ ha h1,h _ hb h2]
theorem Agr.fill {f:Atm} {last:Int} (h:Agr c d last) (ha:0≤f.a) (hb:0≤f.b) (h1:f.a≤last) (h2:f.b≤last):f.fill d=f.fill c:=by
 unfold Atm.fill;rw[h _ ha h1,h _ hb h2]
def FactsOk (fs:List Fct):Prop:=∀ f∈fs,(0≤f.a∧f.a≤8)∧(0≤f.b∧f.b≤8)
def AtomsOk (xs:List Atm):Prop:=∀ x∈xs,(0≤x.a∧x.a≤8)∧(0≤x.b∧x.b≤8)
theorem Agr.possF {fs:List Fct} {last:Int} (h:Agr c d last) (hf:FactsOk fs):possF d last fs=possF c last fs:=by
 unfold Go.Proofs.YtgdfdmjnadnlnaaGreat.possF;rw[Bool.eq_iff_iff,List.all_eq_true,List.all_eq_true];refine forall_congr' fun f=>forall_congr' fun hm=>?_;obtain ⟨⟨h1,-⟩,⟨h2,-⟩⟩:=hf f hm;by_cases e1:f.a≤last
 ·by_cases e2:f.b≤last
  ·rw[h.fits h1 h2 e1 e2]
  ·simp[e2]
 ·simp[e1]
theorem Agr.inLast {x:Atm} {last:Int} (h:Agr c d last) (ha:0≤x.a) (hb:0≤x.b):inLast d last x=inLast c last x:=by
 unfold Go.Proofs.YtgdfdmjnadnlnaaGreat.inLast;by_cases e1:x.a≤last
 ·by_cases e2:x.b≤last
  ·rw[h.fill ha hb e1 e2]
  ·simp[e2]
 ·simp[e1]
theorem inLast_le {x:Atm} {last:Int} (h:inLast c last x=true):x.a≤last∧x.b≤last∧x.fill c=true:=by
 simp[inLast] at h;exact ⟨h.1.1,h.1.2,h.2⟩
theorem Agr.possA {last:Int} (h:Agr c d last):∀ (xs:List Atm) (seen:List Int),AtomsOk xs→possA d last seen xs=possA c last seen xs:=by
 intro xs
 induction xs with
 | nil=>intro seen _;rfl
 | cons x xs ih=>
  intro seen hx;have hx':AtomsOk xs:=fun y hy=>hx y (List.mem_cons_of_mem _ hy);obtain ⟨⟨h1,-⟩,⟨h2,-⟩⟩:=hx x List.mem_cons_self;unfold Go.Proofs.YtgdfdmjnadnlnaaGreat.possA;rw[h.inLast h1 h2];cases e:Go.Proofs.YtgdfdmjnadnlnaaGreat.inLast c last x
  ·simp only[Bool.false_eq_true,if_false];exact ih _ hx'
  ·rw[if_pos rfl,if_pos rfl,h _ h1 (inLast_le e).1,ih _ hx']
theorem Agr.poss {a:Asn} {last:Int} (h:Agr c d last) (hf:FactsOk a.facts) (hx:AtomsOk a.atoms):poss a d last=poss a c last:=by
 unfold Go.Proofs.YtgdfdmjnadnlnaaGreat.poss;rw[h.possF hf,h.possA _ _ hx]
theorem possA_iff (c:List Int) (last:Int):∀ (xs:List Atm) (seen:List Int),possA c last seen xs=true↔
  ((∀ x∈xs,inLast c last x=true→cl c x.a≠0∧cl c x.a∉seen)∧((xs.filter (inLast c last)).map fun x=>cl c x.a).Nodup):=by
 intro xs
 induction xs with
 | nil=>intro seen;simp[possA]
 | cons x xs ih=>
  intro seen;unfold possA;cases e:inLast c last x
  ·simp only[Bool.false_eq_true,if_false,ih];rw[List.filter_cons_of_neg (by simp[e])];constructor
   ·rintro ⟨h1,h2⟩;refine ⟨fun y hy=>?_,h2⟩;rcases List.mem_cons.1 hy with rfl|hy
    ·intro h;rw[e] at h;cases h
    ·exact h1 y hy
   ·rintro ⟨h1,h2⟩;exact ⟨fun y hy=>h1 y (List.mem_cons_of_mem _ hy),h2⟩
  ·rw[if_pos rfl,List.filter_cons_of_pos e,List.map_cons,List.nodup_cons];simp only[Bool.and_eq_true,Bool.not_eq_true',decide_eq_false_iff_not,ih];constructor
   ·rintro ⟨⟨g1,g2⟩,g3,g4⟩;refine ⟨fun y hy hl=>?_,?_,g4⟩
    ·rcases List.mem_cons.1 hy with rfl|hy
     ·exact ⟨g1,g2⟩
     ·have:=g3 y hy hl;exact ⟨this.1,fun h=>this.2 (List.mem_append_left _ h)⟩
    ·intro hm;obtain ⟨y,hy,ey⟩:=List.mem_map.1 hm;rw[List.mem_filter] at hy;exact (g3 y hy.1 hy.2).2 (List.mem_append_right _ (by simp[ey]))
   ·rintro ⟨g1,g2,g3⟩;have:=g1 x List.mem_cons_self e;refine ⟨⟨this.1,this.2⟩,fun y hy hl=>?_,g3⟩;have h2:=g1 y (List.mem_cons_of_mem _ hy) hl;refine ⟨h2.1,fun h=>?_⟩;rcases List.mem_append.1 h with h|h
    ·exact h2.2 h
    ·exact g2 (List.mem_map.2 ⟨y,List.mem_filter.2 ⟨hy,hl⟩,by simpa using h⟩)
theorem possA_mono {last last':Int} (hl:last≤last') {xs:List Atm} {seen:List Int} (h:possA c last' seen xs=true):possA c last seen xs=true:=by
 rw[possA_iff] at h ⊢
 have him:∀ x,inLast c last x=true→inLast c last' x=true:=by
  intro x hx;have:=inLast_le hx;simp[inLast,this.2.2];omega
 refine ⟨fun x hx hi=>h.1 x hx (him x hi),?_⟩;refine List.Nodup.sublist ?_ h.2;apply List.Sublist.map
 have e:xs.filter (inLast c last)=(xs.filter (inLast c last')).filter (inLast c last):=by
  rw[List.filter_filter];apply List.filter_congr;intro x _;cases e:inLast c last x
  ·simp
  ·simp[him x e]
 rw[e];exact List.filter_sublist
theorem possF_mono {last last':Int} (hl:last≤last') {fs:List Fct} (h:possF c last' fs=true):possF c last fs=true:=by
 unfold possF at *;rw[List.all_eq_true] at h ⊢;intro f hf;have:=h f hf;by_cases e1:f.a≤last
 ·by_cases e2:f.b≤last
  ·have e3:f.a≤last':=by omega
   have e4:f.b≤last':=by omega
   simpa [e1,e2,e3,e4] using this
  ·simp[e2]
 ·simp[e1]
theorem poss_mono {a:Asn} {last last':Int} (hl:last≤last') (h:poss a c last'=true):poss a c last=true:=by
 unfold poss at *;rw[Bool.and_eq_true] at h ⊢;exact ⟨possF_mono hl h.1,possA_mono hl h.2⟩
theorem apart_possA:∀ (xs:List Atm) (seen:List Int),AtomsOk xs→apartF seen (filledL xs c)=possA c 8 seen xs:=by
 intro xs
 induction xs with
 | nil=>intro seen _;rfl
 | cons x xs ih=>
  intro seen hx;have hx':AtomsOk xs:=fun y hy=>hx y (List.mem_cons_of_mem _ hy);obtain ⟨⟨-,h1⟩,⟨-,h2⟩⟩:=hx x List.mem_cons_self;have e:inLast c 8 x=x.fill c:=by simp[inLast,h1,h2]
  unfold possA filledL;rw[e];cases hf:x.fill c
  ·rw[List.filter_cons_of_neg (by simp[hf])];simp only[Bool.false_eq_true,if_false];exact ih _ hx'
  ·rw[List.filter_cons_of_pos hf,List.map_cons,if_pos rfl];unfold apartF;have:=ih (seen++[cl c x.a]) hx';unfold filledL at this;rw[show (Atm.cls c x).a=cl c x.a from rfl,this]
theorem full_poss {a:Asn} (hf:FactsOk a.facts) (hx:AtomsOk a.atoms):full a c=poss a c 8:=by
 unfold full poss;rw[apart_possA _ _ hx]
 congr 1
 unfold possF;rw[Bool.eq_iff_iff,List.all_eq_true,List.all_eq_true];refine forall_congr' fun f=>forall_congr' fun hm=>?_;obtain ⟨⟨-,h1⟩,⟨-,h2⟩⟩:=hf f hm;simp[h1,h2]
theorem gen_ok (S:Nat):∀ (n:Nat) (c d:List Int),n≤9→c.length=9→d∈gen S n c→d.length=9∧Agr c d (8 - n:Int)∧∀ j:Nat,9 - n≤j→j<9→(S.testBit j=true→0≤cl d j∧cl d j≤j)∧(S.testBit j=false→cl d j = -1):=by
 intro n
 induction n with
 | zero=>
  intro c d _ hc hd;simp only[gen,List.mem_singleton] at hd;subst hd;exact ⟨hc,fun j _ _=>rfl,fun j h1 h2=>by omega⟩
 | succ n ih=>
  intro c d hn hc hd
  have key:∀ v:Int,d∈gen S n (c.set (8 - n) v)→d.length=9∧Agr c d (8 - (n+1:Nat):Int)∧cl d ((8 - n:Nat):Int)=v∧∀ j:Nat,9 - n≤j→j<9→(S.testBit j=true→0≤cl d j∧cl d j≤j)∧(S.testBit j=false→cl d j = -1):=by
   intro v hd;obtain ⟨h1,h2,h3⟩:=ih _ _ (by omega) (by simpa using hc) hd;refine ⟨h1,fun j h0 hj=>?_,?_,h3⟩
   ·rw[h2 j h0 (by omega),cl_set hc (by omega) _ h0,if_neg (by omega)]
   ·rw[h2 _ (by omega) (by omega),cl_set hc (by omega) _ (by omega),if_pos rfl]
  unfold gen at hd;cases e:S.testBit (8 - n)
  ·rw[e] at hd;simp only[Bool.false_eq_true,if_false] at hd;obtain ⟨h1,h2,h3,h4⟩:=key _ hd;refine ⟨h1,h2,fun j hj hj'=>?_⟩;by_cases ej:j=8 - n
   ·subst ej;exact ⟨fun h=>(by rw[e] at h;cases h),fun _=>h3⟩
   ·exact h4 j (by omega) hj'
  ·rw[e,if_pos rfl,List.mem_flatMap] at hd;obtain ⟨k,hk,hd⟩:=hd;rw[List.mem_range] at hk
   split at hd
   ·cases hd
   ·obtain ⟨h1,h2,h3,h4⟩:=key _ hd;refine ⟨h1,h2,fun j hj hj'=>?_⟩;by_cases ej:j=8 - n
    ·subst ej;exact ⟨fun _=>by rw[h3];omega,fun h=>by rw[e] at h;cases h⟩
    ·exact h4 j (by omega) hj'
theorem gen_congr (S:Nat):∀ (n:Nat) (c d:List Int),n≤9→c.length=9→d.length=9→Agr c d (8 - n:Int)→gen S n d=gen S n c:=by
 intro n
 induction n with
 | zero=>
  intro c d _ hc hd h
  have:d=c:=by
   apply List.ext_getElem (by omega);intro j h1 h2;have:=h j (by omega) (by omega);simpa [cl,List.getElem?_eq_getElem h1,List.getElem?_eq_getElem h2] using this
  rw[this]
 | succ n ih=>
  intro c d hn hc hd h
  have key:∀ v:Int,gen S n (d.set (8 - n) v)=gen S n (c.set (8 - n) v):=by
   intro v;refine ih _ _ (by omega) (by simpa using hc) (by simpa using hd) fun j h0 hj=>?_;rw[cl_set hd (by omega) _ h0,cl_set hc (by omega) _ h0]
   split
   ·rfl
   ·exact h j h0 (by omega)
  unfold gen;rw[key]
  split
  ·apply flatMap_congr';intro k hk;rw[List.mem_range] at hk;rw[key];by_cases hlt:k<8 - n
   ·rw[h k (by omega) (by omega)]
   ·simp[hlt]
  ·rfl
theorem filter_none {α:Type} {p:α→Bool} {l:List α} (h:∀ x∈l,p x=false):l.filter p=[]:=by
 rw[List.filter_eq_nil_iff];intro x hx;simp[h x hx]
theorem ext_eq {a:Asn} {S:Nat} (hf:FactsOk a.facts) (hx:AtomsOk a.atoms) (hS:∀ t:Nat,S.testBit t=false→(∀ f∈a.facts,f.a≠t∧f.b≠t)∧(∀ x∈a.atoms,x.a≠t∧x.b≠t)) :
  ∀ (n:Nat) (c:List Int),n≤9→c.length=9→poss a c (8 - n:Int)=true→ext a S n c=(gen S n c).filter (full a):=by
 intro n
 induction n with
 | zero=>
  intro c _ hc hp;simp only[ext,gen];rw[List.filter_cons_of_pos]
  ·rfl
  ·rw[full_poss hf hx];simpa using hp
 | succ n ih=>
  intro c hn hc hp;unfold ext gen;cases e:S.testBit (8 - n)
  ·simp only[Bool.false_eq_true,if_false];refine ih _ (by omega) (by simpa using hc) ?_;obtain ⟨n1,n2⟩:=hS _ e;have hA:Agr c (c.set (8 - n) (-1)) (8 - (n+1:Nat):Int):=fun j h0 hj=>by rw[cl_set hc (by omega) _ h0,if_neg (by omega)]
   rw[←hA.poss hf hx] at hp;generalize c.set (8 - n) (-1)=d at hp ⊢;unfold poss at hp ⊢;rw[Bool.and_eq_true] at hp ⊢;constructor
   ·have h1:=hp.1;unfold possF at h1 ⊢;rw[List.all_eq_true] at h1 ⊢;intro f hm;have h2:=h1 f hm;have h3:=n1 f hm;have e1:(f.a≤(8 - (n+1:Nat):Int))↔f.a≤(8 - n:Int):=by omega
    have e2:(f.b≤(8 - (n+1:Nat):Int))↔f.b≤(8 - n:Int):=by omega
    rw[decide_eq_decide.2 e1,decide_eq_decide.2 e2] at h2;exact h2
   ·have h1:=hp.2;rw[possA_iff] at h1 ⊢
    have e0:∀ x∈a.atoms,inLast d (8 - n:Int) x=inLast d (8 - (n+1:Nat):Int) x:=by
     intro x hm;have h3:=n2 x hm;have e1:(x.a≤(8 - (n+1:Nat):Int))↔x.a≤(8 - n:Int):=by omega
     have e2:(x.b≤(8 - (n+1:Nat):Int))↔x.b≤(8 - n:Int):=by omega
     unfold inLast;rw[decide_eq_decide.2 e1,decide_eq_decide.2 e2]
    refine ⟨fun x hm hi=>h1.1 x hm (by rw[←e0 x hm];exact hi),?_⟩;rw[List.filter_congr e0];exact h1.2
  ·rw[if_pos rfl,if_pos rfl,List.filter_flatMap];apply flatMap_congr';intro k hk;rw[List.mem_range] at hk
   split
   ·rfl
   ·have hn8:((8 - n:Nat):Int)=(8 - n:Int):=by omega
    split
    ·rename_i hps;rw[hn8] at hps;exact ih _ (by omega) (by simpa using hc) hps
    ·rename_i hps
     symm
     apply filter_none;intro d hd;obtain ⟨-,h2,-⟩:=gen_ok S n _ d (by omega) (by simpa using hc) hd;cases hfu:full a d
     ·rfl
     ·rw[full_poss hf hx] at hfu;have:=poss_mono (last:=(8 - n:Int)) (by omega) hfu;rw[h2.poss hf hx,←hn8] at this;exact absurd this hps
theorem poss_low {a:Asn} (hf:FactsOk a.facts) (hx:AtomsOk a.atoms):poss a c (-1)=true:=by
 unfold poss;rw[Bool.and_eq_true];constructor
 ·unfold possF;rw[List.all_eq_true];intro f hm;have:=hf f hm;have e:¬f.a≤-1:=by omega
  simp[e]
 ·rw[possA_iff]
  have e0:∀ x∈a.atoms,inLast c (-1) x=false:=by
   intro x hm;have:=hx x hm;have e:¬x.a≤-1:=by omega
   simp[inLast,e]
  refine ⟨fun x hm hi=>(by rw[e0 x hm] at hi;cases hi),?_⟩;rw[filter_none e0];simp
theorem ext_cases {a:Asn} {S:Nat} (hf:FactsOk a.facts) (hx:AtomsOk a.atoms) (hS:∀ t:Nat,S.testBit t=false→(∀ f∈a.facts,f.a≠t∧f.b≠t)∧(∀ x∈a.atoms,x.a≠t∧x.b≠t)):ext a S 9 zeros=cases a S:=
 ext_eq hf hx hS 9 zeros (by omega) rfl (poss_low hf hx)
theorem earlyF_iff (c:List Int):∀ (xs:List Atm) (seen:List Int),earlyF c seen xs=true↔
  ((∀ x∈xs,(x.kind=1∧0≤cl c x.a)→cl c x.a≠0∧cl c x.a∉seen)∧((xs.filter fun x=>decide (x.kind=1)&&decide (0≤cl c x.a)).map fun x=>cl c x.a).Nodup):=by
 intro xs
 induction xs with
 | nil=>intro seen;simp[earlyF]
 | cons x xs ih=>
  intro seen;unfold earlyF;cases e:(decide (x.kind=1)&&decide (0≤cl c x.a))
  ·simp only[Bool.false_eq_true,if_false,ih];have e':¬(x.kind=1∧0≤cl c x.a):=by simpa using e
   rw[List.filter_cons_of_neg (by simp[e])];constructor
   ·rintro ⟨h1,h2⟩;refine ⟨fun y hy=>?_,h2⟩;rcases List.mem_cons.1 hy with rfl|hy
    ·exact fun h=>absurd h e'
    ·exact h1 y hy
   ·rintro ⟨h1,h2⟩;exact ⟨fun y hy=>h1 y (List.mem_cons_of_mem _ hy),h2⟩
  ·have e':x.kind=1∧0≤cl c x.a:=by simpa using e
   rw[if_pos rfl,List.filter_cons_of_pos (by simpa using e),List.map_cons,List.nodup_cons];simp only[Bool.and_eq_true,Bool.not_eq_true',decide_eq_false_iff_not,ih];constructor
   ·rintro ⟨⟨g1,g2⟩,g3,g4⟩;refine ⟨fun y hy hl=>?_,?_,g4⟩
    ·rcases List.mem_cons.1 hy with rfl|hy
     ·exact ⟨g1,g2⟩
     ·have:=g3 y hy hl;exact ⟨this.1,fun h=>this.2 (List.mem_append_left _ h)⟩
    ·intro hm;obtain ⟨y,hy,ey⟩:=List.mem_map.1 hm;rw[List.mem_filter] at hy;exact (g3 y hy.1 (by simpa using hy.2)).2 (List.mem_append_right _ (by simp[ey]))
   ·rintro ⟨g1,g2,g3⟩;have:=g1 x List.mem_cons_self e';refine ⟨⟨this.1,this.2⟩,fun y hy hl=>?_,g3⟩;have h2:=g1 y (List.mem_cons_of_mem _ hy) hl;refine ⟨h2.1,fun h=>?_⟩;rcases List.mem_append.1 h with h|h
    ·exact h2.2 h
    ·exact g2 (List.mem_map.2 ⟨y,List.mem_filter.2 ⟨hy,by simpa using hl⟩,by simpa using h⟩)
theorem full_early {a:Asn} (hf:FactsOk a.facts) (hx:AtomsOk a.atoms) (hA:∀ j:Int,0≤j→j≤8→0≤cl c j→cl d j=cl c j) (h:full a d=true):(fitsS c a.facts&&earlyF c [] a.atoms)=true:=by
 have hp:=h;rw[full_poss hf hx] at hp;unfold full at h;unfold poss at hp;rw[Bool.and_eq_true] at h hp ⊢;have hF:=List.all_eq_true.1 h.1;have hP:=(possA_iff _ _ _ _).1 hp.2;constructor
 ·unfold fitsS;rw[List.all_eq_true];intro f hm;obtain ⟨⟨a1,a2⟩,⟨b1,b2⟩⟩:=hf f hm;by_cases e1:0≤cl c f.a
  ·by_cases e2:0≤cl c f.b
   ·have h1:=hF f hm;unfold Fct.fits at h1 ⊢;rw[hA _ a1 a2 e1,hA _ b1 b2 e2] at h1;simp[h1]
   ·simp[e2]
  ·simp[e1]
 ·have him:∀ x∈a.atoms,x.kind=1∧0≤cl c x.a→inLast d 8 x=true∧cl d x.a=cl c x.a:=by
   rintro x hm ⟨h1,h2⟩;obtain ⟨⟨a1,a2⟩,⟨b1,b2⟩⟩:=hx x hm;exact ⟨by simp[inLast,a2,b2,Atm.fill,h1],hA _ a1 a2 h2⟩
  rw[earlyF_iff];refine ⟨fun x hm hk=>?_,?_⟩
  ·obtain ⟨g1,g2⟩:=him x hm hk;have:=(hP.1 x hm g1).1;rw[g2] at this;exact ⟨this,by simp⟩
  ·have e:((a.atoms.filter fun x=>decide (x.kind=1)&&decide (0≤cl c x.a)).map fun x=>cl c x.a)=((a.atoms.filter fun x=>decide (x.kind=1)&&decide (0≤cl c x.a)).map fun x=>cl d x.a):=by
    apply List.map_congr_left;intro x hm;rw[List.mem_filter] at hm;exact (him x hm.1 (by simpa using hm.2)).2.symm
   rw[e];refine List.Nodup.sublist ?_ hP.2;apply List.Sublist.map
   have e2:(a.atoms.filter fun x=>decide (x.kind=1)&&decide (0≤cl c x.a))=(a.atoms.filter (inLast d 8)).filter fun x=>decide (x.kind=1)&&decide (0≤cl c x.a):=by
    rw[List.filter_filter];apply List.filter_congr;intro x hm;cases e3:(decide (x.kind=1)&&decide (0≤cl c x.a))
    ·simp
    ·simp[(him x hm (by simpa using e3)).1]
   rw[e2];exact List.filter_sublist
theorem seek_eq {a:Asn} {S:Nat} (hf:FactsOk a.facts) (hx:AtomsOk a.atoms) (hS:∀ t:Nat,S.testBit t=false→(∀ f∈a.facts,f.a≠t∧f.b≠t)∧(∀ x∈a.atoms,x.a≠t∧x.b≠t)) :
  ∀ (n:Nat) (c:List Int),n≤9→c.length=9→(∀ j:Nat,9 - n≤j→j<9→cl c j = -1)→(∀ j:Nat,j<9 - n→S.testBit j=true→0≤cl c j)→seek a S n c=(gen S n c).filter (full a):=by
 intro n
 induction n with
 | zero=>
  intro c _ hc _ hp;simp only[seek,gen]
  have hF:fitsS c a.facts=a.facts.all (Fct.fits c):=by
   unfold fitsS;rw[Bool.eq_iff_iff,List.all_eq_true,List.all_eq_true];refine forall_congr' fun f=>forall_congr' fun hm=>?_;obtain ⟨⟨a1,a2⟩,⟨b1,b2⟩⟩:=hf f hm
   have k1:0≤cl c f.a:=by
    obtain ⟨t,e⟩:=Int.eq_ofNat_of_zero_le a1;rw[e];apply hp t (by omega);cases h:S.testBit t
    ·exact absurd e ((hS t h).1 f hm).1
    ·rfl
   have k2:0≤cl c f.b:=by
    obtain ⟨t,e⟩:=Int.eq_ofNat_of_zero_le b1;rw[e];apply hp t (by omega);cases h:S.testBit t
    ·exact absurd e ((hS t h).1 f hm).2
    ·rfl
   simp[k1,k2]
  cases hfu:full a c
  ·rw[filter_none (by simpa using hfu)]
   split
   ·rename_i h1;rw[Bool.and_eq_true,hF] at h1;rw[if_neg];intro h2;unfold full at hfu;rw[h1.1,h2] at hfu;cases hfu
   ·rfl
  ·rw[if_pos (full_early hf hx (fun _ _ _ _=>rfl) hfu),List.filter_cons_of_pos hfu,if_pos]
   ·rfl
   ·unfold full at hfu;rw[Bool.and_eq_true] at hfu;exact hfu.2
 | succ n ih=>
  intro c hn hc hop hp;unfold seek;cases hE:(fitsS c a.facts&&earlyF c [] a.atoms)
  ·simp only[Bool.false_eq_true,if_false]
   symm
   apply filter_none;intro d hd;obtain ⟨-,h2,-⟩:=gen_ok S (n+1) _ d hn hc hd;cases hfu:full a d
   ·rfl
   ·have:=full_early (c:=c) hf hx (fun j h0 h8 hj=>?_) hfu
    ·rw[hE] at this;cases this
    ·apply h2 j h0;by_cases hlt:(8 - (n+1:Nat):Int)<j
     ·obtain ⟨t,e⟩:=Int.eq_ofNat_of_zero_le h0;have:=hop t (by omega) (by omega);rw[e,this] at hj;omega
     ·omega
  ·rw[if_pos rfl];unfold gen;cases e:S.testBit (8 - n)
   ·simp only[Bool.false_eq_true,if_false]
    have e1:c.set (8 - n) (-1)=c:=by
     have:=hop (8 - n) (by omega) (by omega);have hl:8 - n<c.length:=by omega
     have h1:c[8 - n] = -1:=by simpa [cl,List.getElem?_eq_getElem hl] using this
     rw[←h1,List.set_getElem_self]
    rw[e1];refine ih _ (by omega) hc (fun j h1 h2=>hop j (by omega) h2) (fun j h1 h2=>?_);by_cases ej:j=8 - n
    ·subst ej;rw[e] at h2;cases h2
    ·exact hp j (by omega) h2
   ·rw[if_pos rfl,if_pos rfl,List.filter_flatMap];apply flatMap_congr';intro k hk;rw[List.mem_range] at hk
    split
    ·rfl
    ·refine ih _ (by omega) (by simpa using hc) (fun j h1 h2=>?_) (fun j h1 h2=>?_)
     ·rw[cl_set hc (by omega) _ (by omega),if_neg (by omega)];exact hop j (by omega) h2
     ·rw[cl_set hc (by omega) _ (by omega)]
      split
      ·omega
      ·exact hp j (by omega) h2
theorem seek_cases {a:Asn} {S:Nat} (hf:FactsOk a.facts) (hx:AtomsOk a.atoms) (h0:S.testBit 0=true) (hS:∀ t:Nat,S.testBit t=false→(∀ f∈a.facts,f.a≠t∧f.b≠t)∧(∀ x∈a.atoms,x.a≠t∧x.b≠t)):seek a S 8 opened=cases a S:=by
 have hop:∀ j:Nat,9 - 8≤j→j<9→cl opened j = -1:=by
  intro j h1 h2;obtain rfl|rfl|rfl|rfl|rfl|rfl|rfl|rfl:j=1∨j=2∨j=3∨j=4∨j=5∨j=6∨j=7∨j=8:=by omega
  all_goals rfl
 have hcl:∀ j:Nat,j<9 - 8→S.testBit j=true→0≤cl opened j:=by
  intro j h1 _;obtain rfl:j=0:=by omega
  decide
 rw[seek_eq hf hx hS 8 opened (by omega) rfl hop hcl];unfold cases
 congr 1
 show _=(if S.testBit 0 then _ else _);rw[if_pos h0];show _=(List.range 1).flatMap _;rw[show List.range 1=[0] from rfl];simp only[List.flatMap_cons,List.flatMap_nil,List.append_nil];rw[if_neg (by omega)];refine gen_congr S 8 (zeros.set 0 0) opened (by omega) rfl rfl fun j h1 h2=>?_;obtain rfl:j=0:=by omega
 rfl
end
theorem Asn.valid_ok {a:Asn} (h:a.valid=true):FactsOk a.facts∧AtomsOk a.atoms:=by
 simp only[Asn.valid,factsValid,Bool.and_eq_true,List.all_eq_true] at h;refine ⟨fun f hf=>?_,fun x hx=>?_⟩
 ·have:=h.1.2 f hf;simp[Fct.valid,isTermB] at this;omega
 ·have:=h.2.2 x hx;simp[Atm.valid,isTermB] at this;omega
def freeAt (atoms:List Atm) (used:List Bool) (c:Int) (k:Nat):Bool:=decide (((atoms[k]?).getD default).a=c) && !((used[k]?).getD true)
def findU (atoms:List Atm) (used:List Bool) (c:Int):Option Nat:=(List.range atoms.length).find? (freeAt atoms used c)
def closedB (atoms:List Atm) (b:Int):Bool:=decide (b=0) || atoms.any fun x=>decide (x.a=b)
def chainF (atoms:List Atm) (b:Int):Nat→List Bool→Int→Option (List Bool)
 | 0,_,_=>none
 | n+1,used,c=>(findU atoms used c).bind fun k=>
   if ((atoms[k]?).getD default).b=b then some (used.set k true)
   else if ((atoms[k]?).getD default).kind=2∧closedB atoms b=false then none
   else chainF atoms b n (used.set k true) ((atoms[k]?).getD default).b
def useOne (atoms:List Atm) (used:List Bool) (x:Atm):Option (List Bool):=
 if x.kind=1 then (findU atoms used x.a).bind fun k=>if (atoms[k]?).getD default=x then some (used.set k true) else none
 else chainF atoms x.b (atoms.length+1) used x.a
def matchF (atoms:List Atm):List Bool→List Atm→Option (List Bool)
 | used,[]=>some used
 | used,x :: xs=>(useOne atoms used x).bind fun u=>matchF atoms u xs
def matchB (atoms goal:List Atm):Bool:=match matchF atoms (List.replicate atoms.length false) goal with|some u=>u.all id|none=>false
def entB (a b:Asn) (c:List Int):Bool:=b.facts.all (Fct.fits c)&&matchB (filledL a.atoms c) (filledL b.atoms c)
theorem range_find_some {n k:Nat} {p:Nat→Bool} (hk:k<n) (hp:p k=true) (hb:∀ j,j<k→p j=false):(List.range n).find? p=some k:=by
 rw[List.find?_range_eq_some];refine ⟨hp,by simpa using hk,fun j hj=>by simp[hb j hj]⟩
theorem range_find_none {n:Nat} {p:Nat→Bool} (hb:∀ j,j<n→p j=false):(List.range n).find? p=none:=by
 rw[List.find?_eq_none];intro j hj;rw[List.mem_range] at hj;simp[hb j hj]
theorem findU_some {atoms:List Atm} {used:List Bool} {c:Int} {k:Nat} (h:findU atoms used c=some k):k<atoms.length∧freeAt atoms used c k=true:=by
 unfold findU at h;have h1:=List.mem_of_find?_eq_some h;exact ⟨by simpa using h1,List.find?_some h⟩
theorem freeAt_used {atoms:List Atm} {used:List Bool} {c:Int} {k:Nat} (h:freeAt atoms used c k=true):k<used.length∧used[k]? = some false:=by
 unfold freeAt at h
 cases e:used[k]? with
 | none=>rw[e] at h;simp at h
 | some u=>
  rw[e] at h;have:=(List.getElem?_eq_some_iff.1 e).1;cases u
  ·exact ⟨this,rfl⟩
  ·simp at h
theorem count_take {used:List Bool} {k:Nat} (h:used[k]? = some false):(used.set k true).count true=used.count true+1:=by
 induction used generalizing k with
 | nil=>simp at h
 | cons u us ih=>
  cases k with
  | zero=>simp at h;subst h;simp
  | succ k=>
   simp only[List.set_cons_succ,List.count_cons];rw[ih (by simpa using h)];omega
theorem count_all {used:List Bool}:(used.count true=used.length)↔used.all id=true:=by
 induction used with
 | nil=>simp
 | cons u us ih=>
  have:=List.count_le_length (a:=true) (l:=us);cases u
  ·simp;omega
  ·simp only[List.count_cons,beq_self_eq_true,if_true,List.length_cons,List.all_cons,id_eq,Bool.true_and];rw[←ih];omega
theorem chainF_len {atoms:List Atm} {b:Int}:∀ (n:Nat) (used:List Bool) (c:Int) (u:List Bool),chainF atoms b n used c=some u→u.length=used.length:=by
 intro n
 induction n with
 | zero=>intro used c u h;cases h
 | succ n ih=>
  intro used c u h;unfold chainF at h;rw[Option.bind_eq_some_iff] at h;obtain ⟨k,hk,h⟩:=h
  split at h
  ·cases h;simp
  ·split at h
   ·cases h
   ·rw[ih _ _ _ h];simp
theorem useOne_len {atoms:List Atm} {used:List Bool} {x:Atm} {u:List Bool} (h:useOne atoms used x=some u):u.length=used.length:=by
 unfold useOne at h
 split at h
 ·rw[Option.bind_eq_some_iff] at h;obtain ⟨k,hk,h⟩:=h
  split at h
  ·cases h;simp
  ·cases h
 ·exact chainF_len _ _ _ _ h
section
variable {P:Program} {md:Region.Mode} {S:World→Prop} {Q:Exit→Act→World→Prop}
def lastQ (P:Program) (st:Oper) (Q:Exit→Act→World→Prop):Exit→Act→World→Prop
 | .normal,a,w=>Oper.wp P st a w (Q .normal) Q
 | e,a,w=>Q e a w
def nopOf (st:Oper):Oper:={ st with op:=.assign (.const undef),dst:=none,guard:=none }
theorem wp_monoQ {o:Oper} {a:Act} {w:World} {K K':Act→World→Prop} {Q Q':Exit→Act→World→Prop} (hK:∀ a w,K a w→K' a w)
  (hQ:∀ c a w,Q (.panic c) a w→Q' (.panic c) a w) (hL:LetsOut Q→LetsOut Q') (hh:o.wp P a w K Q):o.wp P a w K' Q':=by
 unfold Oper.wp at *;generalize (execOp a.eval o).run P w=r at *
 cases r with
 | ok n w'=>
  cases n<;>simp only[Oper.upon] at hh ⊢<;>
   first
    | exact hK _ _ hh
    | exact Calls.mono hh (fun e w'' he=>by cases e<;>first|exact hK _ _ he|exact hQ _ _ _ he|exact hL he)
    | exact Rows.mono hh (fun _ _ he=>hK _ _ he)
 | halt x w'=>cases x<;>simp only[Oper.upon] at hh ⊢<;>first|exact hQ _ _ _ hh|exact hh
theorem ready_push (l:List Oper) (st:Oper) (listed:Array Bool):Region.ready md (l++[nopOf st]).toArray listed=Region.ready md (l++[st]).toArray listed:=by
 unfold Region.ready;simp only[List.size_toArray,List.length_append,List.length_cons,List.length_nil];apply List.filter_congr;intro i hi
 congr 1
 simp only[List.getElem?_toArray,List.getElem?_append]
 split
 ·rfl
 ·rcases Nat.eq_zero_or_pos (i - l.length) with h|h
  ·rw[h];rfl
  ·rw[List.getElem?_eq_none (by simp;omega),List.getElem?_eq_none (by simp;omega)]
def topoB (md:Region.Mode) (ops:Array Oper):Bool:=
 (List.range ops.size).all fun i=>match ops[i]? with|some o=>o.after.all fun e=>!Region.binds md e || decide (e.on<i)|none=>true
theorem ready_some {ops:Array Oper} (ht:topoB md ops=true) {listed:Array Bool} (hsz:listed.size=ops.size) {z:Nat} (hz:z<ops.size) (hun:listed.getD z true=false):Region.ready md ops listed≠[]:=by
 have:∀ n z,z<n→z<ops.size→listed.getD z true=false→∃ i,i∈Region.ready md ops listed:=by
  intro n
  induction n with
  | zero=>intro z h;omega
  | succ n ih=>
   intro z hzn hz hun;by_cases hm:∃ j,j<z∧listed.getD j true=false
   ·obtain ⟨j,hj,hju⟩:=hm;exact ih j (by omega) (by omega) hju
   ·refine ⟨z,mem_ready.2 ⟨hun,ops[z],Array.getElem?_eq_getElem hz,fun e he hb=>?_⟩⟩;have h1:=List.all_eq_true.1 ht z (by simpa using hz);rw[Array.getElem?_eq_getElem hz] at h1;simp only[Array.all_eq_true_iff_forall_mem] at h1;have h2:=h1 e he;rw[hb] at h2;simp at h2;cases h3:listed.getD e.on true
    ·exact absurd ⟨e.on,h2,h3⟩ hm
    ·have h4:e.on<listed.size:=by omega
     simp[h4] at h3 ⊢;exact h3
 obtain ⟨i,hi⟩:=this (z+1) z (Nat.lt_succ_self _) hz hun;intro h;rw[h] at hi;cases hi
theorem wpAny_of_last {l:List Oper} {st:Oper} (hg:(l.all fun o=>o.guard.isNone)=true) (hst:st.guard.isNone=true)
  (hs:Region.sinkB md (l++[st]).toArray l.length=true) (hc:Region.chainB md (l++[st]).toArray l.length=true) (ht:topoB md (l++[st]).toArray=true) :
  ∀ (f:Nat) (listed:Array Bool) (a:Act) (w:World),HeadInv md (l++[st]).toArray l.length listed→
   wpAnyH P md (l++[nopOf st]).toArray (lastQ P st Q) S f listed a w→wpAny P md (l++[st]).toArray Q f listed a w:=by
 have hsz:(l++[st]).toArray.size=l.length+1:=by simp
 have hzs:(l++[st]).toArray[l.length]? = some st:=by simp
 have hzn:(l++[nopOf st]).toArray[l.length]? = some (nopOf st):=by simp
 intro f
 induction f with
 | zero=>
  intro listed a w inv h;have hun:=inv.tail l.length (Nat.le_refl _) (by omega);exact absurd ((ready_push l st listed).symm.trans h.1) (ready_some ht inv.size (by omega) hun)
 | succ f ih=>
  intro listed a w inv h;have hun:=inv.tail l.length (Nat.le_refl _) (by omega);refine ⟨fun h0=>absurd h0 (ready_some ht inv.size (by omega) hun),fun i hi=>?_⟩;have hi':i∈Region.ready md (l++[nopOf st]).toArray listed:=by rw[ready_push];exact hi
  have h1:=h.2 i hi';obtain ⟨_,oi,hoi,_⟩:=mem_ready.1 hi;have hil:i<l.length+1:=by have:=(Array.getElem?_eq_some_iff.1 hoi).1;omega
  by_cases hiz:i=l.length
  ·subst hiz
   have hall:∀ j,j<l.length→listed.getD j true=true:=by
    intro j hj;cases hu:listed.getD j true
    ·exact absurd hi (tail_waits hs hc (by omega) inv _ j rfl hj hu l.length (Nat.le_refl _))
    ·rfl
   have hnil:Region.ready md (l++[st]).toArray (listed.setIfInBounds l.length true)=[]:=by
    rw[List.eq_nil_iff_forall_not_mem];intro j hj;obtain ⟨hju,oj,hoj,_⟩:=mem_ready.1 hj;have hjl:j<l.length+1:=by have:=(Array.getElem?_eq_some_iff.1 hoj).1;omega
    by_cases e:l.length=j
    ·subst e;have:l.length<listed.size:=by have:=inv.size;omega
     simp[this] at hju
    ·rw[getD_set_ne true e,hall j (by omega)] at hju;cases hju
   unfold wpOp at h1 ⊢;simp only[hzn,hzs] at h1 ⊢;have hw1:Region.wanted (nopOf st) (yielded (l++[nopOf st]).toArray a.tmps)=true:=by simp[Region.wanted,nopOf]
   have hgs:st.guard=none:=by simpa using hst
   have hw2:Region.wanted st (yielded (l++[st]).toArray a.tmps)=true:=by simp[Region.wanted,hgs]
   rw[hw1,if_pos rfl] at h1;rw[hw2,if_pos rfl];refine Or.inl ?_
   have h2:wpAnyH P md (l++[nopOf st]).toArray (lastQ P st Q) S f (listed.setIfInBounds l.length true) a w:=by
    rcases h1 with h1|⟨h1,_⟩
    ·unfold Oper.wp at h1;simp[nopOf,execOp,Oper.upon,Act.put,Act.eval] at h1;exact h1.2
    ·simp[Oper.asks,nopOf,execOp] at h1;exact absurd h1 (by intro h;cases h;rename_i h;cases h)
   have h3:lastQ P st Q .normal a w:=by
    rw[←ready_push] at hnil
    cases f with
    | zero=>exact h2.2
    | succ f=>exact h2.1 hnil
   refine Oper.wp_mono (fun a' w' hq=>?_) h3
   cases f with
   | zero=>exact ⟨hnil,hq⟩
   | succ f=>exact ⟨fun _=>hq,by rw[hnil];simp⟩
  ·have hlt:i<l.length:=by omega
   have e1:(l++[st]).toArray[i]? = some l[i]:=by simp[List.getElem?_append,hlt]
   have e2:(l++[nopOf st]).toArray[i]? = some l[i]:=by simp[List.getElem?_append,hlt]
   have hgi:l[i].guard=none:=by have:=List.all_eq_true.1 hg l[i] (List.getElem_mem hlt);simpa using this
   unfold wpOp at h1 ⊢;simp only[e1,e2] at h1 ⊢;have hw1:Region.wanted l[i] (yielded (l++[nopOf st]).toArray a.tmps)=true:=by simp[Region.wanted,hgi]
   have hw2:Region.wanted l[i] (yielded (l++[st]).toArray a.tmps)=true:=by simp[Region.wanted,hgi]
   rw[hw1,if_pos rfl] at h1;rw[hw2,if_pos rfl];rcases h1 with h1|⟨h1,h2⟩
   ·exact Or.inl (wp_monoQ (K:=fun a' w'=>S w'∧wpAnyH P md (l++[nopOf st]).toArray (lastQ P st Q) S f (listed.setIfInBounds i true) a' w') (fun a' w' hk=>ih _ _ _ (inv.set hi hlt) hk.2) (fun c a w h=>h) (fun h=>h) h1)
   ·exact Or.inr ⟨h1,h2⟩
theorem wp_region_last {l:List Oper} {st:Oper} {id:Nat} {a:Act} {w:World} (hm:P.follows .mixedOrders=true) (hg:(l.all fun o=>o.guard.isNone)=true) (hst:st.guard.isNone=true)
  (hs:Region.sinkB .any (l++[st]).toArray l.length=true) (hc:Region.chainB .any (l++[st]).toArray l.length=true) (ht:topoB .any (l++[st]).toArray=true) (hS:S w.drew)
  (h:S w.drew→wpAnyH P .any (l++[nopOf st]).toArray (lastQ P st Q) S (l.length+1) (Array.replicate (l.length+1) false) a w.drew):(Code.region id (l++[st]).toArray true).wp P Q a w:=by
 refine wp_region_any hm ?_;have e:(l++[st]).toArray.size=l.length+1:=by simp
 rw[e];refine wpAny_of_last hg hst hs hc ht _ _ _ _ ⟨by simp,fun j oj _ hl=>?_,fun t _ ht=>?_⟩ (h hS)
 ·rw[getD_replicate_false] at hl;cases hl
 ·exact getD_in (by simpa using ht) (getD_replicate_false _ _)
def lastB (L:List Oper):Bool:=
 match L.getLast? with
 | none=>false
 | some st=>(L.dropLast.all fun o=>o.guard.isNone)&&st.guard.isNone&&Region.sinkB .any L.toArray L.dropLast.length&&Region.chainB .any L.toArray L.dropLast.length&&topoB .any L.toArray
theorem wp_region_last' {L:List Oper} {id:Nat} {a:Act} {w:World} (hne:L≠[]) (hm:P.follows .mixedOrders=true) (hB:lastB L=true) (hS:S w.drew)
  (h:S w.drew→wpAnyH P .any (L.dropLast++[nopOf (L.getLast hne)]).toArray (lastQ P (L.getLast hne) Q) S L.length (Array.replicate L.length false) a w.drew):(Code.region id L.toArray true).wp P Q a w:=by
 have e:L.dropLast++[L.getLast hne]=L:=List.dropLast_concat_getLast hne;unfold lastB at hB;rw[List.getLast?_eq_some_getLast hne] at hB;simp only[Bool.and_eq_true] at hB;obtain ⟨⟨⟨⟨h1,h2⟩,h3⟩,h4⟩,h5⟩:=hB;have hl:L.dropLast.length+1=L.length:=by have:=congrArg List.length e;simpa using this
 have key:=wp_region_last (P:=P) (S:=S) (Q:=Q) (l:=L.dropLast) (st:=L.getLast hne) (id:=id) (a:=a) (w:=w) hm h1 h2 (by rw[e];exact h3) (by rw[e];exact h4) (by rw[e];exact h5) hS (by rw[hl];exact h)
 rwa [e] at key
end
end
end Go.Proofs.YtgdfdmjnadnlnaaGreat
