/- Words for memory: slices that read as lists of cells, whole blocks, prefixes. Plain lemmas; no program. -/
import Derived.WalkKit
import Derived.Lib.Hide
import Derived.BigQuiet
import Derived.Deep.QuietTactic
import Derived.Deep.AppendLies
import Derived.Deep.Draws
import Derived.Deep.RegionHeld
import Derived.OwnWalk
import Derived.StillTailTactics
import Derived.Test.YtjbboklnegfohaaGreatDoorProg
import Derived.ProofKit
import Derived.OpenShut
import Derived.Deep.Slices
import Derived.ChangeSame
import Derived.Laws.BitsAllLaws
import Derived.Laws.BitsLemmas
import Derived.StillTail
import Derived.Shelf.Strings.Builder1
import Derived.Shelf.Strings.Builder2
import Derived.Shelf.Strings.OnBuilder
import Derived.Shelf.Strings.BuilderF
import Derived.Shelf.Strings.BuilderK
import Derived.Shelf.Small.Wraps
import Derived.Shelf.Utf8.RuneCount
import Derived.Shelf.Strings.Search1
import Derived.Shelf.Strings.Search2
import Derived.Shelf.Strings.Search3
import Derived.Shelf.Strings.Cut
import Derived.Shelf.Strings.Count
import Derived.Shelf.LaysM
import Derived.Shelf.Strings.Shaped
import Derived.Shelf.Strings.Prefix
import Derived.Shelf.Strings.Split
import Derived.Shelf.Strings.SplitShaped
import Derived.Shelf.Unicode.Decode
import Derived.Shelf.Strings.RuneCount
import Derived.Shelf.Strings.Explode
import Derived.Shelf.Unicode.DecodeSlow
import Derived.Shelf.Unicode.DecodeAny
import Derived.RangeFuncWrites
import Derived.RangeFuncLeaves
import Derived.RangeFuncBound
import Derived.RangeFuncCalls
import Derived.OwnWalkIn
import Derived.TacticsInMore
import Derived.LoopNIn
import Derived.LoopIn
import Derived.OrdersIn
import Derived.Deep.RegionHeld3
set_option linter.unusedSimpArgs false
set_option linter.unusedVariables false
namespace Go.Proofs.YtjbboklnegfohaaGreatDoor
open Go Go.RowKit
abbrev Lim (n:Nat):Prop:=n≤1049600
theorem ret_bool {a b:Bool} (h:a=b):Ending.returned (.bool a)=.returned (.bool b):=by rw[h]
theorem ret_int {k:IntKind} {a b:Int} (h:a=b):Ending.returned (.int k a)=.returned (.int k b):=by rw[h]
def Rw (w:World) (lo hi size:Nat) (A:Option Addr) (n:Nat) (xs:List Value):Prop:=
 xs.length=n * size∧(0<n * size→∃ b o,A=some ⟨b,o,none⟩∧lo≤b∧b<hi∧∀ j u,xs[j]? = some u→w.cell? ⟨b,o+j,none⟩=some u)
structure Rd (w:World) (lo hi size:Nat) (A:Option Addr) (n:Nat) (xs:List Value):Prop where
 raw:Rw w lo hi size A n xs
 lim:Lim n
section
variable {w w':World} {lo hi lo' hi' size n:Nat} {A:Option Addr} {xs:List Value}
theorem Rw.keep (h:Rw w lo hi size A n xs) (hk:∀ b,lo≤b→b<hi→w'.heap[b]? = w.heap[b]?):Rw w' lo hi size A n xs:=
 ⟨h.1,fun hn=>by
  obtain ⟨b,o,e,h1,h2,hc⟩:=h.2 hn
  exact ⟨b,o,e,h1,h2,fun j u hu=>(World.cell?_of_block (a:=⟨b,o+j,none⟩) (hk b h1 h2)).trans (hc j u hu)⟩⟩
theorem Rw.mono (h:Rw w lo hi size A n xs) (h1:lo'≤lo) (h2:hi≤hi'):Rw w lo' hi' size A n xs:=
 ⟨h.1,fun hn=>by
  obtain ⟨b,o,e,g1,g2,hc⟩:=h.2 hn
  exact ⟨b,o,e,by omega,by omega,hc⟩⟩
theorem Rd.keep (h:Rd w lo hi size A n xs) (hk:∀ b,lo≤b→b<hi→w'.heap[b]? = w.heap[b]?):Rd w' lo hi size A n xs:=⟨h.raw.keep hk,h.lim⟩
theorem Rd.mono (h:Rd w lo hi size A n xs) (h1:lo'≤lo) (h2:hi≤hi'):Rd w lo' hi' size A n xs:=⟨h.raw.mono h1 h2,h.lim⟩
theorem Rd.le (h:Rd w lo hi size A n xs):n≤1049600:=h.lim
theorem Rd.nil (w:World) (lo hi size:Nat) (A:Option Addr):Rd w lo hi size A 0 []:=⟨⟨by simp,fun h=>absurd h (by omega)⟩,by simp[Lim]⟩
theorem Rw.at1 (h:Rw w lo hi 1 A n xs) {k:Nat} (hk:k<n):∃ b o u,A=some ⟨b,o,none⟩∧lo≤b∧b<hi∧xs[k]? = some u∧w.cell? ⟨b,o+k,none⟩=some u:=by
 obtain ⟨b,o,e,h1,h2,hc⟩:=h.2 (by omega)
 have hl:k<xs.length:=by have:=h.1;omega
 exact ⟨b,o,xs[k],e,h1,h2,List.getElem?_eq_getElem hl,hc k _ (List.getElem?_eq_getElem hl)⟩
theorem Rw.form (h:Rw w lo hi size A n xs) (hn:0<n * size):∃ b o,A=some ⟨b,o,none⟩∧lo≤b∧b<hi∧∀ j u,xs[j]? = some u→w.cell? ⟨b,o+j,none⟩=some u:=h.2 hn
end
def Blk (w:World) (g:Nat) (t:TypeId) (cs:Array Value):Prop:=w.heap[g]? = some (.cells cs t (0,0))
section
variable {w w':World} {g:Nat} {t:TypeId} {cs:Array Value}
theorem Blk.lt (h:Blk w g t cs):g<w.heap.size:=by
 rcases Nat.lt_or_ge g w.heap.size with hlt|hge
 ·exact hlt
 ·unfold Blk at h;rw[Array.getElem?_eq_none hge] at h;cases h
theorem Blk.cell (h:Blk w g t cs) (i:Nat):w.cell? ⟨g,i,none⟩=cs[i]?:=cell_of_row w g i cs t (0,0) h
theorem Blk.frozen (h:Blk w g t cs) (i:Nat):w.frozen? ⟨g,i,none⟩=false:=by
 unfold Blk at h
 simp[World.frozen?,h]
theorem Blk.new (w:World) (t:TypeId) (cs:Array Value):Blk (w.alloc (.cells cs t)) w.heap.size t cs:=heap_alloc_new w _
theorem Blk.newE {w:World} {g:Nat} {t:TypeId} {cs:Array Value} (hg:g=w.heap.size):Blk (w.alloc (.cells cs t)) g t cs:=by subst hg;exact Blk.new w t cs
theorem Blk.drew (h:Blk w g t cs):Blk w.drew g t cs:=h
theorem Blk.drewN (h:Blk w g t cs) (n:Nat):Blk (w.drewN n) g t cs:=h
theorem Blk.alloc (h:Blk w g t cs) (o:Obj):Blk (w.alloc o) g t cs:=(Below.heap_alloc w o g h.lt).trans h
theorem Blk.set_ (h:Blk w g t cs) (i:Nat) (u:Value):Blk (w.setCell ⟨g,i,none⟩ u) g t (cs.setIfInBounds i u):=by
 unfold Blk at h ⊢
 simp[World.setCell,Array.getElem?_modify,h]
theorem Blk.far (h:Blk w g t cs) {p:Addr} (hp:g≠p.block) (u:Value):Blk (w.setCell p u) g t cs:=(Below.heap_setCell w p u g hp).trans h
theorem Blk.below {B:Nat} (h:Blk w g t cs) (hb:Below B w w') (hg:g<B):Blk w' g t cs:=(hb.block g hg).trans h
theorem Blk.grown {row:Option Nat} (h:Blk w g t cs) (hb:w.grownBy w' row) (hg:some g≠row):Blk w' g t cs:=(hb.block g h.lt hg).trans h
theorem Blk.ne_ {g2:Nat} {t2:TypeId} {cs2:Array Value} (h:Blk w g t cs) (h2:Blk w g2 t2 cs2) (ht:t≠t2):g≠g2:=by
 rintro rfl
 unfold Blk at h h2
 rw[h] at h2
 injection h2 with h2
 injection h2 with _ h3
 exact ht h3
end
def Pre (cs:Array Value) (L:List Value) (m:Nat):Prop:=∀ j,j<m→cs[j]? = L[j]?
theorem Pre.zero (cs:Array Value) (L:List Value):Pre cs L 0:=fun j h=>absurd h (by omega)
theorem Pre.set1 {cs:Array Value} {L:List Value} {k:Nat} {u:Value} (h:Pre cs L k) (hs:k<cs.size) (h0:L[k]? = some u):Pre (cs.setIfInBounds k u) L (k+1):=by
 intro j hj
 by_cases e:j=k
 ·subst e;rw[Array.getElem?_setIfInBounds_self,if_pos hs,h0]
 ·rw[Array.getElem?_setIfInBounds_ne (by omega)];exact h j (by omega)
theorem Pre.set3 {cs:Array Value} {L:List Value} {k:Nat} {u0 u1 u2:Value} (h:Pre cs L (k * 3)) (hs:k * 3+2<cs.size) (h0:L[k*3]? = some u0) (h1:L[k*3+1]? = some u1) (h2:L[k*3+2]? = some u2) :
  Pre (((cs.setIfInBounds (k*3) u0).setIfInBounds (k*3+1) u1).setIfInBounds (k*3+2) u2) L ((k+1) * 3):=by
 rw[show (k+1) * 3=k * 3+1+1+1 from by omega]
 exact ((h.set1 (by omega) h0).set1 (by simp;omega) h1).set1 (by simp;omega) h2
theorem Pre.take {cs:Array Value} {L:List Value} (h:Pre cs L L.length):cs.toList.take L.length=L:=by
 apply List.ext_getElem?
 intro j
 rw[List.getElem?_take]
 by_cases hj:j<L.length
 ·rw[if_pos hj];simpa using h j hj
 ·rw[if_neg hj];simp;omega
theorem own_of_blk {w:World} {g base n size cap:Nat} {t:TypeId} {cs:Array Value} {L:List Value} (h:Blk w g t cs) (hb:base≤g) (hL:L.length=n * size) (hp:Pre cs L (n * size)) (hnc:n≤cap) (hc:cap≤maxLen) (hs:cs.size=cap * size) :
  w.ownsRow base t size (.slice (some ⟨g,0,none⟩) n cap) n L:=by
 refine ⟨hL,.inr ⟨g,cap,cs,rfl,hb,h,hnc,hc,hs,?_⟩⟩
 rw[←hL] at hp ⊢
 exact hp.take
theorem own_reads {w:World} {base:Nat} {e:TypeId} {size:Nat} {v:Value} {n:Nat} {xs:List Value} (h:w.ownsRow base e size v n xs) (hl:Lim n):∃ A c,v=.slice A n c∧Rd w base w.heap.size size A n xs:=by
 obtain ⟨h1,h2⟩:=h
 rcases h2 with ⟨rfl,rfl⟩|⟨g,cap,cur,rfl,hb,hg,hn,hm,hs,ht⟩
 ·exact ⟨none,0,rfl,⟨⟨h1,fun hn=>absurd hn (by omega)⟩,hl⟩⟩
 ·refine ⟨_,_,rfl,⟨⟨h1,fun hn0=>⟨g,0,rfl,hb,Blk.lt hg,fun j u hu=>?_⟩⟩,hl⟩⟩
  rw[Nat.zero_add,cell_of_row w g j cur e (0,0) hg]
  rw[←ht,List.getElem?_take] at hu
  split at hu
  ·simpa using hu
  ·cases hu
theorem own_below {w w':World} {base:Nat} {e:TypeId} {size:Nat} {v:Value} {n:Nat} {xs:List Value} (h:w.ownsRow base e size v n xs) (hb:Below w.heap.size w w'):w'.ownsRow base e size v n xs:=by
 obtain ⟨h1,h2⟩:=h
 refine ⟨h1,?_⟩
 rcases h2 with h2|⟨g,cap,cur,hv,hg,hh,r⟩
 ·exact Or.inl h2
 ·exact Or.inr ⟨g,cap,cur,hv,hg,(hb.block g (Blk.lt hh)).trans hh,r⟩
theorem own_lower {w:World} {base base':Nat} {e:TypeId} {size:Nat} {v:Value} {n:Nat} {xs:List Value} (h:w.ownsRow base e size v n xs) (hb:base'≤base):w.ownsRow base' e size v n xs:=by
 obtain ⟨h1,h2⟩:=h
 refine ⟨h1,?_⟩
 rcases h2 with h2|⟨g,cap,cur,hv,hg,r⟩
 ·exact Or.inl h2
 ·exact Or.inr ⟨g,cap,cur,hv,by omega,r⟩
theorem below_drewN {B:Nat} {a w:World} (h:Below B a w) (n:Nat):Below B a (w.drewN n):=⟨h.os,h.tape,h.output,h.size,h.block⟩
theorem bgo {w a b:World} (h:Below w.heap.size w a) (h2:Below a.heap.size a b):Below w.heap.size w b:=h.trans (h2.mono h.size)
theorem bbox {w a:World} (h:Below w.heap.size w a) (o:Obj):Below w.heap.size w (a.alloc o):=h.alloc h.size o
theorem Rw.below {w w':World} {lo hi size n:Nat} {A:Option Addr} {xs:List Value} (h:Rw w lo hi size A n xs) (hb:Below w.heap.size w w'):Rw w' lo hi size A n xs:=
 ⟨h.1,fun hn=>by
  obtain ⟨b,o,e,h1,h2,hc⟩:=h.2 hn
  have h0:=h.1
  have hx:xs[0]? = some (xs[0]'(by omega)):=List.getElem?_eq_getElem (by omega)
  have hlt:b<w.heap.size:=block_lt_of_cell (hc 0 _ hx)
  exact ⟨b,o,e,h1,h2,fun j u hu=>(World.cell?_of_block (a:=⟨b,o+j,none⟩) (hb.block b hlt)).trans (hc j u hu)⟩⟩
theorem Rd.below {w w':World} {lo hi size n:Nat} {A:Option Addr} {xs:List Value} (h:Rd w lo hi size A n xs) (hb:Below w.heap.size w w'):Rd w' lo hi size A n xs:=⟨h.raw.below hb,h.lim⟩
theorem Rd.setb {w:World} {lo hi size n:Nat} {A:Option Addr} {xs:List Value} (h:Rd w lo hi size A n xs) {p:Addr} (hp:p.block<lo∨hi≤p.block) (u:Value):Rd (w.setCell p u) lo hi size A n xs:=
 h.keep fun b h1 h2=>Below.heap_setCell w p u b (by omega)
theorem Blk.next {w w':World} {g:Nat} {t:TypeId} {cs:Array Value} (h:Blk w g t cs) (hb:Below w.heap.size w w'):Blk w' g t cs:=h.below hb h.lt
theorem bcell {W w1:World} (hb:Below W.heap.size W w1):(∀ b o,b<W.heap.size→w1.cell? ⟨b,o,none⟩=W.cell? ⟨b,o,none⟩)∧(∀ b o,b<W.heap.size→w1.frozen? ⟨b,o,none⟩=W.frozen? ⟨b,o,none⟩):=
 ⟨fun b o h=>hb.cell (p:=⟨b,o,none⟩) h,fun b o h=>hb.frozen (p:=⟨b,o,none⟩) h⟩
theorem bel {B:Nat} {a w:World} (h:Below B a w:=by repeat (first|(with_reducible exact Below.refl _ _)|(with_reducible assumption)|(with_reducible apply bbox)|((with_reducible apply Below.setCell);(case hp=>(first|exact Nat.le_refl _|(simp;done)|(simp;omega)|(simp only;omega)|omega)))|(with_reducible apply Below.drew)|(with_reducible apply below_drewN))):Below B a w:=h
theorem blks {w:World} {g:Nat} {t:TypeId} {cs:Array Value} (h:Blk w g t cs:=by repeat (first|(with_reducible assumption)|(with_reducible exact Blk.new _ _ _)|((with_reducible apply Blk.far);(case hp=>(first|exact Nat.le_refl _|(simp;done)|(simp;omega)|(simp only;omega)|omega)))|(with_reducible apply Blk.set_)|((with_reducible refine Blk.newE ?_);(simp;done))|(with_reducible apply Blk.alloc)|(with_reducible apply Blk.drew)|(with_reducible apply Blk.drewN))):Blk w g t cs:=h
/-! shorter words for the moves through a drawn region -/
theorem zA {α:Type} {xs:List α} {i:Nat} (h:i<xs.toArray.size):xs.toArray[i]=xs[i]'(by simpa using h):=List.getElem_toArray h
theorem zB {α:Type} {a:α} {ls:List α} (h:0<(a :: ls).length):(a :: ls)[0]=a:=rfl
theorem zC {α:Type} {a:α} {ls:List α} {i:Nat} (h:i+1<(a :: ls).length):(a :: ls)[i+1]=ls[i]'(Nat.lt_of_succ_lt_succ h):=rfl
theorem zD {α:Type} {xs:List α} {i:Nat} {v:α}:xs.toArray.setIfInBounds i v=(xs.set i v).toArray:=List.setIfInBounds_toArray _ _ _
theorem zE {α:Type} {a b:α} {ls:List α}:(a :: ls).set 0 b=b :: ls:=rfl
theorem zF {α:Type} {a b:α} {ls:List α} {i:Nat}:(a :: ls).set (i+1) b=a :: ls.set i b:=rfl
/-! boxes made at the beginning -/
theorem bx1 {w:World} {F:World→Prop} {t1:TypeId} {c1:Array Value} (h:∀ W,Blk W w.heap.size t1 c1→Below w.heap.size w W→W.heap.size=w.heap.size+1→F W):F (w.alloc (.cells c1 t1)):=
 h _ (Blk.new _ _ _) ((Below.refl _ _).alloc (Nat.le_refl _) _) (by simp)
theorem bx2 {w:World} {F:World→Prop} {t1 t2:TypeId} {c1 c2:Array Value} (h:∀ W,Blk W w.heap.size t1 c1→Blk W (w.heap.size+1) t2 c2→Below w.heap.size w W→W.heap.size=w.heap.size+2→F W):F ((w.alloc (.cells c1 t1)).alloc (.cells c2 t2)):=
 h _ ((Blk.new _ _ _).alloc _) (by have:=Blk.new (w.alloc (.cells c1 t1)) t2 c2;rwa [World.size_alloc] at this) (((Below.refl _ _).alloc (Nat.le_refl _) _).alloc (by simp) _) (by simp)
section
variable {P:Program} {md:Region.Mode} {ops:Array Oper} {S:World→Prop} {Q:Exit→Act→World→Prop} {fuel:Nat} {listed:Array Bool} {a:Act} {w:World}
theorem tk (i:Nat) (v:Value) {o:Oper} (hi:ops[i]? = some o) (hy:∀ w,S w→(execOp a.eval o).run P w=.ok (.value v) w) (hS:S w) (h:wpAnyH P md ops Q S fuel (listed.setIfInBounds i true) (a.put o.dst v) w)
  (hn:Region.wanted o (yielded ops a.tmps)=true:=by rfl) (hs:Region.noSelect ops=true:=by kernel_rfl) (hf:Region.free md ops listed i=true:=by kernel_rfl) (hr:(Region.ready md ops listed).contains i=true:=by kernel_rfl) (hQ:∀ c a w,Q (.panic c) (a.put o.dst v) w→Q (.panic c) a w:=by exact fun _ _ _ h=>h):wpAnyH P md ops Q S (fuel+1) listed a w:=
 wpAnyH_take hi hs hf hr hQ (Or.inl ⟨hn,hy⟩) hS h
theorem rdc (i:Nat) {o:Oper} (ho:ops[i]? = some o) (h:∀ K':Act→World→Prop,Shut (∀ a w,S w→(S w→wpAnyH P md ops Q S fuel (listed.setIfInBounds i true) a w)→K' a w)→if Region.wanted o (yielded ops a.tmps)=true then Oper.wp P o a w K' Q else K' (a.put o.dst undef) w)
  (hr:Region.ready md ops listed=[i]:=by kernel_rfl):wpAnyH P md ops Q S (fuel+1) listed a w:=wpAnyH_ready hr (by simp) (AllReadyH.cons ho h AllReadyH.nil)
end
end Go.Proofs.YtjbboklnegfohaaGreatDoor

/- The plain data and the plain functions: facts, atoms, assertions, contracts. No program. -/
namespace Go.Proofs.YtjbboklnegfohaaGreatDoor
open Go Go.RowKit
structure Fct where
 eq:Bool
 a:Int
 b:Int
deriving DecidableEq,Inhabited
structure Atm where
 kind:Int
 a:Int
 b:Int
deriving DecidableEq,Inhabited
structure Asn where
 facts:List Fct
 atoms:List Atm
deriving DecidableEq,Inhabited
structure Ctr where
 pre:Asn
 post:Asn
 changes:List Int
deriving DecidableEq,Inhabited
structure Ste where
 values:List Int
 heap:List Int
deriving DecidableEq,Inhabited
def Fct.enc (f:Fct):List Value:=[.bool f.eq,.int .i64 f.a,.int .i64 f.b]
def Atm.enc (x:Atm):List Value:=[.int .i64 x.kind,.int .i64 x.a,.int .i64 x.b]
abbrev Fct.val (f:Fct):Value:=.agg #[.bool f.eq,.int .i64 f.a,.int .i64 f.b]
abbrev Atm.val (x:Atm):Value:=.agg #[.int .i64 x.kind,.int .i64 x.a,.int .i64 x.b]
theorem flat3 {α:Type} (f0 f1 f2:α→Value) (fs:List α) (k:Nat) (hk:k<fs.length) :
  (fs.flatMap fun x=>[f0 x,f1 x,f2 x])[k*3]? = some (f0 fs[k])∧(fs.flatMap fun x=>[f0 x,f1 x,f2 x])[k*3+1]? = some (f1 fs[k])∧(fs.flatMap fun x=>[f0 x,f1 x,f2 x])[k*3+2]? = some (f2 fs[k]):=by
 induction fs generalizing k with
 | nil=>simp at hk
 | cons f fs ih=>
  cases k with
  | zero=>simp
  | succ k=>
   have:=ih k (by simpa using hk)
   simp only[List.flatMap_cons,List.getElem_cons_succ,List.getElem?_append,List.length_cons,List.length_nil]
   rw[if_neg (by omega),if_neg (by omega),if_neg (by omega)]
   have e1:(k+1)*3 - (0+1+1+1)=k*3:=by omega
   have e2:(k+1)*3+1 - (0+1+1+1)=k*3+1:=by omega
   have e3:(k+1)*3+2 - (0+1+1+1)=k*3+2:=by omega
   rw[e1,e2,e3];exact this
abbrev encF (fs:List Fct):List Value:=fs.flatMap fun f=>[.bool f.eq,.int .i64 f.a,.int .i64 f.b]
abbrev encA (xs:List Atm):List Value:=xs.flatMap fun x=>[.int .i64 x.kind,.int .i64 x.a,.int .i64 x.b]
abbrev encI (xs:List Int):List Value:=xs.map (Value.int .i64)
abbrev encB (xs:List Bool):List Value:=xs.map Value.bool
def FactsV (w:World) (lo hi:Nat) (A:Option Addr) (fs:List Fct):Prop:=Rd w lo hi 3 A fs.length (encF fs)
def AtomsV (w:World) (lo hi:Nat) (A:Option Addr) (xs:List Atm):Prop:=Rd w lo hi 3 A xs.length (encA xs)
def IntsV (w:World) (lo hi:Nat) (A:Option Addr) (xs:List Int):Prop:=Rd w lo hi 1 A xs.length (encI xs)
def AsnV (w:World) (lo hi:Nat) (v:Value) (a:Asn):Prop:=
 ∃ A1 c1 A2 c2,v=.agg #[.slice A1 a.facts.length c1,.slice A2 a.atoms.length c2]∧FactsV w lo hi A1 a.facts∧AtomsV w lo hi A2 a.atoms
section
variable {w w':World} {lo hi:Nat} {A:Option Addr}
theorem FactsV.at {fs:List Fct} (h:FactsV w lo hi A fs) {k:Nat} (hk:k<fs.length):∃ b o,A=some ⟨b,o,none⟩∧w.cell? ⟨b,o+k*3,none⟩=some (.bool fs[k].eq)∧w.cell? ⟨b,o+k*3+1,none⟩=some (.int .i64 fs[k].a)∧w.cell? ⟨b,o+k*3+2,none⟩=some (.int .i64 fs[k].b):=by
 obtain ⟨b,o,e,_,hb,hc⟩:=h.raw.2 (by omega)
 obtain ⟨h0,h1,h2⟩:=flat3 (fun f:Fct=>.bool f.eq) (fun f=>.int .i64 f.a) (fun f=>.int .i64 f.b) fs k hk
 exact ⟨b,o,e,hc _ _ h0,hc _ _ h1,hc _ _ h2⟩
theorem AtomsV.at {fs:List Atm} (h:AtomsV w lo hi A fs) {k:Nat} (hk:k<fs.length):∃ b o,A=some ⟨b,o,none⟩∧w.cell? ⟨b,o+k*3,none⟩=some (.int .i64 fs[k].kind)∧w.cell? ⟨b,o+k*3+1,none⟩=some (.int .i64 fs[k].a)∧w.cell? ⟨b,o+k*3+2,none⟩=some (.int .i64 fs[k].b):=by
 obtain ⟨b,o,e,_,hb,hc⟩:=h.raw.2 (by omega)
 obtain ⟨h0,h1,h2⟩:=flat3 (fun f:Atm=>.int .i64 f.kind) (fun f=>.int .i64 f.a) (fun f=>.int .i64 f.b) fs k hk
 exact ⟨b,o,e,hc _ _ h0,hc _ _ h1,hc _ _ h2⟩
theorem IntsV.at {fs:List Int} (h:IntsV w lo hi A fs) {k:Nat} (hk:k<fs.length):∃ b o,A=some ⟨b,o,none⟩∧w.cell? ⟨b,o+k,none⟩=some (.int .i64 fs[k]):=by
 obtain ⟨b,o,e,_,hb,hc⟩:=h.raw.2 (by omega)
 exact ⟨b,o,e,hc _ _ (by simp[List.getElem?_eq_getElem hk])⟩
theorem IntsV.cl {b o:Nat} {fs:List Int} (h:IntsV w lo hi (some ⟨b,o,none⟩) fs) {k:Nat} (hk:k<fs.length):w.cell? ⟨b,o+k,none⟩=some (.int .i64 fs[k]):=by
 obtain ⟨b',o',e,hc⟩:=h.at hk
 simp only[Option.some.injEq,Addr.mk.injEq,and_true] at e
 obtain ⟨rfl,rfl⟩:=e
 exact hc
theorem FactsV.below {fs:List Fct} (h:FactsV w lo hi A fs) (hb:Below w.heap.size w w'):FactsV w' lo hi A fs:=Rd.below h hb
theorem AtomsV.below {fs:List Atm} (h:AtomsV w lo hi A fs) (hb:Below w.heap.size w w'):AtomsV w' lo hi A fs:=Rd.below h hb
theorem IntsV.below {fs:List Int} (h:IntsV w lo hi A fs) (hb:Below w.heap.size w w'):IntsV w' lo hi A fs:=Rd.below h hb
theorem AsnV.below {v:Value} {a:Asn} (h:AsnV w lo hi v a) (hb:Below w.heap.size w w'):AsnV w' lo hi v a:=by
 obtain ⟨A1,c1,A2,c2,e,h1,h2⟩:=h
 exact ⟨A1,c1,A2,c2,e,h1.below hb,h2.below hb⟩
theorem AsnV.setb {v:Value} {a:Asn} (h:AsnV w lo hi v a) {p:Addr} (hp:p.block<lo∨hi≤p.block) (u:Value):AsnV (w.setCell p u) lo hi v a:=by
 obtain ⟨A1,c1,A2,c2,e,h1,h2⟩:=h
 exact ⟨A1,c1,A2,c2,e,Rd.setb h1 hp u,Rd.setb h2 hp u⟩
theorem AsnV.mono {v:Value} {a:Asn} {lo' hi':Nat} (h:AsnV w lo hi v a) (e1:lo'≤lo) (e2:hi≤hi'):AsnV w lo' hi' v a:=by
 obtain ⟨A1,c1,A2,c2,e,h1,h2⟩:=h
 exact ⟨A1,c1,A2,c2,e,Rd.mono h1 e1 e2,Rd.mono h2 e1 e2⟩
theorem IntsV.mono {fs:List Int} {lo' hi':Nat} (h:IntsV w lo hi A fs) (e1:lo'≤lo) (e2:hi≤hi'):IntsV w lo' hi' A fs:=Rd.mono h e1 e2
theorem FactsV.mono {fs:List Fct} {lo' hi':Nat} (h:FactsV w lo hi A fs) (e1:lo'≤lo) (e2:hi≤hi'):FactsV w lo' hi' A fs:=Rd.mono h e1 e2
theorem AtomsV.mono {fs:List Atm} {lo' hi':Nat} (h:AtomsV w lo hi A fs) (e1:lo'≤lo) (e2:hi≤hi'):AtomsV w lo' hi' A fs:=Rd.mono h e1 e2
end
def isTermB (n:Int):Bool:=decide (0≤n∧n≤8)
def isProgB (n:Int):Bool:=decide (1≤n∧n≤4)
def Fct.valid (f:Fct):Bool:=isTermB f.a&&isTermB f.b
def Atm.valid (x:Atm):Bool:=decide (x.kind=1∨x.kind=2)&&isTermB x.a&&isTermB x.b
def factsValid (fs:List Fct):Bool:=decide (fs.length≤12)&&fs.all Fct.valid
def Asn.valid (a:Asn):Bool:=factsValid a.facts&&(decide (a.atoms.length≤6)&&a.atoms.all Atm.valid)
def changesFrom:Int→List Int→Bool
 | _,[]=>true
 | last,x :: xs=>isProgB x&&decide (last<x)&&changesFrom x xs
def Ctr.valid (k:Ctr):Bool:=k.pre.valid&&k.post.valid&&changesFrom 0 k.changes
theorem all_drop {α:Type} (p:α→Bool) (l:List α) (k:Nat) (hk:k<l.length):(l.drop k).all p=(p l[k]&&(l.drop (k+1)).all p):=by
 rw[List.drop_eq_getElem_cons hk,List.all_cons]
theorem drop_eq {α:Type} [DecidableEq α] (l m:List α) (k:Nat) (h1:k<l.length) (h2:k<m.length):decide (l.drop k=m.drop k)=(decide (l[k]=m[k])&&decide (l.drop (k+1)=m.drop (k+1))):=by
 rw[List.drop_eq_getElem_cons h1,List.drop_eq_getElem_cons h2]
 simp only[List.cons.injEq,Bool.decide_and]
theorem Fct.eq_iff (f g:Fct):f=g↔f.eq=g.eq∧f.a=g.a∧f.b=g.b:=by cases f;cases g;simp
theorem Atm.eq_iff (f g:Atm):f=g↔f.kind=g.kind∧f.a=g.a∧f.b=g.b:=by cases f;cases g;simp
theorem Asn.eq_iff (f g:Asn):f=g↔f.facts=g.facts∧f.atoms=g.atoms:=by cases f;cases g;simp
theorem Ctr.eq_iff (f g:Ctr):f=g↔f.pre=g.pre∧f.post=g.post∧f.changes=g.changes:=by cases f;cases g;simp
end Go.Proofs.YtjbboklnegfohaaGreatDoor

/- Arguments opened: what can be read as data reads as plain lists. -/
namespace Go.Proofs.YtjbboklnegfohaaGreatDoor
open Go Go.RowKit Go.Proofs Go.ChangeShapes Go.WideShapes Go.ChangeAt Go.Deep
theorem flat_at {α:Type} (e:α→List Value) (size:Nat) (hs:∀ a,(e a).length=size):∀ (xs:List α) (j:Nat) (u:Value),(xs.flatMap e)[j]? = some u→∃ i r,∃ h:i<xs.length,r<size∧j=i * size+r∧(e xs[i])[r]? = some u:=by
 intro xs
 induction xs with
 | nil=>intro j u h;simp at h
 | cons x xs ih=>
  intro j u h
  rw[List.flatMap_cons,List.getElem?_append] at h
  split at h
  ·rename_i hj
   exact ⟨0,j,by simp,by rw[hs] at hj;exact hj,by omega,h⟩
  ·rename_i hj
   rw[hs] at h hj
   obtain ⟨i,r,hi,hr,he,hx⟩:=ih _ _ h
   exact ⟨i+1,r,by simp;omega,hr,by rw[Nat.add_mul];omega,by simpa using hx⟩
theorem flat_len {α:Type} (e:α→List Value) (size:Nat) (hs:∀ a,(e a).length=size) (xs:List α):(xs.flatMap e).length=xs.length * size:=by
 induction xs with
 | nil=>simp
 | cons x xs ih=>rw[List.flatMap_cons,List.length_append,ih,hs,List.length_cons,Nat.add_mul];omega
theorem none_of_cell {w:World} {a:Addr} {v:Value} (h:w.cell? a=some v):a.spot=none:=by
 unfold World.cell? at h
 split at h
 ·split at h
  ·cases h
  ·rename_i h2;cases hs:a.spot<;>simp_all
 ·cases h
section
variable {H:Type} {enc:TypeId×Value→H} {P:Program} {w:World} {base:Nat} {spare:Nat→Bool} {held:Bool}
theorem tr_slice {α:Type} [Inhabited α] {t e:TypeId} {fuel:Nat} {cs:List Value} {x:DataW H×List MemPlace} (en:α→List Value) (size:Nat) (hs:∀ a,(en a).length=size) (hsz:0<size) (he:P.cellsOf e=size)
  (ht:P.underlying t=some (.slice e)) (hel:∀ n cs x,DataW.trod enc P w base spare held n e cs=some x→∃ a,cs=en a) (h:DataW.trod enc P w base spare held fuel t cs=some x) :
  ∃ (A:Option Addr) (c:Nat) (xs:List α),cs=[.slice A xs.length c]∧xs.length≤9223372036854775807∧Rw w 0 w.heap.size size A xs.length (xs.flatMap en):=by
 rcases open_slice ht h with ⟨rfl,_⟩|⟨a,len,cap,m,n,D,Pl,rfl,hb,hl,hm,hmm,_,hx⟩
 ·exact ⟨none,0,[],rfl,by simp,by simp,fun h=>by simp at h⟩
 ·have hlm:len≤m:=by rw[hmm];split<;>omega
  obtain ⟨f,hf⟩:=choose_lt (α:=α) (n:=len) (p:=fun i a'=>w.cells? base (a.add (i * size)) size=some (en a')) (fun i hi=>by
   obtain ⟨cs',h1,h2⟩:=hx i (by omega)
   obtain ⟨a',rfl⟩:=hel _ _ _ h2
   rw[he] at h1
   exact ⟨a',h1⟩)
  refine ⟨some a,cap,(List.range len).map f,by simp,by simp;unfold maxLen at hm;omega,?_,fun hn=>?_⟩
  ·rw[flat_len en size hs]
  ·have hn':0<len:=by
    rcases Nat.eq_zero_or_pos len with h0|h0
    ·subst h0;simp at hn
    ·exact h0
   have hcell:∀ i,i<len→∀ j,j<size→w.cell? ((a.add (i * size)).add j)=(en (f i))[j]?:=fun i hi j hj=>(World.cells?_some (hf i hi)).2.2 j hj
   have h00:=hcell 0 hn' 0 hsz
   have hx0:(en (f 0))[0]? = some ((en (f 0))[0]'(by rw[hs];exact hsz)):=List.getElem?_eq_getElem _
   rw[hx0,Nat.zero_mul] at h00
   have e0:(a.add 0).add 0=a:=by simp[Addr.add]
   rw[e0] at h00
   have hsp:=none_of_cell h00
   obtain ⟨b,o,s⟩:=a
   simp only at hsp
   subst hsp
   refine ⟨b,o,rfl,Nat.zero_le _,World.block_lt_of_cell? w _ h00,fun j u hu=>?_⟩
   obtain ⟨i,r,hi,hr,rfl,hu2⟩:=flat_at en size hs _ _ _ hu
   have hi':i<len:=by simpa using hi
   have hc:=hcell i hi' r hr
   have ea:((⟨b,o,none⟩:Addr).add (i * size)).add r=⟨b,o+(i * size+r),none⟩:=by
    rw[Go.Deep.add_add];unfold Addr.add;split
    ·rename_i h0;rw[h0];rfl
    ·rfl
   rw[ea] at hc
   rw[hc]
   simpa using hu2
end
section
variable {H:Type} {enc:TypeId×Value→H} {w:World} {base:Nat} {spare:Nat→Bool} {held:Bool} {fuel:Nat} {cs:List Value} {x:DataW H×List MemPlace}
end
end Go.Proofs.YtjbboklnegfohaaGreatDoor

/- Data that a call has made, in blocks of its own. -/
namespace Go.Proofs.YtjbboklnegfohaaGreatDoor
open Go Go.RowKit Go.Proofs
abbrev tF:Nat:=45
abbrev tA:Nat:=97
abbrev tI:Nat:=3
def FactsO (w:World) (base:Nat) (v:Value) (fs:List Fct):Prop:=w.ownsRow base tF 3 v fs.length (encF fs)∧Lim fs.length
def AtomsO (w:World) (base:Nat) (v:Value) (xs:List Atm):Prop:=w.ownsRow base tA 3 v xs.length (encA xs)∧Lim xs.length
def AsnO (w:World) (base:Nat) (v:Value) (a:Asn):Prop:=∃ fv av,v=.agg #[fv,av]∧FactsO w base fv a.facts∧AtomsO w base av a.atoms
section
variable {w w':World} {base base':Nat} {v:Value}
theorem FactsO.below {fs:List Fct} (h:FactsO w base v fs) (hb:Below w.heap.size w w'):FactsO w' base v fs:=⟨own_below h.1 hb,h.2⟩
theorem AtomsO.below {fs:List Atm} (h:AtomsO w base v fs) (hb:Below w.heap.size w w'):AtomsO w' base v fs:=⟨own_below h.1 hb,h.2⟩
theorem AsnO.below {a:Asn} (h:AsnO w base v a) (hb:Below w.heap.size w w'):AsnO w' base v a:=by
 obtain ⟨fv,av,e,h1,h2⟩:=h
 exact ⟨fv,av,e,h1.below hb,h2.below hb⟩
theorem FactsO.setb {fs:List Fct} (h:FactsO w base v fs) {a:Addr} (ha:a.block<base) (u:Value):FactsO (w.setCell a u) base v fs:=⟨ownsRow_setCell_below h.1 ha u,h.2⟩
theorem AtomsO.setb {fs:List Atm} (h:AtomsO w base v fs) {a:Addr} (ha:a.block<base) (u:Value):AtomsO (w.setCell a u) base v fs:=⟨ownsRow_setCell_below h.1 ha u,h.2⟩
theorem AsnO.setb {a:Asn} (h:AsnO w base v a) {p:Addr} (ha:p.block<base) (u:Value):AsnO (w.setCell p u) base v a:=by
 obtain ⟨fv,av,e,h1,h2⟩:=h
 exact ⟨fv,av,e,h1.setb ha u,h2.setb ha u⟩
theorem FactsO.lower {fs:List Fct} (h:FactsO w base v fs) (hb:base'≤base):FactsO w base' v fs:=⟨own_lower h.1 hb,h.2⟩
theorem AtomsO.lower {fs:List Atm} (h:AtomsO w base v fs) (hb:base'≤base):AtomsO w base' v fs:=⟨own_lower h.1 hb,h.2⟩
theorem AsnO.lower {a:Asn} (h:AsnO w base v a) (hb:base'≤base):AsnO w base' v a:=by
 obtain ⟨fv,av,e,h1,h2⟩:=h
 exact ⟨fv,av,e,h1.lower hb,h2.lower hb⟩
theorem FactsO.reads {fs:List Fct} (h:FactsO w base v fs):∃ A c,v=.slice A fs.length c∧FactsV w base w.heap.size A fs:=own_reads h.1 h.2
theorem AtomsO.reads {fs:List Atm} (h:AtomsO w base v fs):∃ A c,v=.slice A fs.length c∧AtomsV w base w.heap.size A fs:=own_reads h.1 h.2
theorem AsnO.reads {a:Asn} (h:AsnO w base v a):AsnV w base w.heap.size v a:=by
 obtain ⟨fv,av,e,h1,h2⟩:=h
 obtain ⟨A1,c1,rfl,g1⟩:=h1.reads
 obtain ⟨A2,c2,rfl,g2⟩:=h2.reads
 exact ⟨A1,c1,A2,c2,e,g1,g2⟩
end
theorem infoF:(Tryz.prog.info? tF).map (fun i=>(i.zero,i.size,i.bytes))=some (some (.agg #[.bool false,.int .i64 0,.int .i64 0]),3,24):=by kernel_rfl
theorem infoA:(Tryz.prog.info? tA).map (fun i=>(i.zero,i.size,i.bytes))=some (some (.agg #[.int .i64 0,.int .i64 0,.int .i64 0]),3,24):=by kernel_rfl
abbrev tB:Nat:=4
end Go.Proofs.YtjbboklnegfohaaGreatDoor

/- Sets as bits of a 16-bit number. Plain lemmas. -/
namespace Go.Proofs.YtjbboklnegfohaaGreatDoor
open Go Go.RowKit
end Go.Proofs.YtjbboklnegfohaaGreatDoor

/- append of one element to a list that the call made. -/
namespace Go.Proofs.YtjbboklnegfohaaGreatDoor
open Go Go.RowKit Go.Proofs
theorem own_row_below {w w':World} {base:Nat} {e:TypeId} {size:Nat} {v:Value} {n:Nat} {xs:List Value} (h:w.ownsRow base e size v n xs) (hg:w.grownBy w' v.ownBlock) (hb:base≤w.heap.size):Below base w w':=
 ⟨hg.os,hg.tape,hg.output,hg.size,fun k hk=>hg.block k (by omega) (fun e=>by have:=(h.lt k e.symm).1;omega)⟩
theorem wpList_app {P:Program} {ops:Array Oper} {rest:List Oper} {o:Oper} {a:Act} {Q:Exit→Act→World→Prop} {w:World} (hgd:o.guard=none) (s x:Operand) (t:TypeId)
  (ho:o.op=.call { callee:=.builtin .append,args:=#[s,x],argTypes:=#[t,t] })
  {base:Nat} {e:TypeId} {z:Value} {size bytes:Nat} (ht:P.underlying t=some (.slice e)) (hinfo:(P.info? e).map (fun i=>(i.zero,i.size,i.bytes))=some (some z,size,bytes)) (hzs:z.cells.size=size) (hsz:0<size) (hby:bytes≤200)
  {v:Value} {n:Nat} {xs:List Value} (hs:a.eval s=v) (hown:w.ownsRow base e size v n xs)
  (ad:Addr) (news:List Value) (hx:a.eval x=.slice (some ad) 1 1) (hl:news.length=size) (hnews:∀ j u,news[j]? = some u→w.cell? (ad.add j)=some u) (h1:∀ u∈news,u.oneCell'=true)
  (hn:n+1≤1049600) (hb:base≤w.heap.size)
  (h:∀ g c w',w'.ownsRow base e size (.slice (some ⟨g,0,none⟩) (n+1) c) (n+1) (xs++news)→w.grownBy w' v.ownBlock→Below base w w'→wpList P ops Q rest (a.put o.dst (.slice (some ⟨g,0,none⟩) (n+1) c)) w'):wpList P ops Q (o :: rest) a w:=by
 obtain ⟨i,hi,hz,hsize,hbytes⟩:=info_parts hinfo
 refine wpList_append_own w hgd s x t ho base e i z size bytes ht hi hz hsize hbytes hzs hsz v n xs hs hown ad 1 1 news hx (by omega) hnews h1 (by unfold maxLen;omega) (Nat.le_trans (Nat.mul_le_mul hn hby) (by omega)) hb ?_
 intro v' w' ho' hg' _
 obtain ⟨g,c,rfl,-⟩:=ho'.form (by omega)
 exact h g c w' ho' hg' (own_row_below hown hg' hb)
theorem cell_box (w:World) (u:Value) (t:TypeId):(w.alloc (.cells #[u] t)).cell? ⟨w.heap.size,0,none⟩=some u:=(Blk.new w t #[u]).cell 0
theorem own_empty (w:World) (t:TypeId) (size:Nat):(w.alloc (.cells #[] t)).ownsRow w.heap.size t size (.slice (some ⟨w.heap.size,0,none⟩) 0 0) 0 []:=
 ⟨by simp,.inr ⟨w.heap.size,0,#[],rfl,Nat.le_refl _,heap_alloc_new w _,Nat.le_refl _,by decide,by simp,by simp⟩⟩
section
variable {ops:Array Oper} {rest:List Oper} {o:Oper} {a:Act} {Q:Exit→Act→World→Prop} {w:World}
end
end Go.Proofs.YtjbboklnegfohaaGreatDoor

/- A part of a region that draws its order, by an invariant: each operation once. Plain lemmas; no program. -/
namespace Go.Proofs.YtjbboklnegfohaaGreatDoor
open Go
section
variable {P:Program} {md:Region.Mode} {ops:Array Oper} {S:World→Prop} {Q:Exit→Act→World→Prop} {I:Array Bool→Act→World→Prop}
def dn (D:Array Bool) (j:Nat):Bool:=D.getD j false
theorem dn_ne {D:Array Bool} {i j:Nat} (h:i≠j):dn (D.setIfInBounds i true) j=dn D j:=getD_set_ne false h
theorem dn_self {D:Array Bool} {i:Nat} (h:D.getD i true=false):dn (D.setIfInBounds i true) i=true:=by
 unfold dn
 rcases Nat.lt_or_ge i D.size with h'|h'
 ·simp[h']
 ·simp[Array.getElem?_eq_none h'] at h
theorem dn_un {D:Array Bool} {i:Nat} (h:D.getD i true=false):dn D i=false:=by
 unfold dn
 rcases Nat.lt_or_ge i D.size with h'|h'
 ·simp[h'] at h ⊢;exact h
 ·simp[Array.getElem?_eq_none h'] at h
theorem dn_keep {D:Array Bool} {i j:Nat} {p q:Prop} (hij:i≠j) (h:dn D j=true→p) (hpq:p→q):dn (D.setIfInBounds i true) j=true→q:=fun e=>hpq (h (by rwa [dn_ne hij] at e))
def parB (md:Region.Mode) (ops:Array Oper) (H:List Nat) (Dz:Array Bool):Nat→Array Bool→Bool
 | 0,D=>decide (D=Dz)
 | n+1,D=>!(Region.ready md ops D).isEmpty&&(Region.ready md ops D).all fun i=>H.contains i&&parB md ops H Dz n (D.setIfInBounds i true)
def ParSteps (P:Program) (md:Region.Mode) (ops:Array Oper) (Q:Exit→Act→World→Prop) (S:World→Prop) (I:Array Bool→Act→World→Prop) (hs:List Nat):Prop:=
 ∀ i∈hs,∀ D a w,i∈Region.ready md ops D→I D a w→S w→wpOp P ops Q i (fun a' w'=>S w'∧I (D.setIfInBounds i true) a' w') a w
theorem ParSteps.nil:ParSteps P md ops Q S I []:=fun _ h=>by cases h
theorem ParSteps.cons {i:Nat} {o:Oper} {hs:List Nat} (ho:ops[i]? = some o)
  (h:∀ (D:Array Bool) (a:Act) (w:World),D.getD i true=false→(∀ e∈o.after.toList,Region.binds md e=true→dn D e.on=true)→I D a w→S w→
   ∀ K':Act→World→Prop,Shut (∀ a w,S w→I (D.setIfInBounds i true) a w→K' a w)→∀ G:Prop,((if Region.wanted o (yielded ops a.tmps)=true then Oper.wp P o a w K' Q else K' (a.put o.dst undef) w)→G)→G)
  (hs':ParSteps P md ops Q S I hs):ParSteps P md ops Q S I (i :: hs):=fun j hj D a w hr hI hS=>by
 rcases List.mem_cons.1 hj with rfl|hj
 ·obtain ⟨h1,o',ho',h2⟩:=mem_ready.1 hr
  obtain rfl:o=o':=Option.some.inj (ho.symm.trans ho')
  exact wpOp_step ho (fun K' hK=>h D a w h1 (fun e he hb=>h2 e (Array.mem_toList_iff.1 he) hb) hI hS K' (fun a w hS hW=>hK a w ⟨hS,hW⟩) _ id)
 ·exact hs' j hj D a w hr hI hS
theorem wpAnyH_par (H:List Nat) (Dz:Array Bool) {fuel:Nat} {D0:Array Bool} {a0:Act} {w0:World} (n:Nat) (hH:parB md ops H Dz n D0=true) (hS:S w0) (J:Act→Array Bool→Act→World→Prop) (h0:J a0 D0 a0 w0)
  (hstep:ParSteps P md ops Q S (J a0) H) (hend:∀ a w,S w→J a0 Dz a w→wpAnyH P md ops Q S fuel Dz a w):wpAnyH P md ops Q S (fuel+n) D0 a0 w0:=by
 generalize hJ:J a0=I at *
 clear hJ
 induction n generalizing D0 a0 w0 with
 | zero=>
  unfold parB at hH
  obtain rfl:D0=Dz:=of_decide_eq_true hH
  exact hend _ _ hS h0
 | succ n ih=>
  unfold parB at hH
  simp only[Bool.and_eq_true,Bool.not_eq_true',List.all_eq_true,List.isEmpty_eq_false_iff,List.contains_iff_mem] at hH
  refine wpAnyH_ready (fuel:=fuel+n) rfl hH.1 fun i hi=>?_
  have h1:=hH.2 i hi
  exact wpOp_mono (fun a' w' h=>⟨h.1,ih h1.2 h.1 h.2⟩) (hstep i h1.1 D0 a0 w0 hi h0 hS)
end
end Go.Proofs.YtjbboklnegfohaaGreatDoor

/- A region that draws its order and whose last operation is a store: the store stands behind all others, whatever the order. Plain lemmas; no program. -/
namespace Go.Proofs.YtjbboklnegfohaaGreatDoor
open Go
section
variable {P:Program} {md:Region.Mode} {S:World→Prop} {Q:Exit→Act→World→Prop}
def lastQ (P:Program) (st:Oper) (Q:Exit→Act→World→Prop):Exit→Act→World→Prop
 | .normal,a,w=>Oper.wp P st a w (Q .normal) Q
 | e,a,w=>Q e a w
def nopOf (st:Oper):Oper:={ st with op:=.assign (.const undef),dst:=none,guard:=none }
theorem wp_monoQ {o:Oper} {a:Act} {w:World} {K K':Act→World→Prop} {Q Q':Exit→Act→World→Prop} (hK:∀ a w,K a w→K' a w)
  (hQ:∀ c a w,Q (.panic c) a w→Q' (.panic c) a w) (hL:LetsOut Q→LetsOut Q') (hh:o.wp P a w K Q):o.wp P a w K' Q':=by
 unfold Oper.wp at *
 generalize (execOp a.eval o).run P w=r at *
 cases r with
 | ok n w'=>
  cases n<;>simp only[Oper.upon] at hh ⊢<;>
   first
    | exact hK _ _ hh
    | exact Calls.mono hh (fun e w'' he=>by cases e<;>first|exact hK _ _ he|exact hQ _ _ _ he|exact hL he)
    | exact Rows.mono hh (fun _ _ he=>hK _ _ he)
 | halt x w'=>cases x<;>simp only[Oper.upon] at hh ⊢<;>first|exact hQ _ _ _ hh|exact hh
theorem ready_push (l:List Oper) (st:Oper) (listed:Array Bool):Region.ready md (l++[nopOf st]).toArray listed=Region.ready md (l++[st]).toArray listed:=by
 unfold Region.ready
 simp only[List.size_toArray,List.length_append,List.length_cons,List.length_nil]
 apply List.filter_congr
 intro i hi
 congr 1
 simp only[List.getElem?_toArray,List.getElem?_append]
 split
 ·rfl
 ·rcases Nat.eq_zero_or_pos (i - l.length) with h|h
  ·rw[h];rfl
  ·rw[List.getElem?_eq_none (by simp;omega),List.getElem?_eq_none (by simp;omega)]
def topoB (md:Region.Mode) (ops:Array Oper):Bool:=
 (List.range ops.size).all fun i=>match ops[i]? with|some o=>o.after.all fun e=>!Region.binds md e || decide (e.on<i)|none=>true
theorem ready_some {ops:Array Oper} (ht:topoB md ops=true) {listed:Array Bool} (hsz:listed.size=ops.size) {z:Nat} (hz:z<ops.size) (hun:listed.getD z true=false):Region.ready md ops listed≠[]:=by
 have:∀ n z,z<n→z<ops.size→listed.getD z true=false→∃ i,i∈Region.ready md ops listed:=by
  intro n
  induction n with
  | zero=>intro z h;omega
  | succ n ih=>
   intro z hzn hz hun
   by_cases hm:∃ j,j<z∧listed.getD j true=false
   ·obtain ⟨j,hj,hju⟩:=hm
    exact ih j (by omega) (by omega) hju
   ·refine ⟨z,mem_ready.2 ⟨hun,ops[z],Array.getElem?_eq_getElem hz,fun e he hb=>?_⟩⟩
    have h1:=List.all_eq_true.1 ht z (by simpa using hz)
    rw[Array.getElem?_eq_getElem hz] at h1
    simp only[Array.all_eq_true_iff_forall_mem] at h1
    have h2:=h1 e he
    rw[hb] at h2
    simp at h2
    cases h3:listed.getD e.on true
    ·exact absurd ⟨e.on,h2,h3⟩ hm
    ·have h4:e.on<listed.size:=by omega
     simp[h4] at h3 ⊢
     exact h3
 obtain ⟨i,hi⟩:=this (z+1) z (Nat.lt_succ_self _) hz hun
 intro h
 rw[h] at hi
 cases hi
theorem wpAny_of_last {l:List Oper} {st:Oper} (hg:(l.all fun o=>o.guard.isNone)=true) (hst:st.guard.isNone=true)
  (hs:Region.sinkB md (l++[st]).toArray l.length=true) (hc:Region.chainB md (l++[st]).toArray l.length=true) (ht:topoB md (l++[st]).toArray=true) :
  ∀ (f:Nat) (listed:Array Bool) (a:Act) (w:World),HeadInv md (l++[st]).toArray l.length listed→
   wpAnyH P md (l++[nopOf st]).toArray (lastQ P st Q) S f listed a w→wpAny P md (l++[st]).toArray Q f listed a w:=by
 have hsz:(l++[st]).toArray.size=l.length+1:=by simp
 have hzs:(l++[st]).toArray[l.length]? = some st:=by simp
 have hzn:(l++[nopOf st]).toArray[l.length]? = some (nopOf st):=by simp
 intro f
 induction f with
 | zero=>
  intro listed a w inv h
  have hun:=inv.tail l.length (Nat.le_refl _) (by omega)
  exact absurd ((ready_push l st listed).symm.trans h.1) (ready_some ht inv.size (by omega) hun)
 | succ f ih=>
  intro listed a w inv h
  have hun:=inv.tail l.length (Nat.le_refl _) (by omega)
  refine ⟨fun h0=>absurd h0 (ready_some ht inv.size (by omega) hun),fun i hi=>?_⟩
  have hi':i∈Region.ready md (l++[nopOf st]).toArray listed:=by rw[ready_push];exact hi
  have h1:=h.2 i hi'
  obtain ⟨_,oi,hoi,_⟩:=mem_ready.1 hi
  have hil:i<l.length+1:=by have:=(Array.getElem?_eq_some_iff.1 hoi).1;omega
  by_cases hiz:i=l.length
  ·subst hiz
   have hall:∀ j,j<l.length→listed.getD j true=true:=by
    intro j hj
    cases hu:listed.getD j true
    ·exact absurd hi (tail_waits hs hc (by omega) inv _ j rfl hj hu l.length (Nat.le_refl _))
    ·rfl
   have hnil:Region.ready md (l++[st]).toArray (listed.setIfInBounds l.length true)=[]:=by
    rw[List.eq_nil_iff_forall_not_mem]
    intro j hj
    obtain ⟨hju,oj,hoj,_⟩:=mem_ready.1 hj
    have hjl:j<l.length+1:=by have:=(Array.getElem?_eq_some_iff.1 hoj).1;omega
    by_cases e:l.length=j
    ·subst e
     have:l.length<listed.size:=by have:=inv.size;omega
     simp[this] at hju
    ·rw[getD_set_ne true e,hall j (by omega)] at hju;cases hju
   unfold wpOp at h1 ⊢
   simp only[hzn,hzs] at h1 ⊢
   have hw1:Region.wanted (nopOf st) (yielded (l++[nopOf st]).toArray a.tmps)=true:=by simp[Region.wanted,nopOf]
   have hgs:st.guard=none:=by simpa using hst
   have hw2:Region.wanted st (yielded (l++[st]).toArray a.tmps)=true:=by simp[Region.wanted,hgs]
   rw[hw1,if_pos rfl] at h1
   rw[hw2,if_pos rfl]
   refine Or.inl ?_
   have h2:wpAnyH P md (l++[nopOf st]).toArray (lastQ P st Q) S f (listed.setIfInBounds l.length true) a w:=by
    rcases h1 with h1|⟨h1,_⟩
    ·unfold Oper.wp at h1
     simp[nopOf,execOp,Oper.upon,Act.put,Act.eval] at h1
     exact h1.2
    ·simp[Oper.asks,nopOf,execOp] at h1
     exact absurd h1 (by intro h;cases h;rename_i h;cases h)
   have h3:lastQ P st Q .normal a w:=by
    rw[←ready_push] at hnil
    cases f with
    | zero=>exact h2.2
    | succ f=>exact h2.1 hnil
   refine Oper.wp_mono (fun a' w' hq=>?_) h3
   cases f with
   | zero=>exact ⟨hnil,hq⟩
   | succ f=>exact ⟨fun _=>hq,by rw[hnil];simp⟩
  ·have hlt:i<l.length:=by omega
   have e1:(l++[st]).toArray[i]? = some l[i]:=by simp[List.getElem?_append,hlt]
   have e2:(l++[nopOf st]).toArray[i]? = some l[i]:=by simp[List.getElem?_append,hlt]
   have hgi:l[i].guard=none:=by have:=List.all_eq_true.1 hg l[i] (List.getElem_mem hlt);simpa using this
   unfold wpOp at h1 ⊢
   simp only[e1,e2] at h1 ⊢
   have hw1:Region.wanted l[i] (yielded (l++[nopOf st]).toArray a.tmps)=true:=by simp[Region.wanted,hgi]
   have hw2:Region.wanted l[i] (yielded (l++[st]).toArray a.tmps)=true:=by simp[Region.wanted,hgi]
   rw[hw1,if_pos rfl] at h1
   rw[hw2,if_pos rfl]
   rcases h1 with h1|⟨h1,h2⟩
   ·exact Or.inl (wp_monoQ (K:=fun a' w'=>S w'∧wpAnyH P md (l++[nopOf st]).toArray (lastQ P st Q) S f (listed.setIfInBounds i true) a' w') (fun a' w' hk=>ih _ _ _ (inv.set hi hlt) hk.2) (fun c a w h=>h) (fun h=>h) h1)
   ·exact Or.inr ⟨h1,h2⟩
theorem wp_region_last {l:List Oper} {st:Oper} {id:Nat} {a:Act} {w:World} (hm:P.follows .mixedOrders=true) (hg:(l.all fun o=>o.guard.isNone)=true) (hst:st.guard.isNone=true)
  (hs:Region.sinkB .any (l++[st]).toArray l.length=true) (hc:Region.chainB .any (l++[st]).toArray l.length=true) (ht:topoB .any (l++[st]).toArray=true) (hS:S w.drew)
  (h:S w.drew→wpAnyH P .any (l++[nopOf st]).toArray (lastQ P st Q) S (l.length+1) (Array.replicate (l.length+1) false) a w.drew):(Code.region id (l++[st]).toArray true).wp P Q a w:=by
 refine wp_region_any hm ?_
 have e:(l++[st]).toArray.size=l.length+1:=by simp
 rw[e]
 refine wpAny_of_last hg hst hs hc ht _ _ _ _ ⟨by simp,fun j oj _ hl=>?_,fun t _ ht=>?_⟩ (h hS)
 ·rw[getD_replicate_false] at hl;cases hl
 ·exact getD_in (by simpa using ht) (getD_replicate_false _ _)
def lastB (L:List Oper):Bool:=
 match L.getLast? with
 | none=>false
 | some st=>(L.dropLast.all fun o=>o.guard.isNone)&&st.guard.isNone&&Region.sinkB .any L.toArray L.dropLast.length&&Region.chainB .any L.toArray L.dropLast.length&&topoB .any L.toArray
theorem wp_region_last' {L:List Oper} {id:Nat} {a:Act} {w:World} (hne:L≠[]) (hm:P.follows .mixedOrders=true) (hB:lastB L=true) (hS:S w.drew)
  (h:S w.drew→wpAnyH P .any (L.dropLast++[nopOf (L.getLast hne)]).toArray (lastQ P (L.getLast hne) Q) S L.length (Array.replicate L.length false) a w.drew):(Code.region id L.toArray true).wp P Q a w:=by
 have e:L.dropLast++[L.getLast hne]=L:=List.dropLast_concat_getLast hne
 unfold lastB at hB
 rw[List.getLast?_eq_some_getLast hne] at hB
 simp only[Bool.and_eq_true] at hB
 obtain ⟨⟨⟨⟨h1,h2⟩,h3⟩,h4⟩,h5⟩:=hB
 have hl:L.dropLast.length+1=L.length:=by have:=congrArg List.length e;simpa using this
 have key:=wp_region_last (P:=P) (S:=S) (Q:=Q) (l:=L.dropLast) (st:=L.getLast hne) (id:=id) (a:=a) (w:=w) hm h1 h2 (by rw[e];exact h3) (by rw[e];exact h4) (by rw[e];exact h5) hS (by rw[hl];exact h)
 rwa [e] at key
end
end Go.Proofs.YtjbboklnegfohaaGreatDoor

/- States: plain functions. No program. -/
namespace Go.Proofs.YtjbboklnegfohaaGreatDoor
open Go Go.RowKit
section
variable {w w':World} {lo hi lo' hi':Nat} {v:Value} {s:Ste}
end
def addrB (n:Int):Bool:=decide (1≤n∧n≤8)
def valB (n:Int):Bool:=decide (0≤n∧n≤8)
def cellB (n:Int):Bool:=decide (n = -1) || valB n
def Ste.valid (s:Ste):Bool:=decide (s.values.length=8)&&decide (s.heap.length=8)&&(s.values.all valB&&s.heap.all cellB)
def cont (h:List Int) (a:Int):Int:=if addrB a then (h[(a-1).toNat]?).getD (-1) else -1
def allocB (h:List Int) (a:Int):Bool:=decide (0≤cont h a)
def tval (vs:List Int) (t:Int):Int:=if t=0 then 0 else (vs[(t-1).toNat]?).getD 0
def Fct.holds (vs:List Int) (f:Fct):Bool:=decide (tval vs f.a=tval vs f.b) == f.eq
def factsHold (fs:List Fct) (vs:List Int):Bool:=factsValid fs&&decide (vs.length=8)&&fs.all (Fct.holds vs)
theorem Ste.valid_len {s:Ste} (h:s.valid=true):s.values.length=8∧s.heap.length=8:=by
 simp[Ste.valid] at h;exact h.1
def walkF (h:List Int):Nat→Int→Int→Option (List Int)
 | 0,x,tz0=>if x=tz0 then some [] else none
 | n+1,x,tz0=>if x=tz0 then some [] else if allocB h x then (walkF h n (cont h x) tz0).map (x :: ·) else none
def addAll:List Int→List Int→Option (List Int)
 | seen,[]=>some seen
 | seen,c :: cs=>if c∈seen then none else addAll (seen++[c]) cs
def atomCells (s:Ste) (x:Atm):Option (List Int):=
 if x.kind=2 then walkF s.heap 8 (tval s.values x.a) (tval s.values x.b) else if cont s.heap (tval s.values x.a)=tval s.values x.b then some [tval s.values x.a] else none
def partAtoms (s:Ste):List Int→List Atm→Option (List Int)
 | seen,[]=>some seen
 | seen,x :: xs=>(atomCells s x).bind fun cs=>(addAll seen cs).bind fun seen'=>partAtoms s seen' xs
def partOf (s:Ste) (a:Asn):Option (List Int):=if s.valid&&a.valid&&factsHold a.facts s.values then partAtoms s [] a.atoms else none
end Go.Proofs.YtjbboklnegfohaaGreatDoor

/- Programs: the plain data and the words for memory. Plain; no program. -/
namespace Go.Proofs.YtjbboklnegfohaaGreatDoor
open Go Go.RowKit
inductive Cms where
 | nil:Cms
 | cons (kind a b:Int) (test:Fct) (inv:Asn) (body els rest:Cms):Cms
deriving DecidableEq,Inhabited
def Cms.len:Cms→Nat
 | .nil=>0
 | .cons _ _ _ _ _ _ _ r=>r.len+1
def Cms.cost:Cms→Nat
 | .nil=>0
 | .cons _ _ _ _ i body els r=>i.facts.length+i.atoms.length+(body.len+body.cost)+(els.len+els.cost)+r.cost
def Cms.small (n:Nat):Cms→Prop
 | .nil=>True
 | .cons _ _ _ _ i body els r=>i.facts.length≤n∧i.atoms.length≤n∧body.len≤n∧els.len≤n∧body.small n∧els.small n∧r.small n
theorem Cms.cost_small {n:Nat}:∀ {L:Cms},L.cost≤n→L.small n
 | .nil,_=>trivial
 | .cons k a b t i body els r,h=>by
  simp only[Cms.cost] at h
  exact ⟨by omega,by omega,by omega,by omega,Cms.cost_small (by omega),Cms.cost_small (by omega),Cms.cost_small (by omega)⟩
def Cms.drop:Nat→Cms→Cms
 | 0,L=>L
 | _+1,.nil=>.nil
 | n+1,.cons _ _ _ _ _ _ _ r=>r.drop n
theorem Cms.drop_len:∀ (n:Nat) (L:Cms),(L.drop n).len=L.len - n
 | 0,L=>rfl
 | n+1,.nil=>by simp[Cms.drop,Cms.len]
 | n+1,.cons _ _ _ _ _ _ _ r=>by simp only[Cms.drop,Cms.len];rw[Cms.drop_len n r];omega
theorem Cms.drop_all:∀ (L:Cms),L.drop L.len=.nil
 | .nil=>rfl
 | .cons k a b t i body els r=>by simp only[Cms.len,Cms.drop];exact Cms.drop_all r
theorem Cms.drop_succ:∀ (n:Nat) (L:Cms) {k a b:Int} {t:Fct} {i:Asn} {body els r:Cms},L.drop n=.cons k a b t i body els r→L.drop (n+1)=r
 | 0,.cons _ _ _ _ _ _ _ r,_,_,_,_,_,_,_,_,h=>by simp only[Cms.drop] at h ⊢;injection h
 | 0,.nil,_,_,_,_,_,_,_,_,h=>by cases h
 | n+1,.nil,_,_,_,_,_,_,_,_,h=>by cases h
 | n+1,.cons _ _ _ _ _ _ _ r,_,_,_,_,_,_,_,_,h=>Cms.drop_succ n r h
theorem Cms.cons_of_len:∀ {L:Cms},0<L.len→∃ k a b t i body els r,L=.cons k a b t i body els r
 | .nil,h=>by simp[Cms.len] at h
 | .cons k a b t i body els r,_=>⟨k,a,b,t,i,body,els,r,rfl⟩
def CmsAt (w:World) (lo hi:Nat):Cms→Nat→Nat→Prop
 | .nil,_,_=>True
 | .cons k a b t i body els r,bl,o=>
  (w.cell? ⟨bl,o,none⟩=some (.int .i64 k)∧w.cell? ⟨bl,o+1,none⟩=some (.int .i64 a)∧w.cell? ⟨bl,o+2,none⟩=some (.int .i64 b)∧
   w.cell? ⟨bl,o+3,none⟩=some (.bool t.eq)∧w.cell? ⟨bl,o+4,none⟩=some (.int .i64 t.a)∧w.cell? ⟨bl,o+5,none⟩=some (.int .i64 t.b))∧
  (∃ A c,w.cell? ⟨bl,o+6,none⟩=some (.slice A i.facts.length c)∧Rw w lo hi 3 A i.facts.length (encF i.facts))∧
  (∃ A c,w.cell? ⟨bl,o+7,none⟩=some (.slice A i.atoms.length c)∧Rw w lo hi 3 A i.atoms.length (encA i.atoms))∧
  (∃ A c,w.cell? ⟨bl,o+8,none⟩=some (.slice A body.len c)∧(0<body.len→∃ b' o',A=some ⟨b',o',none⟩∧lo≤b'∧b'<hi∧CmsAt w lo hi body b' o'))∧
  (∃ A c,w.cell? ⟨bl,o+9,none⟩=some (.slice A els.len c)∧(0<els.len→∃ b' o',A=some ⟨b',o',none⟩∧lo≤b'∧b'<hi∧CmsAt w lo hi els b' o'))∧
  CmsAt w lo hi r bl (o+10)
def CmsV (w:World) (lo hi:Nat) (A:Option Addr) (L:Cms):Prop:=0<L.len→∃ b o,A=some ⟨b,o,none⟩∧lo≤b∧b<hi∧CmsAt w lo hi L b o
section
variable {w w':World} {lo hi lo' hi':Nat}
theorem CmsAt.below (hb:Below w.heap.size w w'):∀ {L:Cms} {bl o:Nat},CmsAt w lo hi L bl o→CmsAt w' lo hi L bl o
 | .nil,_,_,_=>trivial
 | .cons k a b t i body els r,bl,o,h=>by
  obtain ⟨⟨h0,h1,h2,h3,h4,h5⟩,⟨A6,c6,h6,g6⟩,⟨A7,c7,h7,g7⟩,⟨A8,c8,h8,g8⟩,⟨A9,c9,h9,g9⟩,hr⟩:=h
  have hlt:bl<w.heap.size:=block_lt_of_cell h0
  have hc:∀ j,w'.cell? ⟨bl,j,none⟩=w.cell? ⟨bl,j,none⟩:=fun j=>hb.cell (p:=⟨bl,j,none⟩) hlt
  refine ⟨⟨(hc _).trans h0,(hc _).trans h1,(hc _).trans h2,(hc _).trans h3,(hc _).trans h4,(hc _).trans h5⟩,⟨A6,c6,(hc _).trans h6,g6.below hb⟩,⟨A7,c7,(hc _).trans h7,g7.below hb⟩,⟨A8,c8,(hc _).trans h8,fun hl=>?_⟩,⟨A9,c9,(hc _).trans h9,fun hl=>?_⟩,CmsAt.below hb hr⟩
  ·obtain ⟨b',o',e,p1,p2,p3⟩:=g8 hl;exact ⟨b',o',e,p1,p2,CmsAt.below hb p3⟩
  ·obtain ⟨b',o',e,p1,p2,p3⟩:=g9 hl;exact ⟨b',o',e,p1,p2,CmsAt.below hb p3⟩
theorem CmsAt.mono (e1:lo'≤lo) (e2:hi≤hi'):∀ {L:Cms} {bl o:Nat},CmsAt w lo hi L bl o→CmsAt w lo' hi' L bl o
 | .nil,_,_,_=>trivial
 | .cons k a b t i body els r,bl,o,h=>by
  obtain ⟨h0,⟨A6,c6,h6,g6⟩,⟨A7,c7,h7,g7⟩,⟨A8,c8,h8,g8⟩,⟨A9,c9,h9,g9⟩,hr⟩:=h
  refine ⟨h0,⟨A6,c6,h6,g6.mono e1 e2⟩,⟨A7,c7,h7,g7.mono e1 e2⟩,⟨A8,c8,h8,fun hl=>?_⟩,⟨A9,c9,h9,fun hl=>?_⟩,CmsAt.mono e1 e2 hr⟩
  ·obtain ⟨b',o',e,p1,p2,p3⟩:=g8 hl;exact ⟨b',o',e,by omega,by omega,CmsAt.mono e1 e2 p3⟩
  ·obtain ⟨b',o',e,p1,p2,p3⟩:=g9 hl;exact ⟨b',o',e,by omega,by omega,CmsAt.mono e1 e2 p3⟩
theorem CmsV.below {A:Option Addr} {L:Cms} (h:CmsV w lo hi A L) (hb:Below w.heap.size w w'):CmsV w' lo hi A L:=fun hl=>by
 obtain ⟨b,o,e,p1,p2,p3⟩:=h hl;exact ⟨b,o,e,p1,p2,p3.below hb⟩
theorem CmsV.mono {A:Option Addr} {L:Cms} (h:CmsV w lo hi A L) (e1:lo'≤lo) (e2:hi≤hi'):CmsV w lo' hi' A L:=fun hl=>by
 obtain ⟨b,o,e,p1,p2,p3⟩:=h hl;exact ⟨b,o,e,by omega,by omega,p3.mono e1 e2⟩
theorem CmsAt.drop:∀ (n:Nat) {L:Cms} {bl o:Nat},CmsAt w lo hi L bl o→CmsAt w lo hi (L.drop n) bl (o+n * 10)
 | 0,L,bl,o,h=>by simpa[Cms.drop] using h
 | n+1,.nil,bl,o,h=>trivial
 | n+1,.cons k a b t i body els r,bl,o,h=>by
  have:=CmsAt.drop n h.2.2.2.2.2
  rwa [show o+10+n * 10=o+(n+1) * 10 from by omega] at this
end
theorem Cms.small_drop {m:Nat}:∀ (n:Nat) {L:Cms},L.small m→(L.drop n).small m
 | 0,L,h=>h
 | n+1,.nil,h=>trivial
 | n+1,.cons k a b t i body els r,h=>Cms.small_drop n h.2.2.2.2.2.2
end Go.Proofs.YtjbboklnegfohaaGreatDoor

/- Strings: lists of bytes; lists of strings. -/
namespace Go.Proofs.YtjbboklnegfohaaGreatDoor
open Go Go.RowKit Go.Proofs
abbrev Bs:Type:=List UInt8
abbrev sv (l:Bs):Value:=.string ⟨l.toArray⟩
def encS (ss:List Bs):List Value:=ss.map sv
@[simp] theorem encS_length (ss:List Bs):(encS ss).length=ss.length:=by simp[encS]
theorem bytes_eq (a b:Bs):(a == b)=decide (a=b):=by
 by_cases h:a=b
 ·rw[decide_eq_true h,h];exact beq_self_eq_true b
 ·rw[decide_eq_false h];exact beq_eq_false_iff_ne.2 h
theorem ret_str {x y:Bs} (h:x=y):Ending.returned (Value.string ⟨x.toArray⟩)=.returned (sv y):=by rw[h]
theorem addS {P:Program} (x y:Bs) (h:x.length+y.length≤9223372036854775807) (w:World):(Op.stringOp .add ⟨x.toArray⟩ ⟨y.toArray⟩).run P w=.ok (.string ⟨(x++y).toArray⟩) w:=by
 rw[run_string_add_sum w _ _ (by simp[ByteArray.size];omega),ByteArray.mk_append_mk]
theorem bidx (l:Bs) (k:Nat) (hk:k<l.length):∀ h,(ByteArray.mk l.toArray)[k]'h=l[k]'hk:=fun _=>rfl
theorem bext (l:Bs) (i j:Nat):(ByteArray.mk l.toArray).extract i j=⟨((l.drop i).take (j - i)).toArray⟩:=ByteArray.extract_mk l i j
theorem addO {P:Program} (x y:Bs) (h:x.length+y.length≤9223372036854775807):∃ z,Hid (z=x++y)∧∀ w:World,(Op.stringOp .add ⟨x.toArray⟩ ⟨y.toArray⟩).run P w=.ok (.string ⟨z.toArray⟩) w:=
 ⟨x++y,Lib.hid rfl,fun w=>addS x y h w⟩
abbrev tS:Nat:=9
theorem infoS:(Tryz.prog.info? tS).map (fun i=>(i.zero,i.size,i.bytes))=some (some (.string ⟨#[]⟩),1,16):=by kernel_rfl
def StrsO (w:World) (base:Nat) (v:Value) (xs:List Bs):Prop:=w.ownsRow base tS 1 v xs.length (encS xs)∧Lim xs.length
def StrsV (w:World) (lo hi:Nat) (A:Option Addr) (xs:List Bs):Prop:=Rd w lo hi 1 A xs.length (encS xs)
section
variable {w w':World} {base base' lo hi:Nat} {v:Value} {fs:List Bs} {A:Option Addr}
theorem StrsO.below (h:StrsO w base v fs) (hb:Below w.heap.size w w'):StrsO w' base v fs:=⟨own_below h.1 hb,h.2⟩
theorem StrsO.setb (h:StrsO w base v fs) {a:Addr} (ha:a.block<base) (u:Value):StrsO (w.setCell a u) base v fs:=⟨ownsRow_setCell_below h.1 ha u,h.2⟩
theorem StrsO.lower (h:StrsO w base v fs) (hb:base'≤base):StrsO w base' v fs:=⟨own_lower h.1 hb,h.2⟩
theorem StrsO.reads (h:StrsO w base v fs):∃ A c,v=.slice A fs.length c∧StrsV w base w.heap.size A fs:=own_reads h.1 h.2
theorem StrsV.at (h:StrsV w lo hi A fs) {k:Nat} (hk:k<fs.length):∃ b o,A=some ⟨b,o,none⟩∧w.cell? ⟨b,o+k,none⟩=some (sv fs[k]):=by
 obtain ⟨b,o,e,_,hb,hc⟩:=h.raw.2 (by omega)
 exact ⟨b,o,e,hc _ _ (by simp[encS,List.getElem?_eq_getElem hk])⟩
theorem StrsV.below (h:StrsV w lo hi A fs) (hb:Below w.heap.size w w'):StrsV w' lo hi A fs:=Rd.below h hb
theorem StrsV.mono {lo' hi':Nat} (h:StrsV w lo hi A fs) (e1:lo'≤lo) (e2:hi≤hi'):StrsV w lo' hi' A fs:=Rd.mono h e1 e2
theorem StrsV.le (h:StrsV w lo hi A fs):Lim fs.length:=h.lim
theorem StrsO.empty (w:World) {g:Nat} (hg:g=w.heap.size):StrsO (w.alloc (.cells #[] tS)) g (.slice (some ⟨g,0,none⟩) 0 0) []:=by
 subst hg
 exact ⟨own_empty w _ _,by simp[Lim]⟩
end
section
variable {ops:Array Oper} {rest:List Oper} {o:Oper} {a:Act} {Q:Exit→Act→World→Prop} {w:World}
theorem appS (hgd:o.guard=none) (s x:Operand) (ho:o.op=.call { callee:=.builtin .append,args:=#[s,x],argTypes:=#[59,59] })
  {base:Nat} {v:Value} {xs:List Bs} (hs:a.eval s=v) (hown:StrsO w base v xs) (g0:Nat) (n:Bs) (hx:a.eval x=.slice (some ⟨g0,0,none⟩) 1 1) (hc:w.cell? ⟨g0,0,none⟩=some (sv n))
  (hn:xs.length+1≤1049600) (hb:base≤w.heap.size)
  (h:∀ g c w',StrsO w' base (.slice (some ⟨g,0,none⟩) (xs.length+1) c) (xs++[n])→w.grownBy w' v.ownBlock→Below base w w'→wpList Tryz.prog ops Q rest (a.put o.dst (.slice (some ⟨g,0,none⟩) (xs.length+1) c)) w'):wpList Tryz.prog ops Q (o :: rest) a w:=by
 refine wpList_app hgd s x 59 ho Tryz.underlying59 infoS rfl (by decide) (by decide) hs hown.1 ⟨g0,0,none⟩ [sv n] hx rfl ?_ (by simp[Value.oneCell']) hn hb ?_
 ·intro j u hu
  match j,hu with
  | 0,hu=>simp at hu;subst hu;exact hc
 ·intro g c w' h1 h2 h3
  exact h g c w' ⟨by simpa[encS] using h1,by simp[Lim];omega⟩ h2 h3
end
end Go.Proofs.YtjbboklnegfohaaGreatDoor

/- The library's contracts at this program (laid by the kit's shelf, in plain words). -/
namespace Go.Proofs.YtjbboklnegfohaaGreatDoor
open Go Go.Shelf Go.RowKit Go.Proofs
def shf_lays169_ren:Go.Shelf.Ren:=⟨fun|169=>31|n=>n,fun|70=>64|9=>9|0=>0|72=>66|37=>22|127=>99|3=>3|5=>5|n=>n,fun|n=>n⟩
theorem shf_lays169:Go.Proofs.Lays.n169 Tryz.prog shf_lays169_ren:={
 mixed:=by kernel_rfl
 f169:=Tryz.func31.trans (congrArg some (by kernel_rfl))
 t0:=Tryz.underlying0
 a0:=Tryz.isAgg0
 z0:=Tryz.sizeOf0
 v0:=Tryz.zeroValue0
 t3:=Tryz.underlying3
 a3:=Tryz.isAgg3
 z3:=Tryz.sizeOf3
 v3:=Tryz.zeroValue3
 t9:=Tryz.underlying9
 a9:=Tryz.isAgg9
 z9:=Tryz.sizeOf9
 v9:=Tryz.zeroValue9
 t37:=Tryz.underlying22
 a37:=Tryz.isAgg22
 z37:=Tryz.sizeOf22
 v37:=Tryz.zeroValue22
 t70:=Tryz.underlying64
 a70:=Tryz.isAgg64
 z70:=Tryz.sizeOf64
 v70:=Tryz.zeroValue64
 t72:=Tryz.underlying66
 a72:=Tryz.isAgg66
 z72:=Tryz.sizeOf66
 v72:=Tryz.zeroValue66
 t127:=Tryz.underlying99
 a127:=Tryz.isAgg99
 z127:=Tryz.sizeOf99
 v127:=Tryz.zeroValue99 }
theorem shf_Builder_Extra_169:Builder.Extra Tryz.prog shf_lays169_ren:={
 sizeBuilder:=by kernel_rfl
 liesBuilder:=by kernel_rfl
 t5:=Tryz.underlying5
 a5:=Tryz.isAgg5
 z5:=Tryz.sizeOf5
 v5:=Tryz.zeroValue5
 infoByte:=by kernel_rfl
 cellsByte:=by kernel_rfl
 sizeByte:=by kernel_rfl
 neB5:=by decide }
theorem shf_Builder_String_any (B b:Nat) (l:List UInt8) (w:World) (h:Lib.IsBuilder 66 5 B b (Lib.byteCells l) w) (hBw:B≤w.heap.size) :
  Calls Tryz.prog 31 #[.pointer (some ⟨b,0,none⟩)] w fun e w'=>e=.returned (.string ⟨l.toArray⟩)∧Below B w w':=Any.Builder_String_any shf_lays169 shf_Builder_Extra_169 B b l w h hBw
def shf_lays156_ren:Go.Shelf.Ren:=⟨fun|156=>52|165=>85|166=>27|169=>31|240=>48|241=>99|276=>82|277=>105|n=>n,fun|31=>59|9=>9|3=>3|4=>4|0=>0|20=>20|72=>66|76=>69|70=>64|37=>22|75=>68|127=>99|164=>120|5=>5|80=>74|n=>n,fun|n=>n⟩
theorem shf_lays156:Go.Proofs.Lays.n156 Tryz.prog shf_lays156_ren:={
 mixed:=by kernel_rfl
 f156:=Tryz.func52.trans (congrArg some (by kernel_rfl))
 f165:=Tryz.func85.trans (congrArg some (by kernel_rfl))
 f166:=Tryz.func27.trans (congrArg some (by kernel_rfl))
 f169:=Tryz.func31.trans (congrArg some (by kernel_rfl))
 f240:=Tryz.func48.trans (congrArg some (by kernel_rfl))
 f241:=Tryz.func99.trans (congrArg some (by kernel_rfl))
 f276:=Tryz.func82.trans (congrArg some (by kernel_rfl))
 f277:=Tryz.func105.trans (congrArg some (by kernel_rfl))
 t0:=Tryz.underlying0
 a0:=Tryz.isAgg0
 z0:=Tryz.sizeOf0
 v0:=Tryz.zeroValue0
 t3:=Tryz.underlying3
 a3:=Tryz.isAgg3
 z3:=Tryz.sizeOf3
 v3:=Tryz.zeroValue3
 t4:=Tryz.underlying4
 a4:=Tryz.isAgg4
 z4:=Tryz.sizeOf4
 v4:=Tryz.zeroValue4
 t9:=Tryz.underlying9
 a9:=Tryz.isAgg9
 z9:=Tryz.sizeOf9
 v9:=Tryz.zeroValue9
 t20:=Tryz.underlying20
 a20:=Tryz.isAgg20
 z20:=Tryz.sizeOf20
 v20:=Tryz.zeroValue20
 t31:=Tryz.underlying59
 a31:=Tryz.isAgg59
 z31:=Tryz.sizeOf59
 v31:=Tryz.zeroValue59
 t37:=Tryz.underlying22
 a37:=Tryz.isAgg22
 z37:=Tryz.sizeOf22
 v37:=Tryz.zeroValue22
 t70:=Tryz.underlying64
 a70:=Tryz.isAgg64
 z70:=Tryz.sizeOf64
 v70:=Tryz.zeroValue64
 t72:=Tryz.underlying66
 a72:=Tryz.isAgg66
 z72:=Tryz.sizeOf66
 v72:=Tryz.zeroValue66
 t75:=Tryz.underlying68
 a75:=Tryz.isAgg68
 z75:=Tryz.sizeOf68
 v75:=Tryz.zeroValue68
 t76:=Tryz.underlying69
 a76:=Tryz.isAgg69
 z76:=Tryz.sizeOf69
 v76:=Tryz.zeroValue69
 t127:=Tryz.underlying99
 a127:=Tryz.isAgg99
 z127:=Tryz.sizeOf99
 v127:=Tryz.zeroValue99
 t164:=Tryz.underlying120
 a164:=Tryz.isAgg120
 z164:=Tryz.sizeOf120
 v164:=Tryz.zeroValue120 }
theorem shf_Builder_Extra_156:Builder.Extra Tryz.prog shf_lays156_ren:={
 sizeBuilder:=by kernel_rfl
 liesBuilder:=by kernel_rfl
 t5:=Tryz.underlying5
 a5:=Tryz.isAgg5
 z5:=Tryz.sizeOf5
 v5:=Tryz.zeroValue5
 infoByte:=by kernel_rfl
 cellsByte:=by kernel_rfl
 sizeByte:=by kernel_rfl
 neB5:=by decide }
theorem shf_strings_Join (bk o c:Nat) (xs:List ByteArray) (sep:ByteArray) (w:World) (hcells:∀ (j:Nat) x,xs[j]? = some x→w.cell? ⟨bk,o+j,none⟩=some (.string x)) (hbk:bk<w.heap.size) (hN:xs.length≤140737488355328) (hcap:xs.length≤c) (hlen:(Lib.join (xs.map (·.data.toList)) sep.data.toList).length≤140737488355328) :
  Calls Tryz.prog 52 #[.slice (some ⟨bk,o,none⟩) xs.length c,.string sep] w fun e w'=>e=.returned (.string ⟨(Lib.join (xs.map (·.data.toList)) sep.data.toList).toArray⟩)∧Below w.heap.size w w':=Any.strings_Join shf_lays156 shf_Builder_Extra_156 bk o c xs sep w hcells hbk hN hcap hlen
end Go.Proofs.YtjbboklnegfohaaGreatDoor

/- Contracts: a strings.Builder of our own: WriteString. -/
namespace Go.Proofs.YtjbboklnegfohaaGreatDoor
open Go Go.RowKit Go.Proofs
abbrev tBd:Nat:=66
theorem bld_size:(Tryz.prog.info? tBd).map (·.size)=some 2:=by kernel_rfl
theorem bld_lies:liesAt Tryz.prog Tryz.prog.depth tBd (2 / Tryz.prog.cellsOf tBd) 0 tBd 1=true:=by kernel_rfl
theorem bld_byte:(Tryz.prog.info? 5).map (fun i=>(i.zero,i.size,i.bytes))=some (some (.int .u8 0),1,1):=by kernel_rfl
end Go.Proofs.YtjbboklnegfohaaGreatDoor

/- Programs opened: what can be read as data reads as a list of commands. -/
namespace Go.Proofs.YtjbboklnegfohaaGreatDoor
open Go Go.RowKit Go.Proofs Go.ChangeShapes Go.WideShapes Go.ChangeAt Go.Deep
section
variable {H:Type} {enc:TypeId×Value→H} {w:World} {base:Nat} {spare:Nat→Bool} {held:Bool}
end
end Go.Proofs.YtjbboklnegfohaaGreatDoor

/- The library's contracts at this program (laid by the kit's shelf, in plain words). -/
namespace Go.Proofs.YtjbboklnegfohaaGreatDoor
open Go Go.Shelf Go.RowKit Go.Proofs
def shg_lays103_ren:Go.Shelf.Ren:=⟨fun|103=>55|210=>87|206=>101|n=>n,fun|9=>9|4=>4|24=>76|3=>3|n=>n,fun|n=>n⟩
theorem shg_lays103:Go.Proofs.Lays.n103 Tryz.prog shg_lays103_ren:={
 mixed:=by kernel_rfl
 f103:=Tryz.func55.trans (congrArg some (by kernel_rfl))
 f206:=Tryz.func101.trans (congrArg some (by kernel_rfl))
 f210:=Tryz.func87.trans (congrArg some (by kernel_rfl))
 t3:=Tryz.underlying3
 a3:=Tryz.isAgg3
 z3:=Tryz.sizeOf3
 v3:=Tryz.zeroValue3
 t4:=Tryz.underlying4
 a4:=Tryz.isAgg4
 z4:=Tryz.sizeOf4
 v4:=Tryz.zeroValue4
 t9:=Tryz.underlying9
 a9:=Tryz.isAgg9
 z9:=Tryz.sizeOf9
 v9:=Tryz.zeroValue9
 t24:=Tryz.underlying76
 a24:=Tryz.isAgg76
 z24:=Tryz.sizeOf76
 v24:=Tryz.zeroValue76 }
theorem shg_strings_CutPrefix (s p:ByteArray) (w:World) :
  Calls Tryz.prog 55 #[.string s,.string p] w fun e w'=>e=.returned (.tuple #[.string ⟨(Lib.trimPrefix s.data.toList p.data.toList).toArray⟩,.bool (Lib.hasPrefix s.data.toList p.data.toList)])∧w'=w:=Any.strings_CutPrefix shg_lays103 s p w
def shg_lays104_ren:Go.Shelf.Ren:=⟨fun|104=>102|211=>110|207=>114|n=>n,fun|9=>9|4=>4|24=>76|3=>3|n=>n,fun|n=>n⟩
theorem shg_lays104:Go.Proofs.Lays.n104 Tryz.prog shg_lays104_ren:={
 mixed:=by kernel_rfl
 f104:=Tryz.func102.trans (congrArg some (by kernel_rfl))
 f207:=Tryz.func114.trans (congrArg some (by kernel_rfl))
 f211:=Tryz.func110.trans (congrArg some (by kernel_rfl))
 t3:=Tryz.underlying3
 a3:=Tryz.isAgg3
 z3:=Tryz.sizeOf3
 v3:=Tryz.zeroValue3
 t4:=Tryz.underlying4
 a4:=Tryz.isAgg4
 z4:=Tryz.sizeOf4
 v4:=Tryz.zeroValue4
 t9:=Tryz.underlying9
 a9:=Tryz.isAgg9
 z9:=Tryz.sizeOf9
 v9:=Tryz.zeroValue9
 t24:=Tryz.underlying76
 a24:=Tryz.isAgg76
 z24:=Tryz.sizeOf76
 v24:=Tryz.zeroValue76 }
theorem shg_strings_CutSuffix (s p:ByteArray) (w:World) (hs:s.size≤9223372036854775807) :
  Calls Tryz.prog 102 #[.string s,.string p] w fun e w'=>e=.returned (.tuple #[.string ⟨(Lib.trimSuffix s.data.toList p.data.toList).toArray⟩,.bool (Lib.hasSuffix s.data.toList p.data.toList)])∧w'=w:=Any.strings_CutSuffix shg_lays104 s p w hs
def shg_lays145_ren:Go.Shelf.Ren:=⟨fun|145=>54|220=>86|219=>100|217=>106|225=>107|224=>108|267=>109|266=>112|314=>113|n=>n,fun|9=>9|4=>4|59=>100|3=>3|5=>5|46=>136|146=>139|51=>138|n=>n,fun|1=>1|n=>n⟩
theorem shg_lays145:Go.Proofs.Lays.n145 Tryz.prog shg_lays145_ren:={
 mixed:=by kernel_rfl
 f145:=Tryz.func54.trans (congrArg some (by kernel_rfl))
 f217:=Tryz.func106.trans (congrArg some (by kernel_rfl))
 f219:=Tryz.func100.trans (congrArg some (by kernel_rfl))
 f220:=Tryz.func86.trans (congrArg some (by kernel_rfl))
 f224:=Tryz.func108.trans (congrArg some (by kernel_rfl))
 f225:=Tryz.func107.trans (congrArg some (by kernel_rfl))
 f266:=Tryz.func112.trans (congrArg some (by kernel_rfl))
 f267:=Tryz.func109.trans (congrArg some (by kernel_rfl))
 f314:=Tryz.func113.trans (congrArg some (by kernel_rfl))
 t3:=Tryz.underlying3
 a3:=Tryz.isAgg3
 z3:=Tryz.sizeOf3
 v3:=Tryz.zeroValue3
 t4:=Tryz.underlying4
 a4:=Tryz.isAgg4
 z4:=Tryz.sizeOf4
 v4:=Tryz.zeroValue4
 t5:=Tryz.underlying5
 a5:=Tryz.isAgg5
 z5:=Tryz.sizeOf5
 v5:=Tryz.zeroValue5
 t9:=Tryz.underlying9
 a9:=Tryz.isAgg9
 z9:=Tryz.sizeOf9
 v9:=Tryz.zeroValue9
 t46:=Tryz.underlying136
 a46:=Tryz.isAgg136
 z46:=Tryz.sizeOf136
 v46:=Tryz.zeroValue136
 t51:=Tryz.underlying138
 a51:=Tryz.isAgg138
 z51:=Tryz.sizeOf138
 v51:=Tryz.zeroValue138
 t59:=Tryz.underlying100
 a59:=Tryz.isAgg100
 z59:=Tryz.sizeOf100
 v59:=Tryz.zeroValue100
 t146:=Tryz.underlying139
 a146:=Tryz.isAgg139
 z146:=Tryz.sizeOf139
 v146:=Tryz.zeroValue139
 g1:=by kernel_rfl }
theorem shg_strings_Cut (s sep:ByteArray) (m:Int) (w:World) (hs:s.size<4294967281) (hm:w.cell? ⟨1,0,none⟩=some (.int .i64 m)) :
  Calls Tryz.prog 54 #[.string s,.string sep] w fun e w'=>e=.returned (.tuple #[.string ⟨(Lib.cut s.data.toList sep.data.toList).1.toArray⟩,.string ⟨(Lib.cut s.data.toList sep.data.toList).2.1.toArray⟩,.bool (Lib.cut s.data.toList sep.data.toList).2.2])∧∃ n,w'=w.drewN n:=Any.strings_Cut shg_lays145 s sep m w hs hm
def shg_lays146_ren:Go.Shelf.Ren:=⟨fun|146=>103|221=>111|268=>115|138=>116|143=>117|195=>118|197=>119|218=>120|219=>100|260=>121|217=>106|225=>107|224=>108|267=>109|266=>112|314=>113|n=>n,fun|9=>9|31=>59|3=>3|4=>4|0=>0|105=>143|21=>21|5=>5|46=>136|119=>145|139=>148|138=>147|146=>139|51=>138|n=>n,fun|1=>1|3=>2|4=>3|n=>n⟩
theorem shg_lays146:Go.Proofs.Lays.n146 Tryz.prog shg_lays146_ren:={
 mixed:=by kernel_rfl
 f138:=Tryz.func116.trans (congrArg some (by kernel_rfl))
 f143:=Tryz.func117.trans (congrArg some (by kernel_rfl))
 f146:=Tryz.func103.trans (congrArg some (by kernel_rfl))
 f195:=Tryz.func118.trans (congrArg some (by kernel_rfl))
 f197:=Tryz.func119.trans (congrArg some (by kernel_rfl))
 f217:=Tryz.func106.trans (congrArg some (by kernel_rfl))
 f218:=Tryz.func120.trans (congrArg some (by kernel_rfl))
 f219:=Tryz.func100.trans (congrArg some (by kernel_rfl))
 f221:=Tryz.func111.trans (congrArg some (by kernel_rfl))
 f224:=Tryz.func108.trans (congrArg some (by kernel_rfl))
 f225:=Tryz.func107.trans (congrArg some (by kernel_rfl))
 f260:=Tryz.func121.trans (congrArg some (by kernel_rfl))
 f266:=Tryz.func112.trans (congrArg some (by kernel_rfl))
 f267:=Tryz.func109.trans (congrArg some (by kernel_rfl))
 f268:=Tryz.func115.trans (congrArg some (by kernel_rfl))
 f314:=Tryz.func113.trans (congrArg some (by kernel_rfl))
 t0:=Tryz.underlying0
 a0:=Tryz.isAgg0
 z0:=Tryz.sizeOf0
 v0:=Tryz.zeroValue0
 t3:=Tryz.underlying3
 a3:=Tryz.isAgg3
 z3:=Tryz.sizeOf3
 v3:=Tryz.zeroValue3
 t4:=Tryz.underlying4
 a4:=Tryz.isAgg4
 z4:=Tryz.sizeOf4
 v4:=Tryz.zeroValue4
 t5:=Tryz.underlying5
 a5:=Tryz.isAgg5
 z5:=Tryz.sizeOf5
 v5:=Tryz.zeroValue5
 t9:=Tryz.underlying9
 a9:=Tryz.isAgg9
 z9:=Tryz.sizeOf9
 v9:=Tryz.zeroValue9
 t21:=Tryz.underlying21
 a21:=Tryz.isAgg21
 z21:=Tryz.sizeOf21
 v21:=Tryz.zeroValue21
 t31:=Tryz.underlying59
 a31:=Tryz.isAgg59
 z31:=Tryz.sizeOf59
 v31:=Tryz.zeroValue59
 t46:=Tryz.underlying136
 a46:=Tryz.isAgg136
 z46:=Tryz.sizeOf136
 v46:=Tryz.zeroValue136
 t51:=Tryz.underlying138
 a51:=Tryz.isAgg138
 z51:=Tryz.sizeOf138
 v51:=Tryz.zeroValue138
 t105:=Tryz.underlying143
 a105:=Tryz.isAgg143
 z105:=Tryz.sizeOf143
 v105:=Tryz.zeroValue143
 t119:=Tryz.underlying145
 a119:=Tryz.isAgg145
 z119:=Tryz.sizeOf145
 t138:=Tryz.underlying147
 a138:=Tryz.isAgg147
 z138:=Tryz.sizeOf147
 v138:=Tryz.zeroValue147
 t139:=Tryz.underlying148
 a139:=Tryz.isAgg148
 z139:=Tryz.sizeOf148
 v139:=Tryz.zeroValue148
 t146:=Tryz.underlying139
 a146:=Tryz.isAgg139
 z146:=Tryz.sizeOf139
 v146:=Tryz.zeroValue139
 g1:=by kernel_rfl
 g3:=by kernel_rfl
 g4:=by kernel_rfl }
theorem shg_strings_Split (s sep:ByteArray) (m:Int) (w:World) (hs:s.size<4294967281) (hm:w.cell? ⟨1,0,none⟩=some (.int .i64 m)) (h1:1≤sep.size) :
  Calls Tryz.prog 103 #[.string s,.string sep] w fun e w'=>
   e=.returned (.slice (some ⟨w.heap.size,0,none⟩) (Lib.countB s sep+1) (Lib.countB s sep+1))∧w'=w.alloc (.cells ((Lib.splitB sep 0 (Lib.countB s sep) s).map Value.string).toArray 9):=Any.strings_Split shg_lays146 (by kernel_rfl) s sep m w hs hm h1
end Go.Proofs.YtjbboklnegfohaaGreatDoor

/- Cases: the class lists of an assertion, and the two pruned searches that give them. Plain; no program. -/
namespace Go.Proofs.YtjbboklnegfohaaGreatDoor
open Go
def cl (c:List Int) (t:Int):Int:=(c[t.toNat]?).getD 0
def Fct.fits (c:List Int) (f:Fct):Bool:=decide (cl c f.a=cl c f.b) == f.eq
def Atm.fill (c:List Int) (x:Atm):Bool:=decide (x.kind=1) || !decide (cl c x.a=cl c x.b)
def Atm.cls (c:List Int) (x:Atm):Atm:=⟨x.kind,cl c x.a,cl c x.b⟩
def filledL (xs:List Atm) (c:List Int):List Atm:=(xs.filter (Atm.fill c)).map (Atm.cls c)
def apartF:List Int→List Atm→Bool
 | _,[]=>true
 | seen,x :: xs=>!decide (x.a=0) && !decide (x.a∈seen)&&apartF (seen++[x.a]) xs
def full (a:Asn) (c:List Int):Bool:=a.facts.all (Fct.fits c)&&apartF [] (filledL a.atoms c)
def gen (S:Nat):Nat→List Int→List (List Int)
 | 0,c=>[c]
 | n+1,c=>if S.testBit (8 - n) then (List.range (9 - n)).flatMap fun k=>if k<8 - n∧cl c k≠k then [] else gen S n (c.set (8 - n) k) else gen S n (c.set (8 - n) (-1))
def zeros:List Int:=[0,0,0,0,0,0,0,0,0]
def opened:List Int:=[0,-1,-1,-1,-1,-1,-1,-1,-1]
def cases (a:Asn) (S:Nat):List (List Int):=(gen S 9 zeros).filter (full a)
def possF (c:List Int) (last:Int) (fs:List Fct):Bool:=fs.all fun f=>!(decide (f.a≤last)&&decide (f.b≤last) && !f.fits c)
def inLast (c:List Int) (last:Int) (x:Atm):Bool:=decide (x.a≤last)&&decide (x.b≤last)&&x.fill c
def possA (c:List Int) (last:Int):List Int→List Atm→Bool
 | _,[]=>true
 | seen,x :: xs=>if inLast c last x then !decide (cl c x.a=0) && !decide (cl c x.a∈seen)&&possA c last (seen++[cl c x.a]) xs else possA c last seen xs
def poss (a:Asn) (c:List Int) (last:Int):Bool:=possF c last a.facts&&possA c last [] a.atoms
def ext (a:Asn) (S:Nat):Nat→List Int→List (List Int)
 | 0,c=>[c]
 | n+1,c=>if S.testBit (8 - n) then (List.range (9 - n)).flatMap fun k=>if k<8 - n∧cl c k≠k then [] else if poss a (c.set (8 - n) k) (8 - n:Nat) then ext a S n (c.set (8 - n) k) else [] else ext a S n (c.set (8 - n) (-1))
section
variable {c d:List Int}
end
end Go.Proofs.YtjbboklnegfohaaGreatDoor

/- A loop over an iterator that keeps state of its own in cells of one type T. No program. -/
namespace Go.Proofs.YtjbboklnegfohaaGreatDoor
open Go Go.RowKit
section
variable {T1 T2 T:TypeId} {n₀ B:Nat} {A W W' W2:World}
end
variable {n:Nat} {P:Program}
/-! ### A region that draws its order, within a round -/
end Go.Proofs.YtjbboklnegfohaaGreatDoor
