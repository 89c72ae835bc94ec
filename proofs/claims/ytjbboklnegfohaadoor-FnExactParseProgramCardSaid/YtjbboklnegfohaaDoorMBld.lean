/- Words for memory: slices that read as lists of cells, whole blocks, prefixes. Plain lemmas; no program. -/
import Derived.WalkKit
import Derived.Lib.Hide
import Derived.BigQuiet
import Derived.Deep.QuietTactic
import Derived.Deep.AppendLies
import Derived.Deep.Draws
import Derived.Deep.RegionHeld
import Derived.OwnWalk
import Derived.StillTailTactics
import Derived.Test.YtjbboklnegfohaaDoorProg
import Derived.ProofKit
import Derived.OpenShut
import Derived.Deep.Slices
import Derived.ChangeSame
import Derived.Laws.BitsAllLaws
import Derived.Laws.BitsLemmas
import Derived.StillTail
import Derived.Shelf.Strings.Builder1
import Derived.Shelf.Strings.Builder2
import Derived.Shelf.Strings.OnBuilder
import Derived.Shelf.Small.Wraps
import Derived.Shelf.Strings.BuilderF
import Derived.Shelf.Strings.BuilderK
import Derived.Shelf.Utf8.RuneCount
import Derived.Shelf.Strings.Search1
import Derived.Shelf.Strings.Search2
import Derived.Shelf.Strings.Search3
import Derived.Shelf.Strings.Cut
import Derived.Shelf.Strings.Count
import Derived.Shelf.LaysM
import Derived.Shelf.Strings.Shaped
import Derived.Shelf.Strings.Prefix
import Derived.Shelf.Strings.Split
import Derived.Shelf.Strings.SplitShaped
import Derived.Shelf.Unicode.Decode
import Derived.Shelf.Strings.RuneCount
import Derived.Shelf.Strings.Explode
import Derived.Shelf.Unicode.DecodeSlow
import Derived.Shelf.Unicode.DecodeAny
set_option linter.unusedSimpArgs false
set_option linter.unusedVariables false
namespace Go.Proofs.YtjbboklnegfohaaDoor
open Go Go.RowKit
abbrev Lim (n:Nat):Prop:=n≤1049600
theorem ret_bool {a b:Bool} (h:a=b):Ending.returned (.bool a)=.returned (.bool b):=by rw[h]
def Rw (w:World) (lo hi size:Nat) (A:Option Addr) (n:Nat) (xs:List Value):Prop:=
 xs.length=n * size∧(0<n * size→∃ b o,A=some ⟨b,o,none⟩∧lo≤b∧b<hi∧∀ j u,xs[j]? = some u→w.cell? ⟨b,o+j,none⟩=some u)
structure Rd (w:World) (lo hi size:Nat) (A:Option Addr) (n:Nat) (xs:List Value):Prop where
 raw:Rw w lo hi size A n xs
 lim:Lim n
section
variable {w w':World} {lo hi lo' hi' size n:Nat} {A:Option Addr} {xs:List Value}
theorem Rw.keep (h:Rw w lo hi size A n xs) (hk:∀ b,lo≤b→b<hi→w'.heap[b]? = w.heap[b]?):Rw w' lo hi size A n xs:=
 ⟨h.1,fun hn=>by
  obtain ⟨b,o,e,h1,h2,hc⟩:=h.2 hn
  exact ⟨b,o,e,h1,h2,fun j u hu=>(World.cell?_of_block (a:=⟨b,o+j,none⟩) (hk b h1 h2)).trans (hc j u hu)⟩⟩
theorem Rw.mono (h:Rw w lo hi size A n xs) (h1:lo'≤lo) (h2:hi≤hi'):Rw w lo' hi' size A n xs:=
 ⟨h.1,fun hn=>by
  obtain ⟨b,o,e,g1,g2,hc⟩:=h.2 hn
  exact ⟨b,o,e,by omega,by omega,hc⟩⟩
theorem Rd.keep (h:Rd w lo hi size A n xs) (hk:∀ b,lo≤b→b<hi→w'.heap[b]? = w.heap[b]?):Rd w' lo hi size A n xs:=⟨h.raw.keep hk,h.lim⟩
theorem Rd.mono (h:Rd w lo hi size A n xs) (h1:lo'≤lo) (h2:hi≤hi'):Rd w lo' hi' size A n xs:=⟨h.raw.mono h1 h2,h.lim⟩
theorem Rd.le (h:Rd w lo hi size A n xs):n≤1049600:=h.lim
theorem Rd.nil (w:World) (lo hi size:Nat) (A:Option Addr):Rd w lo hi size A 0 []:=⟨⟨by simp,fun h=>absurd h (by omega)⟩,by simp[Lim]⟩
theorem Rw.form (h:Rw w lo hi size A n xs) (hn:0<n * size):∃ b o,A=some ⟨b,o,none⟩∧lo≤b∧b<hi∧∀ j u,xs[j]? = some u→w.cell? ⟨b,o+j,none⟩=some u:=h.2 hn
end
def Blk (w:World) (g:Nat) (t:TypeId) (cs:Array Value):Prop:=w.heap[g]? = some (.cells cs t (0,0))
section
variable {w w':World} {g:Nat} {t:TypeId} {cs:Array Value}
theorem Blk.lt (h:Blk w g t cs):g<w.heap.size:=by
 rcases Nat.lt_or_ge g w.heap.size with hlt|hge
 ·exact hlt
 ·unfold Blk at h;rw[Array.getElem?_eq_none hge] at h;cases h
theorem Blk.cell (h:Blk w g t cs) (i:Nat):w.cell? ⟨g,i,none⟩=cs[i]?:=cell_of_row w g i cs t (0,0) h
theorem Blk.frozen (h:Blk w g t cs) (i:Nat):w.frozen? ⟨g,i,none⟩=false:=by
 unfold Blk at h
 simp[World.frozen?,h]
theorem Blk.new (w:World) (t:TypeId) (cs:Array Value):Blk (w.alloc (.cells cs t)) w.heap.size t cs:=heap_alloc_new w _
theorem Blk.newE {w:World} {g:Nat} {t:TypeId} {cs:Array Value} (hg:g=w.heap.size):Blk (w.alloc (.cells cs t)) g t cs:=by subst hg;exact Blk.new w t cs
theorem Blk.drew (h:Blk w g t cs):Blk w.drew g t cs:=h
theorem Blk.drewN (h:Blk w g t cs) (n:Nat):Blk (w.drewN n) g t cs:=h
theorem Blk.alloc (h:Blk w g t cs) (o:Obj):Blk (w.alloc o) g t cs:=(Below.heap_alloc w o g h.lt).trans h
theorem Blk.set_ (h:Blk w g t cs) (i:Nat) (u:Value):Blk (w.setCell ⟨g,i,none⟩ u) g t (cs.setIfInBounds i u):=by
 unfold Blk at h ⊢
 simp[World.setCell,Array.getElem?_modify,h]
theorem Blk.far (h:Blk w g t cs) {p:Addr} (hp:g≠p.block) (u:Value):Blk (w.setCell p u) g t cs:=(Below.heap_setCell w p u g hp).trans h
theorem Blk.below {B:Nat} (h:Blk w g t cs) (hb:Below B w w') (hg:g<B):Blk w' g t cs:=(hb.block g hg).trans h
theorem Blk.grown {row:Option Nat} (h:Blk w g t cs) (hb:w.grownBy w' row) (hg:some g≠row):Blk w' g t cs:=(hb.block g h.lt hg).trans h
theorem Blk.ne_ {g2:Nat} {t2:TypeId} {cs2:Array Value} (h:Blk w g t cs) (h2:Blk w g2 t2 cs2) (ht:t≠t2):g≠g2:=by
 rintro rfl
 unfold Blk at h h2
 rw[h] at h2
 injection h2 with h2
 injection h2 with _ h3
 exact ht h3
end
def Pre (cs:Array Value) (L:List Value) (m:Nat):Prop:=∀ j,j<m→cs[j]? = L[j]?
theorem Pre.zero (cs:Array Value) (L:List Value):Pre cs L 0:=fun j h=>absurd h (by omega)
theorem Pre.set1 {cs:Array Value} {L:List Value} {k:Nat} {u:Value} (h:Pre cs L k) (hs:k<cs.size) (h0:L[k]? = some u):Pre (cs.setIfInBounds k u) L (k+1):=by
 intro j hj
 by_cases e:j=k
 ·subst e;rw[Array.getElem?_setIfInBounds_self,if_pos hs,h0]
 ·rw[Array.getElem?_setIfInBounds_ne (by omega)];exact h j (by omega)
theorem Pre.set3 {cs:Array Value} {L:List Value} {k:Nat} {u0 u1 u2:Value} (h:Pre cs L (k * 3)) (hs:k * 3+2<cs.size) (h0:L[k*3]? = some u0) (h1:L[k*3+1]? = some u1) (h2:L[k*3+2]? = some u2) :
  Pre (((cs.setIfInBounds (k*3) u0).setIfInBounds (k*3+1) u1).setIfInBounds (k*3+2) u2) L ((k+1) * 3):=by
 rw[show (k+1) * 3=k * 3+1+1+1 from by omega]
 exact ((h.set1 (by omega) h0).set1 (by simp;omega) h1).set1 (by simp;omega) h2
theorem Pre.take {cs:Array Value} {L:List Value} (h:Pre cs L L.length):cs.toList.take L.length=L:=by
 apply List.ext_getElem?
 intro j
 rw[List.getElem?_take]
 by_cases hj:j<L.length
 ·rw[if_pos hj];simpa using h j hj
 ·rw[if_neg hj];simp;omega
theorem own_of_blk {w:World} {g base n size cap:Nat} {t:TypeId} {cs:Array Value} {L:List Value} (h:Blk w g t cs) (hb:base≤g) (hL:L.length=n * size) (hp:Pre cs L (n * size)) (hnc:n≤cap) (hc:cap≤maxLen) (hs:cs.size=cap * size) :
  w.ownsRow base t size (.slice (some ⟨g,0,none⟩) n cap) n L:=by
 refine ⟨hL,.inr ⟨g,cap,cs,rfl,hb,h,hnc,hc,hs,?_⟩⟩
 rw[←hL] at hp ⊢
 exact hp.take
theorem own_reads {w:World} {base:Nat} {e:TypeId} {size:Nat} {v:Value} {n:Nat} {xs:List Value} (h:w.ownsRow base e size v n xs) (hl:Lim n):∃ A c,v=.slice A n c∧Rd w base w.heap.size size A n xs:=by
 obtain ⟨h1,h2⟩:=h
 rcases h2 with ⟨rfl,rfl⟩|⟨g,cap,cur,rfl,hb,hg,hn,hm,hs,ht⟩
 ·exact ⟨none,0,rfl,⟨⟨h1,fun hn=>absurd hn (by omega)⟩,hl⟩⟩
 ·refine ⟨_,_,rfl,⟨⟨h1,fun hn0=>⟨g,0,rfl,hb,Blk.lt hg,fun j u hu=>?_⟩⟩,hl⟩⟩
  rw[Nat.zero_add,cell_of_row w g j cur e (0,0) hg]
  rw[←ht,List.getElem?_take] at hu
  split at hu
  ·simpa using hu
  ·cases hu
theorem own_below {w w':World} {base:Nat} {e:TypeId} {size:Nat} {v:Value} {n:Nat} {xs:List Value} (h:w.ownsRow base e size v n xs) (hb:Below w.heap.size w w'):w'.ownsRow base e size v n xs:=by
 obtain ⟨h1,h2⟩:=h
 refine ⟨h1,?_⟩
 rcases h2 with h2|⟨g,cap,cur,hv,hg,hh,r⟩
 ·exact Or.inl h2
 ·exact Or.inr ⟨g,cap,cur,hv,hg,(hb.block g (Blk.lt hh)).trans hh,r⟩
theorem own_lower {w:World} {base base':Nat} {e:TypeId} {size:Nat} {v:Value} {n:Nat} {xs:List Value} (h:w.ownsRow base e size v n xs) (hb:base'≤base):w.ownsRow base' e size v n xs:=by
 obtain ⟨h1,h2⟩:=h
 refine ⟨h1,?_⟩
 rcases h2 with h2|⟨g,cap,cur,hv,hg,r⟩
 ·exact Or.inl h2
 ·exact Or.inr ⟨g,cap,cur,hv,by omega,r⟩
theorem below_drewN {B:Nat} {a w:World} (h:Below B a w) (n:Nat):Below B a (w.drewN n):=⟨h.os,h.tape,h.output,h.size,h.block⟩
theorem bgo {w a b:World} (h:Below w.heap.size w a) (h2:Below a.heap.size a b):Below w.heap.size w b:=h.trans (h2.mono h.size)
theorem bbox {w a:World} (h:Below w.heap.size w a) (o:Obj):Below w.heap.size w (a.alloc o):=h.alloc h.size o
theorem Rw.below {w w':World} {lo hi size n:Nat} {A:Option Addr} {xs:List Value} (h:Rw w lo hi size A n xs) (hb:Below w.heap.size w w'):Rw w' lo hi size A n xs:=
 ⟨h.1,fun hn=>by
  obtain ⟨b,o,e,h1,h2,hc⟩:=h.2 hn
  have h0:=h.1
  have hx:xs[0]? = some (xs[0]'(by omega)):=List.getElem?_eq_getElem (by omega)
  have hlt:b<w.heap.size:=block_lt_of_cell (hc 0 _ hx)
  exact ⟨b,o,e,h1,h2,fun j u hu=>(World.cell?_of_block (a:=⟨b,o+j,none⟩) (hb.block b hlt)).trans (hc j u hu)⟩⟩
theorem Rd.below {w w':World} {lo hi size n:Nat} {A:Option Addr} {xs:List Value} (h:Rd w lo hi size A n xs) (hb:Below w.heap.size w w'):Rd w' lo hi size A n xs:=⟨h.raw.below hb,h.lim⟩
theorem Rd.setb {w:World} {lo hi size n:Nat} {A:Option Addr} {xs:List Value} (h:Rd w lo hi size A n xs) {p:Addr} (hp:p.block<lo∨hi≤p.block) (u:Value):Rd (w.setCell p u) lo hi size A n xs:=
 h.keep fun b h1 h2=>Below.heap_setCell w p u b (by omega)
theorem Blk.next {w w':World} {g:Nat} {t:TypeId} {cs:Array Value} (h:Blk w g t cs) (hb:Below w.heap.size w w'):Blk w' g t cs:=h.below hb h.lt
theorem bcell {W w1:World} (hb:Below W.heap.size W w1):(∀ b o,b<W.heap.size→w1.cell? ⟨b,o,none⟩=W.cell? ⟨b,o,none⟩)∧(∀ b o,b<W.heap.size→w1.frozen? ⟨b,o,none⟩=W.frozen? ⟨b,o,none⟩):=
 ⟨fun b o h=>hb.cell (p:=⟨b,o,none⟩) h,fun b o h=>hb.frozen (p:=⟨b,o,none⟩) h⟩
theorem bel {B:Nat} {a w:World} (h:Below B a w:=by repeat (first|(with_reducible exact Below.refl _ _)|(with_reducible assumption)|(with_reducible apply bbox)|((with_reducible apply Below.setCell);(case hp=>(first|exact Nat.le_refl _|(simp;done)|(simp;omega)|(simp only;omega)|omega)))|(with_reducible apply Below.drew)|(with_reducible apply below_drewN))):Below B a w:=h
theorem blks {w:World} {g:Nat} {t:TypeId} {cs:Array Value} (h:Blk w g t cs:=by repeat (first|(with_reducible assumption)|(with_reducible exact Blk.new _ _ _)|((with_reducible apply Blk.far);(case hp=>(first|exact Nat.le_refl _|(simp;done)|(simp;omega)|(simp only;omega)|omega)))|(with_reducible apply Blk.set_)|((with_reducible refine Blk.newE ?_);(simp;done))|(with_reducible apply Blk.alloc)|(with_reducible apply Blk.drew)|(with_reducible apply Blk.drewN))):Blk w g t cs:=h
/-! shorter words for the moves through a drawn region -/
theorem zA {α:Type} {xs:List α} {i:Nat} (h:i<xs.toArray.size):xs.toArray[i]=xs[i]'(by simpa using h):=List.getElem_toArray h
theorem zB {α:Type} {a:α} {ls:List α} (h:0<(a :: ls).length):(a :: ls)[0]=a:=rfl
theorem zC {α:Type} {a:α} {ls:List α} {i:Nat} (h:i+1<(a :: ls).length):(a :: ls)[i+1]=ls[i]'(Nat.lt_of_succ_lt_succ h):=rfl
theorem zD {α:Type} {xs:List α} {i:Nat} {v:α}:xs.toArray.setIfInBounds i v=(xs.set i v).toArray:=List.setIfInBounds_toArray _ _ _
theorem zE {α:Type} {a b:α} {ls:List α}:(a :: ls).set 0 b=b :: ls:=rfl
theorem zF {α:Type} {a b:α} {ls:List α} {i:Nat}:(a :: ls).set (i+1) b=a :: ls.set i b:=rfl
/-! boxes made at the beginning -/
theorem bx1 {w:World} {F:World→Prop} {t1:TypeId} {c1:Array Value} (h:∀ W,Blk W w.heap.size t1 c1→Below w.heap.size w W→W.heap.size=w.heap.size+1→F W):F (w.alloc (.cells c1 t1)):=
 h _ (Blk.new _ _ _) ((Below.refl _ _).alloc (Nat.le_refl _) _) (by simp)
theorem bx2 {w:World} {F:World→Prop} {t1 t2:TypeId} {c1 c2:Array Value} (h:∀ W,Blk W w.heap.size t1 c1→Blk W (w.heap.size+1) t2 c2→Below w.heap.size w W→W.heap.size=w.heap.size+2→F W):F ((w.alloc (.cells c1 t1)).alloc (.cells c2 t2)):=
 h _ ((Blk.new _ _ _).alloc _) (by have:=Blk.new (w.alloc (.cells c1 t1)) t2 c2;rwa [World.size_alloc] at this) (((Below.refl _ _).alloc (Nat.le_refl _) _).alloc (by simp) _) (by simp)
section
variable {P:Program} {md:Region.Mode} {ops:Array Oper} {S:World→Prop} {Q:Exit→Act→World→Prop} {fuel:Nat} {listed:Array Bool} {a:Act} {w:World}
theorem tk (i:Nat) (v:Value) {o:Oper} (hi:ops[i]? = some o) (hy:∀ w,S w→(execOp a.eval o).run P w=.ok (.value v) w) (hS:S w) (h:wpAnyH P md ops Q S fuel (listed.setIfInBounds i true) (a.put o.dst v) w)
  (hn:Region.wanted o (yielded ops a.tmps)=true:=by rfl) (hs:Region.noSelect ops=true:=by kernel_rfl) (hf:Region.free md ops listed i=true:=by kernel_rfl) (hr:(Region.ready md ops listed).contains i=true:=by kernel_rfl) (hQ:∀ c a w,Q (.panic c) (a.put o.dst v) w→Q (.panic c) a w:=by exact fun _ _ _ h=>h):wpAnyH P md ops Q S (fuel+1) listed a w:=
 wpAnyH_take hi hs hf hr hQ (Or.inl ⟨hn,hy⟩) hS h
theorem rdc (i:Nat) {o:Oper} (ho:ops[i]? = some o) (h:∀ K':Act→World→Prop,Shut (∀ a w,S w→(S w→wpAnyH P md ops Q S fuel (listed.setIfInBounds i true) a w)→K' a w)→if Region.wanted o (yielded ops a.tmps)=true then Oper.wp P o a w K' Q else K' (a.put o.dst undef) w)
  (hr:Region.ready md ops listed=[i]:=by kernel_rfl):wpAnyH P md ops Q S (fuel+1) listed a w:=wpAnyH_ready hr (by simp) (AllReadyH.cons ho h AllReadyH.nil)
end
end Go.Proofs.YtjbboklnegfohaaDoor

/- The plain data and the plain functions: facts, atoms, assertions, contracts. No program. -/
namespace Go.Proofs.YtjbboklnegfohaaDoor
open Go Go.RowKit
structure Fct where
 eq:Bool
 a:Int
 b:Int
deriving DecidableEq,Inhabited
structure Atm where
 kind:Int
 a:Int
 b:Int
deriving DecidableEq,Inhabited
structure Asn where
 facts:List Fct
 atoms:List Atm
deriving DecidableEq,Inhabited
structure Ctr where
 pre:Asn
 post:Asn
 changes:List Int
deriving DecidableEq,Inhabited
structure Ste where
 values:List Int
 heap:List Int
deriving DecidableEq,Inhabited
def Fct.enc (f:Fct):List Value:=[.bool f.eq,.int .i64 f.a,.int .i64 f.b]
def Atm.enc (x:Atm):List Value:=[.int .i64 x.kind,.int .i64 x.a,.int .i64 x.b]
abbrev Fct.val (f:Fct):Value:=.agg #[.bool f.eq,.int .i64 f.a,.int .i64 f.b]
abbrev Atm.val (x:Atm):Value:=.agg #[.int .i64 x.kind,.int .i64 x.a,.int .i64 x.b]
theorem flat3 {α:Type} (f0 f1 f2:α→Value) (fs:List α) (k:Nat) (hk:k<fs.length) :
  (fs.flatMap fun x=>[f0 x,f1 x,f2 x])[k*3]? = some (f0 fs[k])∧(fs.flatMap fun x=>[f0 x,f1 x,f2 x])[k*3+1]? = some (f1 fs[k])∧(fs.flatMap fun x=>[f0 x,f1 x,f2 x])[k*3+2]? = some (f2 fs[k]):=by
 induction fs generalizing k with
 | nil=>simp at hk
 | cons f fs ih=>
  cases k with
  | zero=>simp
  | succ k=>
   have:=ih k (by simpa using hk)
   simp only[List.flatMap_cons,List.getElem_cons_succ,List.getElem?_append,List.length_cons,List.length_nil]
   rw[if_neg (by omega),if_neg (by omega),if_neg (by omega)]
   have e1:(k+1)*3 - (0+1+1+1)=k*3:=by omega
   have e2:(k+1)*3+1 - (0+1+1+1)=k*3+1:=by omega
   have e3:(k+1)*3+2 - (0+1+1+1)=k*3+2:=by omega
   rw[e1,e2,e3];exact this
theorem len3 {α:Type} (f0 f1 f2:α→Value) (fs:List α):(fs.flatMap fun x=>[f0 x,f1 x,f2 x]).length=fs.length * 3:=by
 induction fs with
 | nil=>rfl
 | cons f fs ih=>simp only[List.flatMap_cons,List.length_append,ih,List.length_cons,List.length_nil];omega
abbrev encF (fs:List Fct):List Value:=fs.flatMap fun f=>[.bool f.eq,.int .i64 f.a,.int .i64 f.b]
abbrev encA (xs:List Atm):List Value:=xs.flatMap fun x=>[.int .i64 x.kind,.int .i64 x.a,.int .i64 x.b]
abbrev encB (xs:List Bool):List Value:=xs.map Value.bool
def FactsV (w:World) (lo hi:Nat) (A:Option Addr) (fs:List Fct):Prop:=Rd w lo hi 3 A fs.length (encF fs)
def AtomsV (w:World) (lo hi:Nat) (A:Option Addr) (xs:List Atm):Prop:=Rd w lo hi 3 A xs.length (encA xs)
def AsnV (w:World) (lo hi:Nat) (v:Value) (a:Asn):Prop:=
 ∃ A1 c1 A2 c2,v=.agg #[.slice A1 a.facts.length c1,.slice A2 a.atoms.length c2]∧FactsV w lo hi A1 a.facts∧AtomsV w lo hi A2 a.atoms
section
variable {w w':World} {lo hi:Nat} {A:Option Addr}
theorem FactsV.at {fs:List Fct} (h:FactsV w lo hi A fs) {k:Nat} (hk:k<fs.length):∃ b o,A=some ⟨b,o,none⟩∧w.cell? ⟨b,o+k*3,none⟩=some (.bool fs[k].eq)∧w.cell? ⟨b,o+k*3+1,none⟩=some (.int .i64 fs[k].a)∧w.cell? ⟨b,o+k*3+2,none⟩=some (.int .i64 fs[k].b):=by
 obtain ⟨b,o,e,_,hb,hc⟩:=h.raw.2 (by omega)
 obtain ⟨h0,h1,h2⟩:=flat3 (fun f:Fct=>.bool f.eq) (fun f=>.int .i64 f.a) (fun f=>.int .i64 f.b) fs k hk
 exact ⟨b,o,e,hc _ _ h0,hc _ _ h1,hc _ _ h2⟩
theorem AtomsV.at {fs:List Atm} (h:AtomsV w lo hi A fs) {k:Nat} (hk:k<fs.length):∃ b o,A=some ⟨b,o,none⟩∧w.cell? ⟨b,o+k*3,none⟩=some (.int .i64 fs[k].kind)∧w.cell? ⟨b,o+k*3+1,none⟩=some (.int .i64 fs[k].a)∧w.cell? ⟨b,o+k*3+2,none⟩=some (.int .i64 fs[k].b):=by
 obtain ⟨b,o,e,_,hb,hc⟩:=h.raw.2 (by omega)
 obtain ⟨h0,h1,h2⟩:=flat3 (fun f:Atm=>.int .i64 f.kind) (fun f=>.int .i64 f.a) (fun f=>.int .i64 f.b) fs k hk
 exact ⟨b,o,e,hc _ _ h0,hc _ _ h1,hc _ _ h2⟩
theorem FactsV.below {fs:List Fct} (h:FactsV w lo hi A fs) (hb:Below w.heap.size w w'):FactsV w' lo hi A fs:=Rd.below h hb
theorem AtomsV.below {fs:List Atm} (h:AtomsV w lo hi A fs) (hb:Below w.heap.size w w'):AtomsV w' lo hi A fs:=Rd.below h hb
theorem AsnV.below {v:Value} {a:Asn} (h:AsnV w lo hi v a) (hb:Below w.heap.size w w'):AsnV w' lo hi v a:=by
 obtain ⟨A1,c1,A2,c2,e,h1,h2⟩:=h
 exact ⟨A1,c1,A2,c2,e,h1.below hb,h2.below hb⟩
theorem AsnV.setb {v:Value} {a:Asn} (h:AsnV w lo hi v a) {p:Addr} (hp:p.block<lo∨hi≤p.block) (u:Value):AsnV (w.setCell p u) lo hi v a:=by
 obtain ⟨A1,c1,A2,c2,e,h1,h2⟩:=h
 exact ⟨A1,c1,A2,c2,e,Rd.setb h1 hp u,Rd.setb h2 hp u⟩
theorem AsnV.mono {v:Value} {a:Asn} {lo' hi':Nat} (h:AsnV w lo hi v a) (e1:lo'≤lo) (e2:hi≤hi'):AsnV w lo' hi' v a:=by
 obtain ⟨A1,c1,A2,c2,e,h1,h2⟩:=h
 exact ⟨A1,c1,A2,c2,e,Rd.mono h1 e1 e2,Rd.mono h2 e1 e2⟩
theorem FactsV.mono {fs:List Fct} {lo' hi':Nat} (h:FactsV w lo hi A fs) (e1:lo'≤lo) (e2:hi≤hi'):FactsV w lo' hi' A fs:=Rd.mono h e1 e2
theorem AtomsV.mono {fs:List Atm} {lo' hi':Nat} (h:AtomsV w lo hi A fs) (e1:lo'≤lo) (e2:hi≤hi'):AtomsV w lo' hi' A fs:=Rd.mono h e1 e2
end
def isTermB (n:Int):Bool:=decide (0≤n∧n≤8)
def isProgB (n:Int):Bool:=decide (1≤n∧n≤4)
def Fct.valid (f:Fct):Bool:=isTermB f.a&&isTermB f.b
def Atm.valid (x:Atm):Bool:=decide (x.kind=1∨x.kind=2)&&isTermB x.a&&isTermB x.b
def factsValid (fs:List Fct):Bool:=decide (fs.length≤12)&&fs.all Fct.valid
def Asn.valid (a:Asn):Bool:=factsValid a.facts&&(decide (a.atoms.length≤6)&&a.atoms.all Atm.valid)
def changesFrom:Int→List Int→Bool
 | _,[]=>true
 | last,x :: xs=>isProgB x&&decide (last<x)&&changesFrom x xs
def Ctr.valid (k:Ctr):Bool:=k.pre.valid&&k.post.valid&&changesFrom 0 k.changes
theorem all_drop {α:Type} (p:α→Bool) (l:List α) (k:Nat) (hk:k<l.length):(l.drop k).all p=(p l[k]&&(l.drop (k+1)).all p):=by
 rw[List.drop_eq_getElem_cons hk,List.all_cons]
theorem drop_eq {α:Type} [DecidableEq α] (l m:List α) (k:Nat) (h1:k<l.length) (h2:k<m.length):decide (l.drop k=m.drop k)=(decide (l[k]=m[k])&&decide (l.drop (k+1)=m.drop (k+1))):=by
 rw[List.drop_eq_getElem_cons h1,List.drop_eq_getElem_cons h2]
 simp only[List.cons.injEq,Bool.decide_and]
theorem Fct.eq_iff (f g:Fct):f=g↔f.eq=g.eq∧f.a=g.a∧f.b=g.b:=by cases f;cases g;simp
theorem Atm.eq_iff (f g:Atm):f=g↔f.kind=g.kind∧f.a=g.a∧f.b=g.b:=by cases f;cases g;simp
theorem Asn.eq_iff (f g:Asn):f=g↔f.facts=g.facts∧f.atoms=g.atoms:=by cases f;cases g;simp
theorem Ctr.eq_iff (f g:Ctr):f=g↔f.pre=g.pre∧f.post=g.post∧f.changes=g.changes:=by cases f;cases g;simp
end Go.Proofs.YtjbboklnegfohaaDoor

/- Arguments opened: what can be read as data reads as plain lists. -/
namespace Go.Proofs.YtjbboklnegfohaaDoor
open Go Go.RowKit Go.Proofs Go.ChangeShapes Go.WideShapes Go.ChangeAt Go.Deep
section
variable {H:Type} {enc:TypeId×Value→H} {P:Program} {w:World} {base:Nat} {spare:Nat→Bool} {held:Bool}
end
section
variable {H:Type} {enc:TypeId×Value→H} {w:World} {base:Nat} {spare:Nat→Bool} {held:Bool} {fuel:Nat} {cs:List Value} {x:DataW H×List MemPlace}
end
end Go.Proofs.YtjbboklnegfohaaDoor

/- Data that a call has made, in blocks of its own. -/
namespace Go.Proofs.YtjbboklnegfohaaDoor
open Go Go.RowKit Go.Proofs
abbrev tF:Nat:=89
abbrev tA:Nat:=100
def FactsO (w:World) (base:Nat) (v:Value) (fs:List Fct):Prop:=w.ownsRow base tF 3 v fs.length (encF fs)∧Lim fs.length
def AtomsO (w:World) (base:Nat) (v:Value) (xs:List Atm):Prop:=w.ownsRow base tA 3 v xs.length (encA xs)∧Lim xs.length
def AsnO (w:World) (base:Nat) (v:Value) (a:Asn):Prop:=∃ fv av,v=.agg #[fv,av]∧FactsO w base fv a.facts∧AtomsO w base av a.atoms
section
variable {w w':World} {base base':Nat} {v:Value}
theorem FactsO.below {fs:List Fct} (h:FactsO w base v fs) (hb:Below w.heap.size w w'):FactsO w' base v fs:=⟨own_below h.1 hb,h.2⟩
theorem AtomsO.below {fs:List Atm} (h:AtomsO w base v fs) (hb:Below w.heap.size w w'):AtomsO w' base v fs:=⟨own_below h.1 hb,h.2⟩
theorem AsnO.below {a:Asn} (h:AsnO w base v a) (hb:Below w.heap.size w w'):AsnO w' base v a:=by
 obtain ⟨fv,av,e,h1,h2⟩:=h
 exact ⟨fv,av,e,h1.below hb,h2.below hb⟩
theorem FactsO.setb {fs:List Fct} (h:FactsO w base v fs) {a:Addr} (ha:a.block<base) (u:Value):FactsO (w.setCell a u) base v fs:=⟨ownsRow_setCell_below h.1 ha u,h.2⟩
theorem AtomsO.setb {fs:List Atm} (h:AtomsO w base v fs) {a:Addr} (ha:a.block<base) (u:Value):AtomsO (w.setCell a u) base v fs:=⟨ownsRow_setCell_below h.1 ha u,h.2⟩
theorem AsnO.setb {a:Asn} (h:AsnO w base v a) {p:Addr} (ha:p.block<base) (u:Value):AsnO (w.setCell p u) base v a:=by
 obtain ⟨fv,av,e,h1,h2⟩:=h
 exact ⟨fv,av,e,h1.setb ha u,h2.setb ha u⟩
theorem FactsO.lower {fs:List Fct} (h:FactsO w base v fs) (hb:base'≤base):FactsO w base' v fs:=⟨own_lower h.1 hb,h.2⟩
theorem AtomsO.lower {fs:List Atm} (h:AtomsO w base v fs) (hb:base'≤base):AtomsO w base' v fs:=⟨own_lower h.1 hb,h.2⟩
theorem AsnO.lower {a:Asn} (h:AsnO w base v a) (hb:base'≤base):AsnO w base' v a:=by
 obtain ⟨fv,av,e,h1,h2⟩:=h
 exact ⟨fv,av,e,h1.lower hb,h2.lower hb⟩
theorem FactsO.reads {fs:List Fct} (h:FactsO w base v fs):∃ A c,v=.slice A fs.length c∧FactsV w base w.heap.size A fs:=own_reads h.1 h.2
theorem AtomsO.reads {fs:List Atm} (h:AtomsO w base v fs):∃ A c,v=.slice A fs.length c∧AtomsV w base w.heap.size A fs:=own_reads h.1 h.2
theorem AsnO.reads {a:Asn} (h:AsnO w base v a):AsnV w base w.heap.size v a:=by
 obtain ⟨fv,av,e,h1,h2⟩:=h
 obtain ⟨A1,c1,rfl,g1⟩:=h1.reads
 obtain ⟨A2,c2,rfl,g2⟩:=h2.reads
 exact ⟨A1,c1,A2,c2,e,g1,g2⟩
end
theorem infoF:(Tryd.prog.info? tF).map (fun i=>(i.zero,i.size,i.bytes))=some (some (.agg #[.bool false,.int .i64 0,.int .i64 0]),3,24):=by kernel_rfl
theorem infoA:(Tryd.prog.info? tA).map (fun i=>(i.zero,i.size,i.bytes))=some (some (.agg #[.int .i64 0,.int .i64 0,.int .i64 0]),3,24):=by kernel_rfl
abbrev tB:Nat:=4
end Go.Proofs.YtjbboklnegfohaaDoor

/- append of one element to a list that the call made. -/
namespace Go.Proofs.YtjbboklnegfohaaDoor
open Go Go.RowKit Go.Proofs
theorem own_row_below {w w':World} {base:Nat} {e:TypeId} {size:Nat} {v:Value} {n:Nat} {xs:List Value} (h:w.ownsRow base e size v n xs) (hg:w.grownBy w' v.ownBlock) (hb:base≤w.heap.size):Below base w w':=
 ⟨hg.os,hg.tape,hg.output,hg.size,fun k hk=>hg.block k (by omega) (fun e=>by have:=(h.lt k e.symm).1;omega)⟩
theorem wpList_app {P:Program} {ops:Array Oper} {rest:List Oper} {o:Oper} {a:Act} {Q:Exit→Act→World→Prop} {w:World} (hgd:o.guard=none) (s x:Operand) (t:TypeId)
  (ho:o.op=.call { callee:=.builtin .append,args:=#[s,x],argTypes:=#[t,t] })
  {base:Nat} {e:TypeId} {z:Value} {size bytes:Nat} (ht:P.underlying t=some (.slice e)) (hinfo:(P.info? e).map (fun i=>(i.zero,i.size,i.bytes))=some (some z,size,bytes)) (hzs:z.cells.size=size) (hsz:0<size) (hby:bytes≤200)
  {v:Value} {n:Nat} {xs:List Value} (hs:a.eval s=v) (hown:w.ownsRow base e size v n xs)
  (ad:Addr) (news:List Value) (hx:a.eval x=.slice (some ad) 1 1) (hl:news.length=size) (hnews:∀ j u,news[j]? = some u→w.cell? (ad.add j)=some u) (h1:∀ u∈news,u.oneCell'=true)
  (hn:n+1≤1049600) (hb:base≤w.heap.size)
  (h:∀ g c w',w'.ownsRow base e size (.slice (some ⟨g,0,none⟩) (n+1) c) (n+1) (xs++news)→w.grownBy w' v.ownBlock→Below base w w'→wpList P ops Q rest (a.put o.dst (.slice (some ⟨g,0,none⟩) (n+1) c)) w'):wpList P ops Q (o :: rest) a w:=by
 obtain ⟨i,hi,hz,hsize,hbytes⟩:=info_parts hinfo
 refine wpList_append_own w hgd s x t ho base e i z size bytes ht hi hz hsize hbytes hzs hsz v n xs hs hown ad 1 1 news hx (by omega) hnews h1 (by unfold maxLen;omega) (Nat.le_trans (Nat.mul_le_mul hn hby) (by omega)) hb ?_
 intro v' w' ho' hg' _
 obtain ⟨g,c,rfl,-⟩:=ho'.form (by omega)
 exact h g c w' ho' hg' (own_row_below hown hg' hb)
theorem cell_box (w:World) (u:Value) (t:TypeId):(w.alloc (.cells #[u] t)).cell? ⟨w.heap.size,0,none⟩=some u:=(Blk.new w t #[u]).cell 0
theorem own_empty (w:World) (t:TypeId) (size:Nat):(w.alloc (.cells #[] t)).ownsRow w.heap.size t size (.slice (some ⟨w.heap.size,0,none⟩) 0 0) 0 []:=
 ⟨by simp,.inr ⟨w.heap.size,0,#[],rfl,Nat.le_refl _,heap_alloc_new w _,Nat.le_refl _,by decide,by simp,by simp⟩⟩
section
variable {ops:Array Oper} {rest:List Oper} {o:Oper} {a:Act} {Q:Exit→Act→World→Prop} {w:World}
end
end Go.Proofs.YtjbboklnegfohaaDoor

/- Sets as bits of a 16-bit number. Plain lemmas. -/
namespace Go.Proofs.YtjbboklnegfohaaDoor
open Go Go.RowKit
end Go.Proofs.YtjbboklnegfohaaDoor

/- States: plain functions. No program. -/
namespace Go.Proofs.YtjbboklnegfohaaDoor
open Go Go.RowKit
section
variable {w w':World} {lo hi lo' hi':Nat} {v:Value} {s:Ste}
end
def addrB (n:Int):Bool:=decide (1≤n∧n≤8)
def valB (n:Int):Bool:=decide (0≤n∧n≤8)
def cellB (n:Int):Bool:=decide (n = -1) || valB n
def Ste.valid (s:Ste):Bool:=decide (s.values.length=8)&&decide (s.heap.length=8)&&(s.values.all valB&&s.heap.all cellB)
def cont (h:List Int) (a:Int):Int:=if addrB a then (h[(a-1).toNat]?).getD (-1) else -1
def allocB (h:List Int) (a:Int):Bool:=decide (0≤cont h a)
def tval (vs:List Int) (t:Int):Int:=if t=0 then 0 else (vs[(t-1).toNat]?).getD 0
def Fct.holds (vs:List Int) (f:Fct):Bool:=decide (tval vs f.a=tval vs f.b) == f.eq
def factsHold (fs:List Fct) (vs:List Int):Bool:=factsValid fs&&decide (vs.length=8)&&fs.all (Fct.holds vs)
theorem Ste.valid_len {s:Ste} (h:s.valid=true):s.values.length=8∧s.heap.length=8:=by
 simp[Ste.valid] at h;exact h.1
def walkF (h:List Int):Nat→Int→Int→Option (List Int)
 | 0,x,tz0=>if x=tz0 then some [] else none
 | n+1,x,tz0=>if x=tz0 then some [] else if allocB h x then (walkF h n (cont h x) tz0).map (x :: ·) else none
def addAll:List Int→List Int→Option (List Int)
 | seen,[]=>some seen
 | seen,c :: cs=>if c∈seen then none else addAll (seen++[c]) cs
def atomCells (s:Ste) (x:Atm):Option (List Int):=
 if x.kind=2 then walkF s.heap 8 (tval s.values x.a) (tval s.values x.b) else if cont s.heap (tval s.values x.a)=tval s.values x.b then some [tval s.values x.a] else none
def partAtoms (s:Ste):List Int→List Atm→Option (List Int)
 | seen,[]=>some seen
 | seen,x :: xs=>(atomCells s x).bind fun cs=>(addAll seen cs).bind fun seen'=>partAtoms s seen' xs
def partOf (s:Ste) (a:Asn):Option (List Int):=if s.valid&&a.valid&&factsHold a.facts s.values then partAtoms s [] a.atoms else none
end Go.Proofs.YtjbboklnegfohaaDoor

/- Strings: lists of bytes; lists of strings. -/
namespace Go.Proofs.YtjbboklnegfohaaDoor
open Go Go.RowKit Go.Proofs
abbrev Bs:Type:=List UInt8
abbrev sv (l:Bs):Value:=.string ⟨l.toArray⟩
def encS (ss:List Bs):List Value:=ss.map sv
@[simp] theorem encS_length (ss:List Bs):(encS ss).length=ss.length:=by simp[encS]
theorem bytes_eq (a b:Bs):(a == b)=decide (a=b):=by
 by_cases h:a=b
 ·rw[decide_eq_true h,h];exact beq_self_eq_true b
 ·rw[decide_eq_false h];exact beq_eq_false_iff_ne.2 h
theorem ret_str {x y:Bs} (h:x=y):Ending.returned (Value.string ⟨x.toArray⟩)=.returned (sv y):=by rw[h]
theorem addS {P:Program} (x y:Bs) (h:x.length+y.length≤9223372036854775807) (w:World):(Op.stringOp .add ⟨x.toArray⟩ ⟨y.toArray⟩).run P w=.ok (.string ⟨(x++y).toArray⟩) w:=by
 rw[run_string_add_sum w _ _ (by simp[ByteArray.size];omega),ByteArray.mk_append_mk]
theorem bidx (l:Bs) (k:Nat) (hk:k<l.length):∀ h,(ByteArray.mk l.toArray)[k]'h=l[k]'hk:=fun _=>rfl
theorem bext (l:Bs) (i j:Nat):(ByteArray.mk l.toArray).extract i j=⟨((l.drop i).take (j - i)).toArray⟩:=ByteArray.extract_mk l i j
theorem addO {P:Program} (x y:Bs) (h:x.length+y.length≤9223372036854775807):∃ z,Hid (z=x++y)∧∀ w:World,(Op.stringOp .add ⟨x.toArray⟩ ⟨y.toArray⟩).run P w=.ok (.string ⟨z.toArray⟩) w:=
 ⟨x++y,Lib.hid rfl,fun w=>addS x y h w⟩
abbrev tS:Nat:=9
theorem infoS:(Tryd.prog.info? tS).map (fun i=>(i.zero,i.size,i.bytes))=some (some (.string ⟨#[]⟩),1,16):=by kernel_rfl
def StrsO (w:World) (base:Nat) (v:Value) (xs:List Bs):Prop:=w.ownsRow base tS 1 v xs.length (encS xs)∧Lim xs.length
def StrsV (w:World) (lo hi:Nat) (A:Option Addr) (xs:List Bs):Prop:=Rd w lo hi 1 A xs.length (encS xs)
section
variable {w w':World} {base base' lo hi:Nat} {v:Value} {fs:List Bs} {A:Option Addr}
theorem StrsO.below (h:StrsO w base v fs) (hb:Below w.heap.size w w'):StrsO w' base v fs:=⟨own_below h.1 hb,h.2⟩
theorem StrsO.setb (h:StrsO w base v fs) {a:Addr} (ha:a.block<base) (u:Value):StrsO (w.setCell a u) base v fs:=⟨ownsRow_setCell_below h.1 ha u,h.2⟩
theorem StrsO.lower (h:StrsO w base v fs) (hb:base'≤base):StrsO w base' v fs:=⟨own_lower h.1 hb,h.2⟩
theorem StrsO.reads (h:StrsO w base v fs):∃ A c,v=.slice A fs.length c∧StrsV w base w.heap.size A fs:=own_reads h.1 h.2
theorem StrsV.at (h:StrsV w lo hi A fs) {k:Nat} (hk:k<fs.length):∃ b o,A=some ⟨b,o,none⟩∧w.cell? ⟨b,o+k,none⟩=some (sv fs[k]):=by
 obtain ⟨b,o,e,_,hb,hc⟩:=h.raw.2 (by omega)
 exact ⟨b,o,e,hc _ _ (by simp[encS,List.getElem?_eq_getElem hk])⟩
theorem StrsV.below (h:StrsV w lo hi A fs) (hb:Below w.heap.size w w'):StrsV w' lo hi A fs:=Rd.below h hb
theorem StrsV.mono {lo' hi':Nat} (h:StrsV w lo hi A fs) (e1:lo'≤lo) (e2:hi≤hi'):StrsV w lo' hi' A fs:=Rd.mono h e1 e2
theorem StrsV.le (h:StrsV w lo hi A fs):Lim fs.length:=h.lim
theorem StrsO.empty (w:World) {g:Nat} (hg:g=w.heap.size):StrsO (w.alloc (.cells #[] tS)) g (.slice (some ⟨g,0,none⟩) 0 0) []:=by
 subst hg
 exact ⟨own_empty w _ _,by simp[Lim]⟩
end
section
variable {ops:Array Oper} {rest:List Oper} {o:Oper} {a:Act} {Q:Exit→Act→World→Prop} {w:World}
theorem appS (hgd:o.guard=none) (s x:Operand) (ho:o.op=.call { callee:=.builtin .append,args:=#[s,x],argTypes:=#[67,67] })
  {base:Nat} {v:Value} {xs:List Bs} (hs:a.eval s=v) (hown:StrsO w base v xs) (g0:Nat) (n:Bs) (hx:a.eval x=.slice (some ⟨g0,0,none⟩) 1 1) (hc:w.cell? ⟨g0,0,none⟩=some (sv n))
  (hn:xs.length+1≤1049600) (hb:base≤w.heap.size)
  (h:∀ g c w',StrsO w' base (.slice (some ⟨g,0,none⟩) (xs.length+1) c) (xs++[n])→w.grownBy w' v.ownBlock→Below base w w'→wpList Tryd.prog ops Q rest (a.put o.dst (.slice (some ⟨g,0,none⟩) (xs.length+1) c)) w'):wpList Tryd.prog ops Q (o :: rest) a w:=by
 refine wpList_app hgd s x 67 ho Tryd.underlying67 infoS rfl (by decide) (by decide) hs hown.1 ⟨g0,0,none⟩ [sv n] hx rfl ?_ (by simp[Value.oneCell']) hn hb ?_
 ·intro j u hu
  match j,hu with
  | 0,hu=>simp at hu;subst hu;exact hc
 ·intro g c w' h1 h2 h3
  exact h g c w' ⟨by simpa[encS] using h1,by simp[Lim];omega⟩ h2 h3
end
end Go.Proofs.YtjbboklnegfohaaDoor

/- Programs: the plain data and the words for memory. Plain; no program. -/
namespace Go.Proofs.YtjbboklnegfohaaDoor
open Go Go.RowKit
inductive Cms where
 | nil:Cms
 | cons (kind a b:Int) (test:Fct) (inv:Asn) (body els rest:Cms):Cms
deriving DecidableEq,Inhabited
def Cms.len:Cms→Nat
 | .nil=>0
 | .cons _ _ _ _ _ _ _ r=>r.len+1
def Cms.cost:Cms→Nat
 | .nil=>0
 | .cons _ _ _ _ i body els r=>i.facts.length+i.atoms.length+(body.len+body.cost)+(els.len+els.cost)+r.cost
def Cms.small (n:Nat):Cms→Prop
 | .nil=>True
 | .cons _ _ _ _ i body els r=>i.facts.length≤n∧i.atoms.length≤n∧body.len≤n∧els.len≤n∧body.small n∧els.small n∧r.small n
theorem Cms.cost_small {n:Nat}:∀ {L:Cms},L.cost≤n→L.small n
 | .nil,_=>trivial
 | .cons k a b t i body els r,h=>by
  simp only[Cms.cost] at h
  exact ⟨by omega,by omega,by omega,by omega,Cms.cost_small (by omega),Cms.cost_small (by omega),Cms.cost_small (by omega)⟩
def Cms.drop:Nat→Cms→Cms
 | 0,L=>L
 | _+1,.nil=>.nil
 | n+1,.cons _ _ _ _ _ _ _ r=>r.drop n
theorem Cms.drop_len:∀ (n:Nat) (L:Cms),(L.drop n).len=L.len - n
 | 0,L=>rfl
 | n+1,.nil=>by simp[Cms.drop,Cms.len]
 | n+1,.cons _ _ _ _ _ _ _ r=>by simp only[Cms.drop,Cms.len];rw[Cms.drop_len n r];omega
theorem Cms.drop_all:∀ (L:Cms),L.drop L.len=.nil
 | .nil=>rfl
 | .cons k a b t i body els r=>by simp only[Cms.len,Cms.drop];exact Cms.drop_all r
theorem Cms.drop_succ:∀ (n:Nat) (L:Cms) {k a b:Int} {t:Fct} {i:Asn} {body els r:Cms},L.drop n=.cons k a b t i body els r→L.drop (n+1)=r
 | 0,.cons _ _ _ _ _ _ _ r,_,_,_,_,_,_,_,_,h=>by simp only[Cms.drop] at h ⊢;injection h
 | 0,.nil,_,_,_,_,_,_,_,_,h=>by cases h
 | n+1,.nil,_,_,_,_,_,_,_,_,h=>by cases h
 | n+1,.cons _ _ _ _ _ _ _ r,_,_,_,_,_,_,_,_,h=>Cms.drop_succ n r h
theorem Cms.cons_of_len:∀ {L:Cms},0<L.len→∃ k a b t i body els r,L=.cons k a b t i body els r
 | .nil,h=>by simp[Cms.len] at h
 | .cons k a b t i body els r,_=>⟨k,a,b,t,i,body,els,r,rfl⟩
def CmsAt (w:World) (lo hi:Nat):Cms→Nat→Nat→Prop
 | .nil,_,_=>True
 | .cons k a b t i body els r,bl,o=>
  (w.cell? ⟨bl,o,none⟩=some (.int .i64 k)∧w.cell? ⟨bl,o+1,none⟩=some (.int .i64 a)∧w.cell? ⟨bl,o+2,none⟩=some (.int .i64 b)∧
   w.cell? ⟨bl,o+3,none⟩=some (.bool t.eq)∧w.cell? ⟨bl,o+4,none⟩=some (.int .i64 t.a)∧w.cell? ⟨bl,o+5,none⟩=some (.int .i64 t.b))∧
  (∃ A c,w.cell? ⟨bl,o+6,none⟩=some (.slice A i.facts.length c)∧Rw w lo hi 3 A i.facts.length (encF i.facts))∧
  (∃ A c,w.cell? ⟨bl,o+7,none⟩=some (.slice A i.atoms.length c)∧Rw w lo hi 3 A i.atoms.length (encA i.atoms))∧
  (∃ A c,w.cell? ⟨bl,o+8,none⟩=some (.slice A body.len c)∧(0<body.len→∃ b' o',A=some ⟨b',o',none⟩∧lo≤b'∧b'<hi∧CmsAt w lo hi body b' o'))∧
  (∃ A c,w.cell? ⟨bl,o+9,none⟩=some (.slice A els.len c)∧(0<els.len→∃ b' o',A=some ⟨b',o',none⟩∧lo≤b'∧b'<hi∧CmsAt w lo hi els b' o'))∧
  CmsAt w lo hi r bl (o+10)
def CmsV (w:World) (lo hi:Nat) (A:Option Addr) (L:Cms):Prop:=0<L.len→∃ b o,A=some ⟨b,o,none⟩∧lo≤b∧b<hi∧CmsAt w lo hi L b o
section
variable {w w':World} {lo hi lo' hi':Nat}
theorem CmsAt.below (hb:Below w.heap.size w w'):∀ {L:Cms} {bl o:Nat},CmsAt w lo hi L bl o→CmsAt w' lo hi L bl o
 | .nil,_,_,_=>trivial
 | .cons k a b t i body els r,bl,o,h=>by
  obtain ⟨⟨h0,h1,h2,h3,h4,h5⟩,⟨A6,c6,h6,g6⟩,⟨A7,c7,h7,g7⟩,⟨A8,c8,h8,g8⟩,⟨A9,c9,h9,g9⟩,hr⟩:=h
  have hlt:bl<w.heap.size:=block_lt_of_cell h0
  have hc:∀ j,w'.cell? ⟨bl,j,none⟩=w.cell? ⟨bl,j,none⟩:=fun j=>hb.cell (p:=⟨bl,j,none⟩) hlt
  refine ⟨⟨(hc _).trans h0,(hc _).trans h1,(hc _).trans h2,(hc _).trans h3,(hc _).trans h4,(hc _).trans h5⟩,⟨A6,c6,(hc _).trans h6,g6.below hb⟩,⟨A7,c7,(hc _).trans h7,g7.below hb⟩,⟨A8,c8,(hc _).trans h8,fun hl=>?_⟩,⟨A9,c9,(hc _).trans h9,fun hl=>?_⟩,CmsAt.below hb hr⟩
  ·obtain ⟨b',o',e,p1,p2,p3⟩:=g8 hl;exact ⟨b',o',e,p1,p2,CmsAt.below hb p3⟩
  ·obtain ⟨b',o',e,p1,p2,p3⟩:=g9 hl;exact ⟨b',o',e,p1,p2,CmsAt.below hb p3⟩
theorem CmsAt.mono (e1:lo'≤lo) (e2:hi≤hi'):∀ {L:Cms} {bl o:Nat},CmsAt w lo hi L bl o→CmsAt w lo' hi' L bl o
 | .nil,_,_,_=>trivial
 | .cons k a b t i body els r,bl,o,h=>by
  obtain ⟨h0,⟨A6,c6,h6,g6⟩,⟨A7,c7,h7,g7⟩,⟨A8,c8,h8,g8⟩,⟨A9,c9,h9,g9⟩,hr⟩:=h
  refine ⟨h0,⟨A6,c6,h6,g6.mono e1 e2⟩,⟨A7,c7,h7,g7.mono e1 e2⟩,⟨A8,c8,h8,fun hl=>?_⟩,⟨A9,c9,h9,fun hl=>?_⟩,CmsAt.mono e1 e2 hr⟩
  ·obtain ⟨b',o',e,p1,p2,p3⟩:=g8 hl;exact ⟨b',o',e,by omega,by omega,CmsAt.mono e1 e2 p3⟩
  ·obtain ⟨b',o',e,p1,p2,p3⟩:=g9 hl;exact ⟨b',o',e,by omega,by omega,CmsAt.mono e1 e2 p3⟩
theorem CmsV.below {A:Option Addr} {L:Cms} (h:CmsV w lo hi A L) (hb:Below w.heap.size w w'):CmsV w' lo hi A L:=fun hl=>by
 obtain ⟨b,o,e,p1,p2,p3⟩:=h hl;exact ⟨b,o,e,p1,p2,p3.below hb⟩
theorem CmsV.mono {A:Option Addr} {L:Cms} (h:CmsV w lo hi A L) (e1:lo'≤lo) (e2:hi≤hi'):CmsV w lo' hi' A L:=fun hl=>by
 obtain ⟨b,o,e,p1,p2,p3⟩:=h hl;exact ⟨b,o,e,by omega,by omega,p3.mono e1 e2⟩
theorem CmsAt.drop:∀ (n:Nat) {L:Cms} {bl o:Nat},CmsAt w lo hi L bl o→CmsAt w lo hi (L.drop n) bl (o+n * 10)
 | 0,L,bl,o,h=>by simpa[Cms.drop] using h
 | n+1,.nil,bl,o,h=>trivial
 | n+1,.cons k a b t i body els r,bl,o,h=>by
  have:=CmsAt.drop n h.2.2.2.2.2
  rwa [show o+10+n * 10=o+(n+1) * 10 from by omega] at this
end
theorem Cms.small_drop {m:Nat}:∀ (n:Nat) {L:Cms},L.small m→(L.drop n).small m
 | 0,L,h=>h
 | n+1,.nil,h=>trivial
 | n+1,.cons k a b t i body els r,h=>Cms.small_drop n h.2.2.2.2.2.2
end Go.Proofs.YtjbboklnegfohaaDoor

/- A part of a region that draws its order, by an invariant: each operation once. Plain lemmas; no program. -/
namespace Go.Proofs.YtjbboklnegfohaaDoor
open Go
section
variable {P:Program} {md:Region.Mode} {ops:Array Oper} {S:World→Prop} {Q:Exit→Act→World→Prop} {I:Array Bool→Act→World→Prop}
end
end Go.Proofs.YtjbboklnegfohaaDoor

/- A region that draws its order and whose last operation is a store: the store stands behind all others, whatever the order. Plain lemmas; no program. -/
namespace Go.Proofs.YtjbboklnegfohaaDoor
open Go
section
variable {P:Program} {md:Region.Mode} {S:World→Prop} {Q:Exit→Act→World→Prop}
end
end Go.Proofs.YtjbboklnegfohaaDoor

/- Programs opened: what can be read as data reads as a list of commands. -/
namespace Go.Proofs.YtjbboklnegfohaaDoor
open Go Go.RowKit Go.Proofs Go.ChangeShapes Go.WideShapes Go.ChangeAt Go.Deep
section
variable {H:Type} {enc:TypeId×Value→H} {w:World} {base:Nat} {spare:Nat→Bool} {held:Bool}
end
end Go.Proofs.YtjbboklnegfohaaDoor

/- The library's contracts at this program (laid by the kit's shelf, in plain words). -/
namespace Go.Proofs.YtjbboklnegfohaaDoor
open Go Go.Shelf Go.RowKit Go.Proofs
def shg_lays103_ren:Go.Shelf.Ren:=⟨fun|103=>39|210=>77|206=>105|n=>n,fun|9=>9|4=>4|24=>75|3=>3|n=>n,fun|n=>n⟩
theorem shg_lays103:Go.Proofs.Lays.n103 Tryd.prog shg_lays103_ren:={
 mixed:=by kernel_rfl
 f103:=Tryd.func39.trans (congrArg some (by kernel_rfl))
 f206:=Tryd.func105.trans (congrArg some (by kernel_rfl))
 f210:=Tryd.func77.trans (congrArg some (by kernel_rfl))
 t3:=Tryd.underlying3
 a3:=Tryd.isAgg3
 z3:=Tryd.sizeOf3
 v3:=Tryd.zeroValue3
 t4:=Tryd.underlying4
 a4:=Tryd.isAgg4
 z4:=Tryd.sizeOf4
 v4:=Tryd.zeroValue4
 t9:=Tryd.underlying9
 a9:=Tryd.isAgg9
 z9:=Tryd.sizeOf9
 v9:=Tryd.zeroValue9
 t24:=Tryd.underlying75
 a24:=Tryd.isAgg75
 z24:=Tryd.sizeOf75
 v24:=Tryd.zeroValue75 }
theorem shg_strings_CutPrefix (s p:ByteArray) (w:World) :
  Calls Tryd.prog 39 #[.string s,.string p] w fun e w'=>e=.returned (.tuple #[.string ⟨(Lib.trimPrefix s.data.toList p.data.toList).toArray⟩,.bool (Lib.hasPrefix s.data.toList p.data.toList)])∧w'=w:=Any.strings_CutPrefix shg_lays103 s p w
def shg_lays104_ren:Go.Shelf.Ren:=⟨fun|104=>107|211=>123|207=>136|n=>n,fun|9=>9|4=>4|24=>75|3=>3|n=>n,fun|n=>n⟩
theorem shg_lays104:Go.Proofs.Lays.n104 Tryd.prog shg_lays104_ren:={
 mixed:=by kernel_rfl
 f104:=Tryd.func107.trans (congrArg some (by kernel_rfl))
 f207:=Tryd.func136.trans (congrArg some (by kernel_rfl))
 f211:=Tryd.func123.trans (congrArg some (by kernel_rfl))
 t3:=Tryd.underlying3
 a3:=Tryd.isAgg3
 z3:=Tryd.sizeOf3
 v3:=Tryd.zeroValue3
 t4:=Tryd.underlying4
 a4:=Tryd.isAgg4
 z4:=Tryd.sizeOf4
 v4:=Tryd.zeroValue4
 t9:=Tryd.underlying9
 a9:=Tryd.isAgg9
 z9:=Tryd.sizeOf9
 v9:=Tryd.zeroValue9
 t24:=Tryd.underlying75
 a24:=Tryd.isAgg75
 z24:=Tryd.sizeOf75
 v24:=Tryd.zeroValue75 }
theorem shg_strings_CutSuffix (s p:ByteArray) (w:World) (hs:s.size≤9223372036854775807) :
  Calls Tryd.prog 107 #[.string s,.string p] w fun e w'=>e=.returned (.tuple #[.string ⟨(Lib.trimSuffix s.data.toList p.data.toList).toArray⟩,.bool (Lib.hasSuffix s.data.toList p.data.toList)])∧w'=w:=Any.strings_CutSuffix shg_lays104 s p w hs
def shg_lays145_ren:Go.Shelf.Ren:=⟨fun|145=>78|220=>106|219=>122|217=>132|225=>133|224=>134|267=>135|266=>137|314=>138|n=>n,fun|9=>9|4=>4|59=>114|3=>3|5=>5|46=>152|146=>158|51=>157|n=>n,fun|1=>1|n=>n⟩
theorem shg_lays145:Go.Proofs.Lays.n145 Tryd.prog shg_lays145_ren:={
 mixed:=by kernel_rfl
 f145:=Tryd.func78.trans (congrArg some (by kernel_rfl))
 f217:=Tryd.func132.trans (congrArg some (by kernel_rfl))
 f219:=Tryd.func122.trans (congrArg some (by kernel_rfl))
 f220:=Tryd.func106.trans (congrArg some (by kernel_rfl))
 f224:=Tryd.func134.trans (congrArg some (by kernel_rfl))
 f225:=Tryd.func133.trans (congrArg some (by kernel_rfl))
 f266:=Tryd.func137.trans (congrArg some (by kernel_rfl))
 f267:=Tryd.func135.trans (congrArg some (by kernel_rfl))
 f314:=Tryd.func138.trans (congrArg some (by kernel_rfl))
 t3:=Tryd.underlying3
 a3:=Tryd.isAgg3
 z3:=Tryd.sizeOf3
 v3:=Tryd.zeroValue3
 t4:=Tryd.underlying4
 a4:=Tryd.isAgg4
 z4:=Tryd.sizeOf4
 v4:=Tryd.zeroValue4
 t5:=Tryd.underlying5
 a5:=Tryd.isAgg5
 z5:=Tryd.sizeOf5
 v5:=Tryd.zeroValue5
 t9:=Tryd.underlying9
 a9:=Tryd.isAgg9
 z9:=Tryd.sizeOf9
 v9:=Tryd.zeroValue9
 t46:=Tryd.underlying152
 a46:=Tryd.isAgg152
 z46:=Tryd.sizeOf152
 v46:=Tryd.zeroValue152
 t51:=Tryd.underlying157
 a51:=Tryd.isAgg157
 z51:=Tryd.sizeOf157
 v51:=Tryd.zeroValue157
 t59:=Tryd.underlying114
 a59:=Tryd.isAgg114
 z59:=Tryd.sizeOf114
 v59:=Tryd.zeroValue114
 t146:=Tryd.underlying158
 a146:=Tryd.isAgg158
 z146:=Tryd.sizeOf158
 v146:=Tryd.zeroValue158
 g1:=by kernel_rfl }
theorem shg_strings_Cut (s sep:ByteArray) (m:Int) (w:World) (hs:s.size<4294967281) (hm:w.cell? ⟨1,0,none⟩=some (.int .i64 m)) :
  Calls Tryd.prog 78 #[.string s,.string sep] w fun e w'=>e=.returned (.tuple #[.string ⟨(Lib.cut s.data.toList sep.data.toList).1.toArray⟩,.string ⟨(Lib.cut s.data.toList sep.data.toList).2.1.toArray⟩,.bool (Lib.cut s.data.toList sep.data.toList).2.2])∧∃ n,w'=w.drewN n:=Any.strings_Cut shg_lays145 s sep m w hs hm
def shg_lays146_ren:Go.Shelf.Ren:=⟨fun|146=>79|221=>76|268=>102|138=>103|143=>104|195=>119|197=>120|218=>121|219=>122|260=>131|217=>132|225=>133|224=>134|267=>135|266=>137|314=>138|n=>n,fun|9=>9|31=>67|3=>3|4=>4|0=>0|105=>145|21=>21|5=>5|46=>152|119=>153|139=>156|138=>155|146=>158|51=>157|n=>n,fun|1=>1|3=>2|4=>3|n=>n⟩
theorem shg_lays146:Go.Proofs.Lays.n146 Tryd.prog shg_lays146_ren:={
 mixed:=by kernel_rfl
 f138:=Tryd.func103.trans (congrArg some (by kernel_rfl))
 f143:=Tryd.func104.trans (congrArg some (by kernel_rfl))
 f146:=Tryd.func79.trans (congrArg some (by kernel_rfl))
 f195:=Tryd.func119.trans (congrArg some (by kernel_rfl))
 f197:=Tryd.func120.trans (congrArg some (by kernel_rfl))
 f217:=Tryd.func132.trans (congrArg some (by kernel_rfl))
 f218:=Tryd.func121.trans (congrArg some (by kernel_rfl))
 f219:=Tryd.func122.trans (congrArg some (by kernel_rfl))
 f221:=Tryd.func76.trans (congrArg some (by kernel_rfl))
 f224:=Tryd.func134.trans (congrArg some (by kernel_rfl))
 f225:=Tryd.func133.trans (congrArg some (by kernel_rfl))
 f260:=Tryd.func131.trans (congrArg some (by kernel_rfl))
 f266:=Tryd.func137.trans (congrArg some (by kernel_rfl))
 f267:=Tryd.func135.trans (congrArg some (by kernel_rfl))
 f268:=Tryd.func102.trans (congrArg some (by kernel_rfl))
 f314:=Tryd.func138.trans (congrArg some (by kernel_rfl))
 t0:=Tryd.underlying0
 a0:=Tryd.isAgg0
 z0:=Tryd.sizeOf0
 v0:=Tryd.zeroValue0
 t3:=Tryd.underlying3
 a3:=Tryd.isAgg3
 z3:=Tryd.sizeOf3
 v3:=Tryd.zeroValue3
 t4:=Tryd.underlying4
 a4:=Tryd.isAgg4
 z4:=Tryd.sizeOf4
 v4:=Tryd.zeroValue4
 t5:=Tryd.underlying5
 a5:=Tryd.isAgg5
 z5:=Tryd.sizeOf5
 v5:=Tryd.zeroValue5
 t9:=Tryd.underlying9
 a9:=Tryd.isAgg9
 z9:=Tryd.sizeOf9
 v9:=Tryd.zeroValue9
 t21:=Tryd.underlying21
 a21:=Tryd.isAgg21
 z21:=Tryd.sizeOf21
 v21:=Tryd.zeroValue21
 t31:=Tryd.underlying67
 a31:=Tryd.isAgg67
 z31:=Tryd.sizeOf67
 v31:=Tryd.zeroValue67
 t46:=Tryd.underlying152
 a46:=Tryd.isAgg152
 z46:=Tryd.sizeOf152
 v46:=Tryd.zeroValue152
 t51:=Tryd.underlying157
 a51:=Tryd.isAgg157
 z51:=Tryd.sizeOf157
 v51:=Tryd.zeroValue157
 t105:=Tryd.underlying145
 a105:=Tryd.isAgg145
 z105:=Tryd.sizeOf145
 v105:=Tryd.zeroValue145
 t119:=Tryd.underlying153
 a119:=Tryd.isAgg153
 z119:=Tryd.sizeOf153
 t138:=Tryd.underlying155
 a138:=Tryd.isAgg155
 z138:=Tryd.sizeOf155
 v138:=Tryd.zeroValue155
 t139:=Tryd.underlying156
 a139:=Tryd.isAgg156
 z139:=Tryd.sizeOf156
 v139:=Tryd.zeroValue156
 t146:=Tryd.underlying158
 a146:=Tryd.isAgg158
 z146:=Tryd.sizeOf158
 v146:=Tryd.zeroValue158
 g1:=by kernel_rfl
 g3:=by kernel_rfl
 g4:=by kernel_rfl }
theorem shg_strings_Split (s sep:ByteArray) (m:Int) (w:World) (hs:s.size<4294967281) (hm:w.cell? ⟨1,0,none⟩=some (.int .i64 m)) (h1:1≤sep.size) :
  Calls Tryd.prog 79 #[.string s,.string sep] w fun e w'=>
   e=.returned (.slice (some ⟨w.heap.size,0,none⟩) (Lib.countB s sep+1) (Lib.countB s sep+1))∧w'=w.alloc (.cells ((Lib.splitB sep 0 (Lib.countB s sep) s).map Value.string).toArray 9):=Any.strings_Split shg_lays146 (by kernel_rfl) s sep m w hs hm h1
end Go.Proofs.YtjbboklnegfohaaDoor

/- The library's contracts at this program (laid by the kit's shelf, in plain words). -/
namespace Go.Proofs.YtjbboklnegfohaaDoor
open Go Go.Shelf Go.RowKit Go.Proofs
end Go.Proofs.YtjbboklnegfohaaDoor

/- Contracts: a strings.Builder of our own: WriteString. -/
namespace Go.Proofs.YtjbboklnegfohaaDoor
open Go Go.RowKit Go.Proofs
end Go.Proofs.YtjbboklnegfohaaDoor
