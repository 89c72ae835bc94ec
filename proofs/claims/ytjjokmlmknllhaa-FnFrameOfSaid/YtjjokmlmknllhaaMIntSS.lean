/- Arguments that are states; marks. -/
import Derived.Test.YtjjokmlmknllhaaArg
import Derived.Test.YtjjokmlmknllhaaMDefS
import Derived.Test.YtjjokmlmknllhaaMAppX
import Derived.Deep.RegionHeld3
import Derived.Deep.DrawnRows
import Derived.Test.YtjjokmlmknllhaaMRange
set_option linter.unusedSimpArgs false
set_option linter.unusedVariables false
namespace Go.Proofs.Ytjjokmlmknllhaa
open Go Go.RowKit Go.Proofs
def Und (v:Value) (hi:Nat):Prop:=∀ g,v.ownBlock=some g→g<hi
theorem IntsO.und {w:World} {base:Nat} {v:Value} {xs:List Int} (h:IntsO w base v xs):Und v w.heap.size:=fun g hg=>(h.1.lt g hg).2
theorem FactsO.und {w:World} {base:Nat} {v:Value} {xs:List Fct} (h:FactsO w base v xs):Und v w.heap.size:=fun g hg=>(h.1.lt g hg).2
theorem AtomsO.und {w:World} {base:Nat} {v:Value} {xs:List Atm} (h:AtomsO w base v xs):Und v w.heap.size:=fun g hg=>(h.1.lt g hg).2
theorem Und.mono {v:Value} {a b:Nat} (h:Und v a) (hab:a≤b):Und v b:=fun g hg=>Nat.lt_of_lt_of_le (h g hg) hab
structure Mk (p:Nat→Prop) (w w':World):Prop where
 os:w'.os=w.os
 tape:w'.tape=w.tape
 output:w'.output=w.output
 size:w.heap.size≤w'.heap.size
 block:∀ k,k<w.heap.size→¬p k→w'.heap[k]? = w.heap[k]?
section
variable {p q:Nat→Prop} {w a b:World}
theorem Mk.refl (p:Nat→Prop) (w:World):Mk p w w:=⟨rfl,rfl,rfl,Nat.le_refl _,fun _ _ _=>rfl⟩
theorem Mk.trans (h:Mk p w a) (h2:Mk p a b):Mk p w b:=⟨h2.os.trans h.os,h2.tape.trans h.tape,h2.output.trans h.output,Nat.le_trans h.size h2.size,fun k hk hp=>(h2.block k (Nat.lt_of_lt_of_le hk h.size) hp).trans (h.block k hk hp)⟩
theorem Mk.mono (h:Mk p w a) (hpq:∀ k,p k→q k):Mk q w a:=⟨h.os,h.tape,h.output,h.size,fun k hk hq=>h.block k hk fun hp=>hq (hpq k hp)⟩
theorem Mk.set (h:Mk p w a) {x:Addr} (hx:p x.block) (u:Value):Mk p w (a.setCell x u):=h.trans ⟨rfl,rfl,rfl,by simp,fun k _ hk=>Below.heap_setCell a x u k (fun e=>hk (e▸hx))⟩
theorem Mk.below_ (h:Below w.heap.size w a):Mk p w a:=⟨h.os,h.tape,h.output,h.size,fun k hk _=>h.block k hk⟩
theorem Mk.below {lo:Nat} (h:Mk p w a) (hp:∀ k,p k→lo≤k) (hl:lo≤w.heap.size):Below lo w a:=⟨h.os,h.tape,h.output,h.size,fun k hk=>h.block k (by omega) fun hp'=>by have:=hp k hp';omega⟩
theorem Mk.abv {hi:Nat} (h:Mk p w a) (hp:∀ k,p k→k<hi):Abv hi w a:=⟨h.size,fun k h1 h2=>h.block k h2 fun hp'=>by have:=hp k hp';omega⟩
theorem Mk.blk {g:Nat} {t:TypeId} {cs:Array Value} (h:Mk p w a) (hk:Blk w g t cs) (hg:¬p g):Blk a g t cs:=(h.block g hk.lt hg).trans hk
end
theorem own_mk {p:Nat→Prop} {w w':World} {base:Nat} {e:TypeId} {size:Nat} {v:Value} {n:Nat} {xs:List Value} (h:w.ownsRow base e size v n xs) (hb:Mk p w w') (hp:∀ g,v.ownBlock=some g→¬p g):w'.ownsRow base e size v n xs:=by
 obtain ⟨h1,h2⟩:=h
 refine ⟨h1,?_⟩
 rcases h2 with h2|⟨g,cap,cur,hv,hg,hh,r⟩
 ·exact Or.inl h2
 ·exact Or.inr ⟨g,cap,cur,hv,hg,(hb.block g (Blk.lt hh) (hp g (by rw[hv];rfl))).trans hh,r⟩
def iota (k:Int) (n:Nat):List Int:=(List.range n).map fun i:Nat=>k+i
def markF (k:Int) (n:Nat):List Fct:=(List.range n).map fun i:Nat=>⟨k % 3 == 0,k+3 * i+1,k+3 * i+1+1⟩
def markA (k:Int) (n:Nat):List Atm:=(List.range n).map fun i:Nat=>⟨k+3 * i,k+3 * i+1,k+3 * i+1+1⟩
def StateO (w:World) (base:Nat) (v:Value) (s:Ste):Prop:=∃ fv av,v=.agg #[fv,av]∧IntsO w base fv s.values∧IntsO w base av s.heap∧∀ g,fv.ownBlock=some g→av.ownBlock≠some g
theorem StateO.below {w w':World} {base:Nat} {v:Value} {s:Ste} (h:StateO w base v s) (hb:Below w.heap.size w w'):StateO w' base v s:=by
 obtain ⟨fv,av,e,h1,h2,h3⟩:=h
 exact ⟨fv,av,e,h1.below hb,h2.below hb,h3⟩
theorem StateO.abv {w w':World} {base lo:Nat} {v:Value} {s:Ste} (h:StateO w base v s) (hb:Abv lo w w') (hl:lo≤base):StateO w' base v s:=by
 obtain ⟨fv,av,e,h1,h2,h3⟩:=h
 exact ⟨fv,av,e,h1.abv hb hl,h2.abv hb hl,h3⟩
theorem StateO.lower {w:World} {base base':Nat} {v:Value} {s:Ste} (h:StateO w base v s) (hb:base'≤base):StateO w base' v s:=by
 obtain ⟨fv,av,e,h1,h2,h3⟩:=h
 exact ⟨fv,av,e,h1.lower hb,h2.lower hb,h3⟩
theorem StateO.reads {w:World} {base:Nat} {v:Value} {s:Ste} (h:StateO w base v s):StateV w base w.heap.size v s:=by
 obtain ⟨fv,av,e,h1,h2,h3⟩:=h
 obtain ⟨A1,c1,rfl,g1⟩:=h1.reads
 obtain ⟨A2,c2,rfl,g2⟩:=h2.reads
 exact ⟨A1,c1,A2,c2,e,g1,g2⟩
theorem IntsO.mk {p:Nat→Prop} {w w':World} {base:Nat} {v:Value} {xs:List Int} (h:IntsO w base v xs) (hb:Mk p w w') (hp:∀ g,v.ownBlock=some g→¬p g):IntsO w' base v xs:=⟨own_mk h.1 hb hp,h.2⟩
theorem FactsO.mk {p:Nat→Prop} {w w':World} {base:Nat} {v:Value} {xs:List Fct} (h:FactsO w base v xs) (hb:Mk p w w') (hp:∀ g,v.ownBlock=some g→¬p g):FactsO w' base v xs:=⟨own_mk h.1 hb hp,h.2⟩
theorem AtomsO.mk {p:Nat→Prop} {w w':World} {base:Nat} {v:Value} {xs:List Atm} (h:AtomsO w base v xs) (hb:Mk p w w') (hp:∀ g,v.ownBlock=some g→¬p g):AtomsO w' base v xs:=⟨own_mk h.1 hb hp,h.2⟩
theorem Ste.eq_iff (f g:Ste):f=g↔f.values=g.values∧f.heap=g.heap:=by cases f;cases g;simp
def szSt (s:Ste) (left:Int):Int:=if szL s.values.length left<0 then -1 else szL s.heap.length (szL s.values.length left)
def StateR (w:World) (v:Value) (a:Ste):Prop:=
 ∃ A1 c1 A2 c2,v=.agg #[.slice A1 a.values.length c1,.slice A2 a.heap.length c2]∧IntsR w A1 a.values∧IntsR w A2 a.heap
def markSt (k:Int) (s:Ste):Ste:=⟨iota k s.values.length,iota (k+s.values.length) s.heap.length⟩
def markAs (k:Int) (s:Asn):Asn:=⟨markF k s.facts.length,markA (k+3 * s.facts.length) s.atoms.length⟩
end Go.Proofs.Ytjjokmlmknllhaa

/- Rows that a call changes in place; marks that are held; replaced terms (impl). -/
namespace Go.Proofs.Ytjjokmlmknllhaa
open Go Go.RowKit Go.Proofs
attribute [local go_sem ↓] Go.wp_at_zero Go.wp_at_succ
theorem Pre.setL {cs:Array Value} {L:List Value} {m:Nat} (h:Pre cs L m) (i:Nat) (u:Value) (hs:m≤cs.size) (hl:m≤L.length):Pre (cs.setIfInBounds i u) (L.set i u) m:=by
 intro j hj
 by_cases e:i=j
 ·subst e
  rw[Array.getElem?_setIfInBounds_self,if_pos (by omega),List.getElem?_set_self (by omega)]
 ·rw[Array.getElem?_setIfInBounds_ne e,List.getElem?_set_ne e];exact h j hj
theorem FactsO.open_ {w:World} {base:Nat} {A:Option Addr} {n c k:Nat} {fs:List Fct} (h:FactsO w base (.slice A n c) fs) (hk:k<fs.length):∃ g cur,n=fs.length∧A=some ⟨g,0,none⟩∧base≤g∧Blk w g tF cur∧fs.length * 3≤cur.size∧cur[k*3]? = some (.bool fs[k].eq)∧cur[k*3+1]? = some (.int .i64 fs[k].a)∧cur[k*3+2]? = some (.int .i64 fs[k].b)∧
  (∀ (i:Nat) (u:Value) (gs:List Fct),encF gs=(encF fs).set i u→gs.length=fs.length→FactsO (w.setCell ⟨g,i,none⟩ u) base (.slice A n c) gs):=by
 obtain ⟨⟨hl,h2⟩,hL⟩:=h
 rcases h2 with ⟨e,hn⟩|⟨g,cap,cur,e,hb,hh,hn,hm,hs,ht⟩
 ·omega
 ·injection e with e1 e2 e3
  subst e1 e2 e3
  have hK:Blk w g tF cur:=hh
  have hP:Pre cur (encF fs) (fs.length * 3):=by
   intro j hj
   rw[←ht,List.getElem?_take,if_pos hj];simp
  obtain ⟨t0,t1,t2⟩:=flat3 (fun f:Fct=>.bool f.eq) (fun f=>.int .i64 f.a) (fun f=>.int .i64 f.b) fs k hk
  refine ⟨g,cur,rfl,rfl,hb,hK,by rw[hs];exact Nat.mul_le_mul hn (Nat.le_refl _),(hP _ (by omega)).trans t0,(hP _ (by omega)).trans t1,(hP _ (by omega)).trans t2,?_⟩
  intro i u gs he hg
  refine ⟨?_,by rw[hg];exact hL⟩
  rw[he,hg]
  exact own_of_blk (hK.set_ i u) hb (by rw[List.length_set,hl]) (hP.setL i u (by rw[hs];exact Nat.mul_le_mul hn (Nat.le_refl _)) (by rw[hl];exact Nat.le_refl _)) hn hm (by simpa using hs)
theorem AtomsO.open_ {w:World} {base:Nat} {A:Option Addr} {n c k:Nat} {fs:List Atm} (h:AtomsO w base (.slice A n c) fs) (hk:k<fs.length):∃ g cur,n=fs.length∧A=some ⟨g,0,none⟩∧base≤g∧Blk w g tA cur∧fs.length * 3≤cur.size∧cur[k*3]? = some (.int .i64 fs[k].kind)∧cur[k*3+1]? = some (.int .i64 fs[k].a)∧cur[k*3+2]? = some (.int .i64 fs[k].b)∧
  (∀ (i:Nat) (u:Value) (gs:List Atm),encA gs=(encA fs).set i u→gs.length=fs.length→AtomsO (w.setCell ⟨g,i,none⟩ u) base (.slice A n c) gs):=by
 obtain ⟨⟨hl,h2⟩,hL⟩:=h
 rcases h2 with ⟨e,hn⟩|⟨g,cap,cur,e,hb,hh,hn,hm,hs,ht⟩
 ·omega
 ·injection e with e1 e2 e3
  subst e1 e2 e3
  have hK:Blk w g tA cur:=hh
  have hP:Pre cur (encA fs) (fs.length * 3):=by
   intro j hj
   rw[←ht,List.getElem?_take,if_pos hj];simp
  obtain ⟨t0,t1,t2⟩:=flat3 (fun f:Atm=>.int .i64 f.kind) (fun f=>.int .i64 f.a) (fun f=>.int .i64 f.b) fs k hk
  refine ⟨g,cur,rfl,rfl,hb,hK,by rw[hs];exact Nat.mul_le_mul hn (Nat.le_refl _),(hP _ (by omega)).trans t0,(hP _ (by omega)).trans t1,(hP _ (by omega)).trans t2,?_⟩
  intro i u gs he hg
  refine ⟨?_,by rw[hg];exact hL⟩
  rw[he,hg]
  exact own_of_blk (hK.set_ i u) hb (by rw[List.length_set,hl]) (hP.setL i u (by rw[hs];exact Nat.mul_le_mul hn (Nat.le_refl _)) (by rw[hl];exact Nat.le_refl _)) hn hm (by simpa using hs)
theorem FactsV.one {w:World} {g:Nat} {f:Fct} (h:Blk w g tF #[.bool f.eq,.int .i64 f.a,.int .i64 f.b]):FactsV w g (g+1) (some ⟨g,0,none⟩) [f]:=
 ⟨⟨by simp,fun _=>⟨g,0,rfl,Nat.le_refl _,Nat.lt_succ_self _,fun j u hu=>by rw[Nat.zero_add,h.cell];simpa using hu⟩⟩,by simp[Lim]⟩
theorem AtomsV.one {w:World} {g:Nat} {f:Atm} (h:Blk w g tA #[.int .i64 f.kind,.int .i64 f.a,.int .i64 f.b]):AtomsV w g (g+1) (some ⟨g,0,none⟩) [f]:=
 ⟨⟨by simp,fun _=>⟨g,0,rfl,Nat.le_refl _,Nat.lt_succ_self _,fun j u hu=>by rw[Nat.zero_add,h.cell];simpa using hu⟩⟩,by simp[Lim]⟩
theorem FactsV.cl {w:World} {lo hi b o k:Nat} {fs:List Fct} (h:FactsV w lo hi (some ⟨b,o,none⟩) fs) (hk:k<fs.length):w.cell? ⟨b,o+k*3,none⟩=some (.bool fs[k].eq)∧w.cell? ⟨b,o+k*3+1,none⟩=some (.int .i64 fs[k].a)∧w.cell? ⟨b,o+k*3+2,none⟩=some (.int .i64 fs[k].b):=by
 obtain ⟨b',o',e,hc⟩:=h.at hk
 simp only[Option.some.injEq,Addr.mk.injEq,and_true] at e
 obtain ⟨rfl,rfl⟩:=e
 exact hc
theorem AtomsV.cl {w:World} {lo hi b o k:Nat} {fs:List Atm} (h:AtomsV w lo hi (some ⟨b,o,none⟩) fs) (hk:k<fs.length):w.cell? ⟨b,o+k*3,none⟩=some (.int .i64 fs[k].kind)∧w.cell? ⟨b,o+k*3+1,none⟩=some (.int .i64 fs[k].a)∧w.cell? ⟨b,o+k*3+2,none⟩=some (.int .i64 fs[k].b):=by
 obtain ⟨b',o',e,hc⟩:=h.at hk
 simp only[Option.some.injEq,Addr.mk.injEq,and_true] at e
 obtain ⟨rfl,rfl⟩:=e
 exact hc
theorem FactsV.blt {w:World} {lo hi k:Nat} {A:Option Addr} {fs:List Fct} (h:FactsV w lo hi A fs) (hk:k<fs.length):∃ b o,A=some ⟨b,o,none⟩∧b<w.heap.size:=by
 obtain ⟨b,o,e,hc,-⟩:=h.at hk
 exact ⟨b,o,e,block_lt_of_cell hc⟩
theorem AtomsV.blt {w:World} {lo hi k:Nat} {A:Option Addr} {fs:List Atm} (h:AtomsV w lo hi A fs) (hk:k<fs.length):∃ b o,A=some ⟨b,o,none⟩∧b<w.heap.size:=by
 obtain ⟨b,o,e,hc,-⟩:=h.at hk
 exact ⟨b,o,e,block_lt_of_cell hc⟩
theorem IntsV.blt {w:World} {lo hi k:Nat} {A:Option Addr} {fs:List Int} (h:IntsV w lo hi A fs) (hk:k<fs.length):∃ b o,A=some ⟨b,o,none⟩∧b<w.heap.size:=by
 obtain ⟨b,o,e,hc⟩:=h.at hk
 exact ⟨b,o,e,block_lt_of_cell hc⟩
theorem BoolsV.blt {w:World} {lo hi k:Nat} {A:Option Addr} {fs:List Bool} (h:BoolsV w lo hi A fs) (hk:k<fs.length):∃ b o,A=some ⟨b,o,none⟩∧b<w.heap.size:=by
 obtain ⟨b,o,e,hc⟩:=h.at hk
 exact ⟨b,o,e,block_lt_of_cell hc⟩
theorem own_ofBlk {w:World} {g base size:Nat} {t:TypeId} (h:Blk w g t #[]) (hb:base≤g):w.ownsRow base t size (.slice (some ⟨g,0,none⟩) 0 0) 0 []:=⟨by simp,.inr ⟨g,0,#[],rfl,hb,h,Nat.le_refl _,by decide,by simp,by simp⟩⟩
theorem FactsO.ofBlk {w:World} {g base:Nat} (h:Blk w g tF #[]) (hb:base≤g):FactsO w base (.slice (some ⟨g,0,none⟩) 0 0) []:=⟨own_ofBlk h hb,by simp[Lim]⟩
theorem AtomsO.ofBlk {w:World} {g base:Nat} (h:Blk w g tA #[]) (hb:base≤g):AtomsO w base (.slice (some ⟨g,0,none⟩) 0 0) []:=⟨own_ofBlk h hb,by simp[Lim]⟩
theorem IntsO.ofBlk {w:World} {g base:Nat} (h:Blk w g tI #[]) (hb:base≤g):IntsO w base (.slice (some ⟨g,0,none⟩) 0 0) []:=⟨own_ofBlk h hb,by simp[Lim]⟩
theorem Blk.grownO {w w':World} {g base size n:Nat} {t e:TypeId} {cs:Array Value} {v:Value} {xs:List Value} (h:Blk w g t cs) (ho:w.ownsRow base e size v n xs) (hg:w.grownBy w' v.ownBlock) (ht:t≠e):Blk w' g t cs:=by
 refine h.grown hg ?_
 intro he
 rcases ho.2 with ⟨rfl,_⟩|⟨k,cap,cur,rfl,_,hh,_⟩
 ·simp[Value.ownBlock] at he
 ·simp only[Value.ownBlock,Option.some.injEq] at he
  exact Blk.ne_ h hh ht he
theorem own_grownO {w w':World} {base base' size size' n n':Nat} {e e':TypeId} {v v':Value} {xs xs':List Value} (h:w.ownsRow base' e' size' v' n' xs') (ho:w.ownsRow base e size v n xs) (hg:w.grownBy w' v.ownBlock) (ht:e'≠e):w'.ownsRow base' e' size' v' n' xs':=by
 obtain ⟨h1,h2⟩:=h
 refine ⟨h1,?_⟩
 rcases h2 with h2|⟨k,cap,cur,hv,hk,hh,r⟩
 ·exact Or.inl h2
 ·exact Or.inr ⟨k,cap,cur,hv,hk,Blk.grownO hh ho hg ht,r⟩
theorem FactsO.grownA {w w':World} {b b':Nat} {v v':Value} {xs:List Fct} {ys:List Atm} (h:FactsO w b v xs) (ho:AtomsO w b' v' ys) (hg:w.grownBy w' v'.ownBlock):FactsO w' b v xs:=⟨own_grownO h.1 ho.1 hg (by decide),h.2⟩
theorem AtomsO.grownF {w w':World} {b b':Nat} {v v':Value} {xs:List Atm} {ys:List Fct} (h:AtomsO w b v xs) (ho:FactsO w b' v' ys) (hg:w.grownBy w' v'.ownBlock):AtomsO w' b v xs:=⟨own_grownO h.1 ho.1 hg (by decide),h.2⟩
theorem Rd.keepB {w w':World} {lo hi size n B:Nat} {A:Option Addr} {xs:List Value} (h:Rd w lo hi size A n xs) (hb:Below B w w') (hh:hi≤B):Rd w' lo hi size A n xs:=h.keep fun b _ h2=>hb.block b (by omega)
theorem FactsV.keepB {w w':World} {lo hi B:Nat} {A:Option Addr} {xs:List Fct} (h:FactsV w lo hi A xs) (hb:Below B w w') (hh:hi≤B):FactsV w' lo hi A xs:=Rd.keepB h hb hh
theorem AtomsV.keepB {w w':World} {lo hi B:Nat} {A:Option Addr} {xs:List Atm} (h:AtomsV w lo hi A xs) (hb:Below B w w') (hh:hi≤B):AtomsV w' lo hi A xs:=Rd.keepB h hb hh
theorem IntsV.keepB {w w':World} {lo hi B:Nat} {A:Option Addr} {xs:List Int} (h:IntsV w lo hi A xs) (hb:Below B w w') (hh:hi≤B):IntsV w' lo hi A xs:=Rd.keepB h hb hh
theorem BoolsV.keepB {w w':World} {lo hi B:Nat} {A:Option Addr} {xs:List Bool} (h:BoolsV w lo hi A xs) (hb:Below B w w') (hh:hi≤B):BoolsV w' lo hi A xs:=Rd.keepB h hb hh
end Go.Proofs.Ytjjokmlmknllhaa

/- The spec's joined assertions. -/
namespace Go.Proofs.Ytjjokmlmknllhaa
open Go Go.RowKit Go.Proofs
attribute [local go_sem ↓] Go.wp_at_zero Go.wp_at_succ
set_option maxRecDepth 100000 in
set_option maxHeartbeats 1600000 in
theorem c_spec_l3Star {lo hi lo' hi':Nat} (v v':Value) (a b:Asn) (w:World) (h:AsnV w lo hi v a) (h':AsnV w lo' hi' v' b) (hn1:a.facts.length+b.facts.length≤1049600) (hn2:a.atoms.length+b.atoms.length≤1049600) :
  Calls Try.prog 43 #[v,v'] w fun e w'=>∃ r,e=.returned r∧AsnO w' w.heap.size r (starA a b)∧Below w.heap.size w w':=by
 obtain ⟨A1,c1,A2,c2,rfl,h1,h2⟩:=h
 obtain ⟨A3,c3,A4,c4,rfl,h3,h4⟩:=h'
 go_enter Try.func43,Try.ntmps43
 have kk:=blk3 w 26 26 26 #[.slice A1 a.facts.length c1,.slice A2 a.atoms.length c2] #[.slice A3 b.facts.length c3,.slice A4 b.atoms.length c4] #[.slice none 0 0,.slice none 0 0]
 have hB:Below w.heap.size w (((w.alloc (.cells #[.slice A1 a.facts.length c1,.slice A2 a.atoms.length c2] 26)).alloc (.cells #[.slice A3 b.facts.length c3,.slice A4 b.atoms.length c4] 26)).alloc (.cells #[.slice none 0 0,.slice none 0 0] 26)):=bel
 obtain ⟨k0,k1,k2⟩:=kk
 go_wp2_with fail
 have hz:=k2.lt
 generalize (((w.alloc (.cells #[.slice A1 a.facts.length c1,.slice A2 a.atoms.length c2] 26)).alloc (.cells #[.slice A3 b.facts.length c3,.slice A4 b.atoms.length c4] 26)).alloc (.cells #[.slice none 0 0,.slice none 0 0] 26))=W at k0 k1 k2 hB hz ⊢
 have tok3:True:=trivial
 have tok6:True:=trivial
 have tok10:True:=trivial
 have tok13:True:=trivial
 go_region_held3 (fun w'=>(∀ i,w'.cell? ⟨w.heap.size,i,none⟩=#[.slice A1 a.facts.length c1,.slice A2 a.atoms.length c2][i]?)∧(∀ i,w'.cell? ⟨w.heap.size+1,i,none⟩=#[.slice A3 b.facts.length c3,.slice A4 b.atoms.length c4][i]?))
  (exact ⟨Blk.cell blks,Blk.cell blks⟩)
  (first
   | (have _t:=tok3;clear _t tok3;refine stepFL (xs:=[]) rfl _ _ rfl rfl (FactsO.ofBlk (base:=w.heap.size) blks (by first|omega|(simp;omega))) rfl (h1.below bel) (by first|omega|(simp;omega)) (by first|omega|(simp;omega)) ?_;intro F1 e1 w1 hO1 hg1 hB1;have hBw1:Below w.heap.size w w1:=Below.trans bel hB1;simp only[List.nil_append] at hO1;have m10:=Blk.grownO (g:=w.heap.size) (hg:=hg1) blks (FactsO.ofBlk (base:=w.heap.size) blks (by first|omega|(simp;omega))).1 (by decide);have m11:=Blk.grownO (g:=w.heap.size+1) (hg:=hg1) blks (FactsO.ofBlk (base:=w.heap.size) blks (by first|omega|(simp;omega))).1 (by decide);have m12:=Blk.grownO (g:=w.heap.size+1+1) (hg:=hg1) blks (FactsO.ofBlk (base:=w.heap.size) blks (by first|omega|(simp;omega))).1 (by decide);have lt1:=m12.lt;(try (have za:Blk w1 (W.heap.size+1) tA #[]:=?zz;case zz=>(refine Blk.grownO (hg:=hg1) ?_ (FactsO.ofBlk (base:=w.heap.size) blks (by first|omega|(simp;omega))).1 (by decide);(repeat (first|(with_reducible assumption)|(with_reducible exact Blk.new _ _ _)|((with_reducible apply Blk.far);(case hp=>(first|exact Nat.le_refl _|(simp;done)|(simp;omega)|(simp only;omega)|omega)))|(with_reducible apply Blk.set_)|((with_reducible refine Blk.newE ?_);(simp;done))|(with_reducible apply Blk.alloc)|(with_reducible apply Blk.drew)|(with_reducible apply Blk.drewN)));done)));(try (have za:Blk w1 W.heap.size tA #[]:=?zz;case zz=>(refine Blk.grownO (hg:=hg1) ?_ (FactsO.ofBlk (base:=w.heap.size) blks (by first|omega|(simp;omega))).1 (by decide);(repeat (first|(with_reducible assumption)|(with_reducible exact Blk.new _ _ _)|((with_reducible apply Blk.far);(case hp=>(first|exact Nat.le_refl _|(simp;done)|(simp;omega)|(simp only;omega)|omega)))|(with_reducible apply Blk.set_)|((with_reducible refine Blk.newE ?_);(simp;done))|(with_reducible apply Blk.alloc)|(with_reducible apply Blk.drew)|(with_reducible apply Blk.drewN)));done))))
   | (have _t:=tok6;clear _t tok6;refine stepFL (xs:=a.facts) rfl _ _ rfl rfl (FactsO.below (w:=w1) hO1 bel) rfl (h3.below bel) (by first|omega|(simp;omega)) (by first|omega|(simp;omega)) ?_;intro F2 e2 w2 hO2 hg2 hB2;have hBw2:Below w.heap.size w w2:=Below.trans bel hB2;have m20:=Blk.grownO (g:=w.heap.size) (hg:=hg2) blks (FactsO.below (w:=w1) hO1 bel).1 (by decide);have m21:=Blk.grownO (g:=w.heap.size+1) (hg:=hg2) blks (FactsO.below (w:=w1) hO1 bel).1 (by decide);have m22:=Blk.grownO (g:=w.heap.size+1+1) (hg:=hg2) blks (FactsO.below (w:=w1) hO1 bel).1 (by decide);have lt2:=m22.lt;(try (have zb:Blk w2 w1.heap.size tA #[]:=?zz;case zz=>(refine Blk.grownO (hg:=hg2) ?_ (FactsO.below (w:=w1) hO1 bel).1 (by decide);(repeat (first|(with_reducible assumption)|(with_reducible exact Blk.new _ _ _)|((with_reducible apply Blk.far);(case hp=>(first|exact Nat.le_refl _|(simp;done)|(simp;omega)|(simp only;omega)|omega)))|(with_reducible apply Blk.set_)|((with_reducible refine Blk.newE ?_);(simp;done))|(with_reducible apply Blk.alloc)|(with_reducible apply Blk.drew)|(with_reducible apply Blk.drewN)));done)));(try (have zb:=Blk.grownO (hg:=hg2) (Blk.next za bel) (FactsO.below (w:=w1) hO1 bel).1 (by decide))))
   | (have _t:=tok10;clear _t tok10;refine stepAL (xs:=[]) rfl _ _ rfl rfl (AtomsO.ofBlk (base:=w.heap.size) blks (by first|omega|(simp;omega))) rfl (h2.below bel) (by first|omega|(simp;omega)) (by first|omega|(simp;omega)) ?_;intro F3 e3 w3 hO3 hg3 hB3;have hBw3:Below w.heap.size w w3:=Below.trans bel hB3;simp only[List.nil_append] at hO3;have m30:=Blk.grownO (g:=w.heap.size) (hg:=hg3) blks (AtomsO.ofBlk (base:=w.heap.size) blks (by first|omega|(simp;omega))).1 (by decide);have m31:=Blk.grownO (g:=w.heap.size+1) (hg:=hg3) blks (AtomsO.ofBlk (base:=w.heap.size) blks (by first|omega|(simp;omega))).1 (by decide);have m32:=Blk.grownO (g:=w.heap.size+1+1) (hg:=hg3) blks (AtomsO.ofBlk (base:=w.heap.size) blks (by first|omega|(simp;omega))).1 (by decide);have lt3:=m32.lt;have hP3:=FactsO.grownA (FactsO.below (w:=w2) hO2 bel) (AtomsO.ofBlk (base:=w.heap.size) blks (by first|omega|(simp;omega))) hg3)
   | (have _t:=tok13;clear _t tok13;refine stepAL (xs:=a.atoms) rfl _ _ rfl rfl (AtomsO.below (w:=w3) hO3 bel) rfl (h4.below bel) (by first|omega|(simp;omega)) (by first|omega|(simp;omega)) ?_;intro F4 e4 w4 hO4 hg4 hB4;have hBw4:Below w.heap.size w w4:=Below.trans bel hB4;have m40:=Blk.grownO (g:=w.heap.size) (hg:=hg4) blks (AtomsO.below (w:=w3) hO3 bel).1 (by decide);have m41:=Blk.grownO (g:=w.heap.size+1) (hg:=hg4) blks (AtomsO.below (w:=w3) hO3 bel).1 (by decide);have m42:=Blk.grownO (g:=w.heap.size+1+1) (hg:=hg4) blks (AtomsO.below (w:=w3) hO3 bel).1 (by decide);have lt4:=m42.lt;have hP4:=FactsO.grownA (FactsO.below (w:=w3) hP3 bel) (AtomsO.below (w:=w3) hO3 bel) hg4;have c42:=m42.cell;have f42:=m42.frozen))
 all_goals
  go_wp2_with fail
  refine bodyPost_ret (v:=.agg #[.slice F2 (a.facts++b.facts).length e2,.slice F4 (a.atoms++b.atoms).length e4]) (by simp[results,Try.results43,go_sem,c42]) rfl ⟨_,rfl,⟨_,_,rfl,?_,?_⟩,bel⟩
  ·exact (hP4.setT m42 (by decide) _ _).setT (m42.set_ _ _) (by decide) _ _
  ·exact (hO4.setT m42 (by decide) _ _).setT (m42.set_ _ _) (by decide) _ _
end Go.Proofs.Ytjjokmlmknllhaa

/- Words for the exact laws: data that lie in blocks of an interval of their own. -/
namespace Go.Proofs.Ytjjokmlmknllhaa
open Go Go.RowKit Go.Proofs
def FactsI (w:World) (lo hi:Nat) (v:Value) (fs:List Fct):Prop:=FactsO w lo v fs∧Und v hi
def AtomsI (w:World) (lo hi:Nat) (v:Value) (fs:List Atm):Prop:=AtomsO w lo v fs∧Und v hi
def IntsI (w:World) (lo hi:Nat) (v:Value) (fs:List Int):Prop:=IntsO w lo v fs∧Und v hi
def AsnI (w:World) (lo hi:Nat) (v:Value) (a:Asn):Prop:=∃ fv av,v=.agg #[fv,av]∧FactsI w lo hi fv a.facts∧AtomsI w lo hi av a.atoms
section
variable {w w':World} {lo hi lo' hi' a b:Nat} {v:Value}
theorem und_range {w:World} {base:Nat} {e:TypeId} {size:Nat} {v:Value} {n:Nat} {xs:List Value} {hi:Nat} (h:w.ownsRow base e size v n xs) (hu:Und v hi):∀ g,v.ownBlock=some g→base≤g∧g<hi:=fun g hg=>⟨(h.lt g hg).1,hu g hg⟩
theorem FactsI.below {fs:List Fct} (h:FactsI w lo hi v fs) (hb:Below w.heap.size w w'):FactsI w' lo hi v fs:=⟨h.1.below hb,h.2⟩
theorem AtomsI.below {fs:List Atm} (h:AtomsI w lo hi v fs) (hb:Below w.heap.size w w'):AtomsI w' lo hi v fs:=⟨h.1.below hb,h.2⟩
theorem IntsI.below {fs:List Int} (h:IntsI w lo hi v fs) (hb:Below w.heap.size w w'):IntsI w' lo hi v fs:=⟨h.1.below hb,h.2⟩
theorem AsnI.below {x:Asn} (h:AsnI w lo hi v x) (hb:Below w.heap.size w w'):AsnI w' lo hi v x:=by
 obtain ⟨fv,av,e,h1,h2⟩:=h;exact ⟨fv,av,e,h1.below hb,h2.below hb⟩
theorem FactsI.mk {fs:List Fct} (h:FactsI w lo hi v fs) (hb:Mk (fun g=>a≤g∧g<b) w w') (hd:hi≤a∨b≤lo):FactsI w' lo hi v fs:=
 ⟨h.1.mk hb fun g hg hp=>by have:=und_range h.1.1 h.2 g hg;omega,h.2⟩
theorem AtomsI.mk {fs:List Atm} (h:AtomsI w lo hi v fs) (hb:Mk (fun g=>a≤g∧g<b) w w') (hd:hi≤a∨b≤lo):AtomsI w' lo hi v fs:=
 ⟨h.1.mk hb fun g hg hp=>by have:=und_range h.1.1 h.2 g hg;omega,h.2⟩
theorem IntsI.mk {fs:List Int} (h:IntsI w lo hi v fs) (hb:Mk (fun g=>a≤g∧g<b) w w') (hd:hi≤a∨b≤lo):IntsI w' lo hi v fs:=
 ⟨h.1.mk hb fun g hg hp=>by have:=und_range h.1.1 h.2 g hg;omega,h.2⟩
theorem AsnI.mk {x:Asn} (h:AsnI w lo hi v x) (hb:Mk (fun g=>a≤g∧g<b) w w') (hd:hi≤a∨b≤lo):AsnI w' lo hi v x:=by
 obtain ⟨fv,av,e,h1,h2⟩:=h;exact ⟨fv,av,e,h1.mk hb hd,h2.mk hb hd⟩
theorem FactsI.form {fs:List Fct} (h:FactsI w lo hi v fs):∃ A c,v=.slice A fs.length c:=by obtain ⟨A,c,e,-⟩:=h.1.reads;exact ⟨A,c,e⟩
theorem AtomsI.form {fs:List Atm} (h:AtomsI w lo hi v fs):∃ A c,v=.slice A fs.length c:=by obtain ⟨A,c,e,-⟩:=h.1.reads;exact ⟨A,c,e⟩
theorem IntsI.form {fs:List Int} (h:IntsI w lo hi v fs):∃ A c,v=.slice A fs.length c:=by obtain ⟨A,c,e,-⟩:=h.1.reads;exact ⟨A,c,e⟩
theorem AsnI.form {x:Asn} (h:AsnI w lo hi v x):∃ A c B d,v=.agg #[.slice A x.facts.length c,.slice B x.atoms.length d]:=by
 obtain ⟨fv,av,rfl,h1,h2⟩:=h
 obtain ⟨A,c,rfl⟩:=h1.form
 obtain ⟨B,d,rfl⟩:=h2.form
 exact ⟨A,c,B,d,rfl⟩
theorem IntsI.reads {A:Option Addr} {n c:Nat} {fs:List Int} (h:IntsI w lo hi (.slice A n c) fs):IntsV w lo w.heap.size A fs:=h.1.readsI.2
theorem AsnI.reads {x:Asn} (h:AsnI w lo hi v x):AsnV w lo w.heap.size v x:=by
 obtain ⟨fv,av,e,h1,h2⟩:=h;exact AsnO.reads ⟨fv,av,e,h1.1,h2.1⟩
theorem FactsO.I {fs:List Fct} (h:FactsO w lo v fs):FactsI w lo w.heap.size v fs:=⟨h,h.und⟩
theorem AtomsO.I {fs:List Atm} (h:AtomsO w lo v fs):AtomsI w lo w.heap.size v fs:=⟨h,h.und⟩
theorem IntsO.I {fs:List Int} (h:IntsO w lo v fs):IntsI w lo w.heap.size v fs:=⟨h,h.und⟩
theorem AsnO.I {x:Asn} (h:AsnO w lo v x):AsnI w lo w.heap.size v x:=by
 obtain ⟨fv,av,e,h1,h2⟩:=h;exact ⟨fv,av,e,h1.I,h2.I⟩
theorem AsnI.len {x:Asn} (h:AsnI w lo hi v x):x.facts.length≤1049600∧x.atoms.length≤1049600:=by
 obtain ⟨fv,av,e,h1,h2⟩:=h;exact ⟨h1.1.2,h2.1.2⟩
theorem IntsI.len {x:List Int} (h:IntsI w lo hi v x):x.length≤1049600:=h.1.2
theorem Mk.keepB {B:Nat} {w0:World} (h:Below B w0 w) (hm:Mk (fun g=>a≤g∧g<b) w w') (hB:B≤a) (hs:B≤w.heap.size):Below B w0 w':=
 h.trans (hm.below (fun k hk=>by omega) hs)
end
def FactT (_:World) (v:Value) (f:Fct):Prop:=v=f.val
end Go.Proofs.Ytjjokmlmknllhaa

/- Words for regions that allocate a variable beside calls. -/
namespace Go.Proofs.Ytjjokmlmknllhaa
open Go Go.RowKit Go.Proofs
theorem AsnI.setT {w:World} {lo hi:Nat} {v:Value} {x:Asn} (h:AsnI w lo hi v x) {g:Nat} {t:TypeId} {cs:Array Value} (hk:Blk w g t cs) (h1:t≠tF) (h2:t≠tA) (i:Nat) (u:Value):AsnI (w.setCell ⟨g,i,none⟩ u) lo hi v x:=by
 obtain ⟨fv,av,e,p1,p2⟩:=h
 exact ⟨fv,av,e,⟨p1.1.setT hk h1 i u,p1.2⟩,⟨p2.1.setT hk h2 i u,p2.2⟩⟩
theorem IntsI.setT {w:World} {lo hi:Nat} {v:Value} {x:List Int} (h:IntsI w lo hi v x) {g:Nat} {t:TypeId} {cs:Array Value} (hk:Blk w g t cs) (h1:t≠tI) (i:Nat) (u:Value):IntsI (w.setCell ⟨g,i,none⟩ u) lo hi v x:=⟨h.1.setT hk h1 i u,h.2⟩
end Go.Proofs.Ytjjokmlmknllhaa

/- Lists of lists of numbers: words, appends, comparison, marks. -/
namespace Go.Proofs.Ytjjokmlmknllhaa
open Go Go.RowKit Go.Proofs
abbrev tIS:Nat:=32
theorem infoIS:(Try.prog.info? tIS).map (fun i=>(i.zero,i.size,i.bytes))=some (some (.slice none 0 0),1,24):=by kernel_rfl
def tot (xss:List (List Int)):Nat:=(xss.map List.length).sum
structure SSO (w:World) (base:Nat) (v:Value) (vs:List Value) (xss:List (List Int)):Prop where
 row:w.ownsRow base tIS 1 v vs.length vs
 lim:Lim vs.length
 len:vs.length=xss.length
 at_:∀ (k:Nat) (h:k<vs.length) (h':k<xss.length),IntsO w base vs[k] xss[k]
 apart:∀ (i j:Nat) (hi:i<vs.length) (hj:j<vs.length),i<j→∀ g,vs[i].ownBlock=some g→vs[j].ownBlock≠some g
def IntSSO (w:World) (base:Nat) (v:Value) (xss:List (List Int)):Prop:=∃ vs,SSO w base v vs xss
section
variable {w w':World} {base base':Nat} {v:Value} {vs:List Value} {xss:List (List Int)}
theorem SSO.below (h:SSO w base v vs xss) (hb:Below w.heap.size w w'):SSO w' base v vs xss:=⟨own_below h.row hb,h.lim,h.len,fun k h1 h2=>(h.at_ k h1 h2).below hb,h.apart⟩
theorem IntSSO.below (h:IntSSO w base v xss) (hb:Below w.heap.size w w'):IntSSO w' base v xss:=by obtain ⟨vs,h⟩:=h;exact ⟨vs,h.below hb⟩
theorem SSO.lower (h:SSO w base v vs xss) (hb:base'≤base):SSO w base' v vs xss:=⟨own_lower h.row hb,h.lim,h.len,fun k h1 h2=>(h.at_ k h1 h2).lower hb,h.apart⟩
theorem IntSSO.lower (h:IntSSO w base v xss) (hb:base'≤base):IntSSO w base' v xss:=by obtain ⟨vs,h⟩:=h;exact ⟨vs,h.lower hb⟩
theorem SSO.nil (w:World) (base:Nat):SSO w base (.slice none 0 0) [] []:=⟨World.ownsRow_nil _ _ _ _,by simp[Lim],rfl,fun k h=>absurd h (by simp),fun i j h=>absurd h (by simp)⟩
theorem SSO.empty (w:World) {g:Nat} (hg:g=w.heap.size):SSO (w.alloc (.cells #[] tIS)) g (.slice (some ⟨g,0,none⟩) 0 0) [] []:=by
 subst hg
 exact ⟨own_empty w _ _,by simp[Lim],rfl,fun k h=>absurd h (by simp),fun i j h=>absurd h (by simp)⟩
theorem SSO.form (h:SSO w base v vs xss):∃ A c,v=.slice A xss.length c:=by
 obtain ⟨A,c,e,-⟩:=own_reads h.row h.lim
 exact ⟨A,c,by rw[e,h.len]⟩
theorem IntSSO.form (h:IntSSO w base v xss):∃ A c,v=.slice A xss.length c:=by obtain ⟨vs,h⟩:=h;exact h.form
theorem own_turn {w w':World} {T:TypeId} {B base size n:Nat} {e:TypeId} {v:Value} {xs:List Value} {row:Option Nat} (h:w.ownsRow base e size v n xs) (hg:w.grownBy w' row) (hr:Turn T B w row) (ht:e≠T):w'.ownsRow base e size v n xs:=by
 obtain ⟨h1,h2⟩:=h
 refine ⟨h1,?_⟩
 rcases h2 with h2|⟨k,cap,cur,hv,hg',hh,r⟩
 ·exact Or.inl h2
 ·exact Or.inr ⟨k,cap,cur,hv,hg',Blk.turn (g:=k) hh hg hr (Or.inl ht),r⟩
theorem SSO.turn {T:TypeId} {B:Nat} {row:Option Nat} (h:SSO w base v vs xss) (hg:w.grownBy w' row) (hr:Turn T B w row) (h1:tIS≠T) (h2:tI≠T):SSO w' base v vs xss:=
 ⟨own_turn h.row hg hr h1,h.lim,h.len,fun k a b=>⟨own_turn (h.at_ k a b).1 hg hr h2,(h.at_ k a b).2⟩,h.apart⟩
theorem SSO.setT (h:SSO w base v vs xss) {g:Nat} {t:TypeId} {cs:Array Value} (hk:Blk w g t cs) (h1:t≠tIS) (h2:t≠tI) (i:Nat) (u:Value):SSO (w.setCell ⟨g,i,none⟩ u) base v vs xss:=
 ⟨own_setT h.row hk h1 i u,h.lim,h.len,fun k a b=>(h.at_ k a b).setT hk h2 i u,h.apart⟩
def IntSSV (w:World) (lo hi:Nat) (A:Option Addr) (xss:List (List Int)):Prop:=
 ∃ vs:List Value,Rd w lo hi 1 A xss.length vs∧∀ (k:Nat) (h:k<vs.length) (h':k<xss.length),∃ B c,vs[k]=.slice B xss[k].length c∧IntsV w lo hi B xss[k]
theorem IntSSV.below {lo hi:Nat} {A:Option Addr} (h:IntSSV w lo hi A xss) (hb:Below w.heap.size w w'):IntSSV w' lo hi A xss:=by
 obtain ⟨vs,h1,h2⟩:=h
 exact ⟨vs,h1.below hb,fun k a b=>by obtain ⟨B,c,e,h3⟩:=h2 k a b;exact ⟨B,c,e,h3.below hb⟩⟩
theorem IntSSV.at {lo hi:Nat} {A:Option Addr} (h:IntSSV w lo hi A xss) {k:Nat} (hk:k<xss.length):∃ b o B c,A=some ⟨b,o,none⟩∧b<w.heap.size∧w.cell? ⟨b,o+k,none⟩=some (.slice B xss[k].length c)∧IntsV w lo hi B xss[k]:=by
 obtain ⟨vs,h1,h2⟩:=h
 have hl:vs.length=xss.length:=by have:=h1.raw.1;omega
 obtain ⟨b,o,u,e,-,-,hu,hc⟩:=h1.raw.at1 hk
 obtain ⟨B,c,e2,h3⟩:=h2 k (by omega) hk
 rw[List.getElem?_eq_getElem (by omega)] at hu
 refine ⟨b,o,B,c,e,block_lt_of_cell hc,?_,h3⟩
 rw[hc,←Option.some.inj hu,e2]
theorem SSO.reads {A:Option Addr} {n c:Nat} (h:SSO w base (.slice A n c) vs xss):n=xss.length∧IntSSV w base w.heap.size A xss:=by
 obtain ⟨A',c',e,h1⟩:=own_reads h.row h.lim
 injection e with e1 e2 e3
 subst e1
 refine ⟨by rw[e2,h.len],vs,by rw[←h.len];exact h1,fun k a b=>?_⟩
 obtain ⟨B,d,e,h3⟩:=(h.at_ k a b).reads
 exact ⟨B,d,e,h3⟩
end
def IntSSI (w:World) (lo hi:Nat) (v:Value) (xss:List (List Int)):Prop:=∃ vs,SSO w lo v vs xss∧Und v hi∧(∀ (k:Nat) (h:k<vs.length),Und vs[k] hi)∧tot xss≤16777216
section
variable {w w':World} {lo hi a b:Nat} {v:Value} {xss:List (List Int)}
theorem IntSSO.I' {base:Nat} (h:IntSSO w base v xss) (hb:tot xss≤16777216):IntSSI w base w.heap.size v xss:=by
 obtain ⟨vs,h⟩:=h
 exact ⟨vs,h,fun g hg=>(h.row.lt g hg).2,fun k hk g hg=>((h.at_ k hk (by rw[←h.len];exact hk)).1.lt g hg).2,hb⟩
def IntSSR (w:World) (base:Nat) (v:Value) (xss:List (List Int)):Prop:=IntSSO w base v xss∧tot xss≤16777216
theorem IntSSR.I {base:Nat} (h:IntSSR w base v xss):IntSSI w base w.heap.size v xss:=h.1.I' h.2
theorem IntSSI.below (h:IntSSI w lo hi v xss) (hb:Below w.heap.size w w'):IntSSI w' lo hi v xss:=by
 obtain ⟨vs,h1,h2⟩:=h;exact ⟨vs,h1.below hb,h2⟩
theorem IntSSI.mk (h:IntSSI w lo hi v xss) (hb:Mk (fun g=>a≤g∧g<b) w w') (hd:hi≤a∨b≤lo):IntSSI w' lo hi v xss:=by
 obtain ⟨vs,h1,h2,h3,h4⟩:=h
 refine ⟨vs,⟨own_mk h1.row hb fun g hg hp=>by have:=und_range h1.row h2 g hg;omega,h1.lim,h1.len,fun k x y=>?_,h1.apart⟩,h2,h3,h4⟩
 exact (h1.at_ k x y).mk hb fun g hg hp=>by have:=und_range (h1.at_ k x y).1 (h3 k x) g hg;omega
theorem IntSSI.form (h:IntSSI w lo hi v xss):∃ A c,v=.slice A xss.length c:=by obtain ⟨vs,h1,-⟩:=h;exact h1.form
theorem IntSSI.reads {A:Option Addr} {n c:Nat} (h:IntSSI w lo hi (.slice A n c) xss):IntSSV w lo w.heap.size A xss:=by obtain ⟨vs,h1,-⟩:=h;exact h1.reads.2
theorem IntSSI.len (h:IntSSI w lo hi v xss):xss.length≤1049600∧tot xss≤16777216:=by obtain ⟨vs,h1,-,-,h4⟩:=h;exact ⟨by rw[←h1.len];exact h1.lim,h4⟩
end
def markSS:Int→List (List Int)→List (List Int)
 | _,[]=>[]
 | k,xs :: xss=>iota k xs.length :: markSS (k+xs.length) xss
def markTo (k:Int) (xss:List (List Int)) (n:Nat):List (List Int):=markSS k (xss.take n)++xss.drop n
theorem SSO.at {w:World} {base n c k:Nat} {A:Option Addr} {vs:List Value} {xss:List (List Int)} (h:SSO w base (.slice A n c) vs xss) (hk:k<xss.length) (hk':k<vs.length):∃ b o B d,A=some ⟨b,o,none⟩∧b<w.heap.size∧w.cell? ⟨b,o+k,none⟩=some (.slice B xss[k].length d)∧vs[k]=.slice B xss[k].length d:=by
 obtain ⟨A',c',e,h1⟩:=own_reads h.row h.lim
 injection e with e1 e2 e3
 subst e1
 obtain ⟨b,o,u,e,-,-,hu,hc⟩:=h1.raw.at1 hk'
 obtain ⟨B,d,e2,-⟩:=(h.at_ k hk' hk).reads
 rw[List.getElem?_eq_getElem hk'] at hu
 exact ⟨b,o,B,d,e,block_lt_of_cell hc,by rw[hc,←Option.some.inj hu,e2],e2⟩
theorem own_ne {w:World} {b b' s s' n n':Nat} {e e':TypeId} {v v':Value} {xs xs':List Value} (h:w.ownsRow b e s v n xs) (h':w.ownsRow b' e' s' v' n' xs') (ht:e≠e'):∀ g,v.ownBlock=some g→v'.ownBlock≠some g:=by
 intro g hg hg'
 rcases h.2 with ⟨rfl,-⟩|⟨k,cap,cur,rfl,-,hh,-⟩
 ·cases hg
 ·rcases h'.2 with ⟨rfl,-⟩|⟨k',cap',cur',rfl,-,hh',-⟩
  ·cases hg'
  ·have e1:k=g:=by simpa [Value.ownBlock] using hg
   have e2:k'=g:=by simpa [Value.ownBlock] using hg'
   subst e1;subst e2
   exact (Blk.ne_ (g:=k') hh hh' ht) rfl
end Go.Proofs.Ytjjokmlmknllhaa
