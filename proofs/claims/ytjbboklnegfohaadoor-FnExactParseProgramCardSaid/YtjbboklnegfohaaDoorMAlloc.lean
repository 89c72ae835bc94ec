/- Arguments that are states; marks. -/
import Derived.Test.YtjbboklnegfohaaDoorArg
import Derived.Test.YtjbboklnegfohaaDoorMBld
import Derived.Test.YtjbboklnegfohaaDoorMPrsI
import Derived.Deep.RegionHeld3
import Derived.Deep.DrawnRows
set_option linter.unusedSimpArgs false
set_option linter.unusedVariables false
namespace Go.Proofs.YtjbboklnegfohaaDoor
open Go Go.RowKit Go.Proofs
def Und (v:Value) (hi:Nat):Prop:=∀ g,v.ownBlock=some g→g<hi
theorem FactsO.und {w:World} {base:Nat} {v:Value} {xs:List Fct} (h:FactsO w base v xs):Und v w.heap.size:=fun g hg=>(h.1.lt g hg).2
theorem AtomsO.und {w:World} {base:Nat} {v:Value} {xs:List Atm} (h:AtomsO w base v xs):Und v w.heap.size:=fun g hg=>(h.1.lt g hg).2
theorem Und.mono {v:Value} {a b:Nat} (h:Und v a) (hab:a≤b):Und v b:=fun g hg=>Nat.lt_of_lt_of_le (h g hg) hab
structure Mk (p:Nat→Prop) (w w':World):Prop where
 os:w'.os=w.os
 tape:w'.tape=w.tape
 output:w'.output=w.output
 size:w.heap.size≤w'.heap.size
 block:∀ k,k<w.heap.size→¬p k→w'.heap[k]? = w.heap[k]?
section
variable {p q:Nat→Prop} {w a b:World}
theorem Mk.refl (p:Nat→Prop) (w:World):Mk p w w:=⟨rfl,rfl,rfl,Nat.le_refl _,fun _ _ _=>rfl⟩
theorem Mk.trans (h:Mk p w a) (h2:Mk p a b):Mk p w b:=⟨h2.os.trans h.os,h2.tape.trans h.tape,h2.output.trans h.output,Nat.le_trans h.size h2.size,fun k hk hp=>(h2.block k (Nat.lt_of_lt_of_le hk h.size) hp).trans (h.block k hk hp)⟩
theorem Mk.mono (h:Mk p w a) (hpq:∀ k,p k→q k):Mk q w a:=⟨h.os,h.tape,h.output,h.size,fun k hk hq=>h.block k hk fun hp=>hq (hpq k hp)⟩
theorem Mk.set (h:Mk p w a) {x:Addr} (hx:p x.block) (u:Value):Mk p w (a.setCell x u):=h.trans ⟨rfl,rfl,rfl,by simp,fun k _ hk=>Below.heap_setCell a x u k (fun e=>hk (e▸hx))⟩
theorem Mk.below {lo:Nat} (h:Mk p w a) (hp:∀ k,p k→lo≤k) (hl:lo≤w.heap.size):Below lo w a:=⟨h.os,h.tape,h.output,h.size,fun k hk=>h.block k (by omega) fun hp'=>by have:=hp k hp';omega⟩
theorem Mk.blk {g:Nat} {t:TypeId} {cs:Array Value} (h:Mk p w a) (hk:Blk w g t cs) (hg:¬p g):Blk a g t cs:=(h.block g hk.lt hg).trans hk
end
theorem own_mk {p:Nat→Prop} {w w':World} {base:Nat} {e:TypeId} {size:Nat} {v:Value} {n:Nat} {xs:List Value} (h:w.ownsRow base e size v n xs) (hb:Mk p w w') (hp:∀ g,v.ownBlock=some g→¬p g):w'.ownsRow base e size v n xs:=by
 obtain ⟨h1,h2⟩:=h
 refine ⟨h1,?_⟩
 rcases h2 with h2|⟨g,cap,cur,hv,hg,hh,r⟩
 ·exact Or.inl h2
 ·exact Or.inr ⟨g,cap,cur,hv,hg,(hb.block g (Blk.lt hh) (hp g (by rw[hv];rfl))).trans hh,r⟩
def markF (k:Int) (n:Nat):List Fct:=(List.range n).map fun i:Nat=>⟨k % 3 == 0,k+3 * i+1,k+3 * i+1+1⟩
theorem markF_length (k:Int) (n:Nat):(markF k n).length=n:=by simp[markF]
theorem markF_get (k:Int) (n i:Nat) (h:i<n):(markF k n)[i]'(by rw[markF_length];exact h)=⟨k % 3 == 0,k+3 * i+1,k+3 * i+1+1⟩:=by simp[markF]
set_option maxHeartbeats 1600000 in
theorem c_markFactS (v:Value) (xs:List Fct) (k:Int) (base:Nat) (w:World) (h:FactsO w base v xs) (h0:0≤k) (h1:k≤1099511627776):Calls Tryd.prog 52 #[v,.int .i64 k] w fun e w'=>e=.returned (.int .i64 (k+3 * xs.length))∧FactsO w' base v (markF k xs.length)∧Mk (fun g=>v.ownBlock=some g) w w':=by
 obtain ⟨⟨hl,h2⟩,hL⟩:=h
 have hL':xs.length≤1049600:=hL
 rcases h2 with ⟨rfl,hn⟩|⟨g,cap,cur,rfl,hb,hh,hn,hm,hs,ht⟩
 ·go_enter Tryd.func52,Tryd.ntmps52
  go_wp2
  go_loop [1,5] (fun m i=>m=.int .i64 k∧i=.int .i64 0) (fun _ i=>0)
  case atStart=>exact ⟨rfl,rfl⟩
  case round=>
   obtain ⟨rfl,rfl⟩:=hrel
   go_wp2
   go_ret
   have e:xs=[]:=List.length_eq_zero_iff.1 hn
   subst e
   exact ⟨by simp,⟨World.ownsRow_nil _ _ _ _,by simp[Lim,markF]⟩,Mk.refl _ _⟩
 ·have hK:Blk w g tF cur:=hh
  have HS:=Lib.hid hs
  clear hs ht hh hl
  go_enter Tryd.func52,Tryd.ntmps52
  go_wp2
  go_loopw [1,5] (fun m i wr=>∃ (j:Nat) (cs:Array Value),j≤xs.length∧i=.int .i64 j∧m=.int .i64 (k+3 * j)∧Hid (cs.size=cap * 3)∧Hid (Pre cs (encF (markF k xs.length)) (j * 3))∧Blk wr g tF cs∧Mk (fun g'=>Value.ownBlock (.slice (some ⟨g,0,none⟩) xs.length cap)=some g') w wr) (fun _ i _=>xs.length - (intOf i).toNat)
  case atStart=>exact ⟨0,cur,Nat.zero_le _,rfl,by simp,HS.out,Pre.zero _ _,hK,Mk.refl _ _⟩
  case round=>
   obtain ⟨j,cs,hj,rfl,rfl,HS2,HP,hK2,hM⟩:=hrel
   by_cases hlt:j<xs.length
   ·have hs:=HS2.out
    obtain ⟨u0,hu0⟩:∃ u,cs[j * 3]? = some u:=⟨_,Array.getElem?_eq_getElem (by omega)⟩
    obtain ⟨u1,hu1⟩:∃ u,cs[j * 3+1]? = some u:=⟨_,Array.getElem?_eq_getElem (by omega)⟩
    obtain ⟨u2,hu2⟩:∃ u,cs[j * 3+2]? = some u:=⟨_,Array.getElem?_eq_getElem (by omega)⟩
    have q0:wr.cell? ⟨g,j * 3,none⟩=some u0:=by rw[hK2.cell,hu0]
    have q1:wr.cell? ⟨g,j * 3+1,none⟩=some u1:=by rw[hK2.cell,hu1]
    have q2:wr.cell? ⟨g,j * 3+2,none⟩=some u2:=by rw[hK2.cell,hu2]
    have r:=hK2.frozen
    clear hs hu0 hu1 hu2
    go_wp2_with fail
    have hs:=HS2.out
    go_round
    case rel=>
     obtain ⟨t0,t1,t2⟩:=flat3 (fun f:Fct=>.bool f.eq) (fun f=>.int .i64 f.a) (fun f=>.int .i64 f.b) (markF k xs.length) j (by rw[markF_length];exact hlt)
     rw[markF_get _ _ _ hlt] at t0 t1 t2
     refine ⟨j+1,_,by omega,by go_num,by push_cast;congr 1;omega,?_,HP.out.set3 (by omega) t0 t1 t2,((hK2.set_ _ _).set_ _ _).set_ _ _,((hM.set (x:=⟨g,j * 3,none⟩) rfl _).set (x:=⟨g,j * 3+1,none⟩) rfl _).set (x:=⟨g,j * 3+2,none⟩) rfl _⟩
     show _=_;simp[hs]
    case measure=>simp[intOf];omega
   ·go_wp2
    go_ret
    obtain rfl:j=xs.length:=by omega
    have hs:=HS2.out
    exact ⟨rfl,⟨by rw[markF_length];exact own_of_blk hK2 hb (by rw[len3,markF_length]) (by simpa using HP.out) hn hm (by simpa using hs),by rw[markF_length];exact hL⟩,hM⟩
def markA (k:Int) (n:Nat):List Atm:=(List.range n).map fun i:Nat=>⟨k+3 * i,k+3 * i+1,k+3 * i+1+1⟩
theorem markA_length (k:Int) (n:Nat):(markA k n).length=n:=by simp[markA]
theorem markA_get (k:Int) (n i:Nat) (h:i<n):(markA k n)[i]'(by rw[markA_length];exact h)=⟨k+3 * i,k+3 * i+1,k+3 * i+1+1⟩:=by simp[markA]
set_option maxHeartbeats 1600000 in
theorem c_markAtomS (v:Value) (xs:List Atm) (k:Int) (base:Nat) (w:World) (h:AtomsO w base v xs) (h0:0≤k) (h1:k≤1099511627776):Calls Tryd.prog 53 #[v,.int .i64 k] w fun e w'=>e=.returned (.int .i64 (k+3 * xs.length))∧AtomsO w' base v (markA k xs.length)∧Mk (fun g=>v.ownBlock=some g) w w':=by
 obtain ⟨⟨hl,h2⟩,hL⟩:=h
 have hL':xs.length≤1049600:=hL
 rcases h2 with ⟨rfl,hn⟩|⟨g,cap,cur,rfl,hb,hh,hn,hm,hs,ht⟩
 ·go_enter Tryd.func53,Tryd.ntmps53
  go_wp2
  go_loop [1,5] (fun m i=>m=.int .i64 k∧i=.int .i64 0) (fun _ i=>0)
  case atStart=>exact ⟨rfl,rfl⟩
  case round=>
   obtain ⟨rfl,rfl⟩:=hrel
   go_wp2
   go_ret
   have e:xs=[]:=List.length_eq_zero_iff.1 hn
   subst e
   exact ⟨by simp,⟨World.ownsRow_nil _ _ _ _,by simp[Lim,markA]⟩,Mk.refl _ _⟩
 ·have hK:Blk w g tA cur:=hh
  have HS:=Lib.hid hs
  clear hs ht hh hl
  go_enter Tryd.func53,Tryd.ntmps53
  go_wp2
  go_loopw [1,5] (fun m i wr=>∃ (j:Nat) (cs:Array Value),j≤xs.length∧i=.int .i64 j∧m=.int .i64 (k+3 * j)∧Hid (cs.size=cap * 3)∧Hid (Pre cs (encA (markA k xs.length)) (j * 3))∧Blk wr g tA cs∧Mk (fun g'=>Value.ownBlock (.slice (some ⟨g,0,none⟩) xs.length cap)=some g') w wr) (fun _ i _=>xs.length - (intOf i).toNat)
  case atStart=>exact ⟨0,cur,Nat.zero_le _,rfl,by simp,HS.out,Pre.zero _ _,hK,Mk.refl _ _⟩
  case round=>
   obtain ⟨j,cs,hj,rfl,rfl,HS2,HP,hK2,hM⟩:=hrel
   by_cases hlt:j<xs.length
   ·have hs:=HS2.out
    obtain ⟨u0,hu0⟩:∃ u,cs[j * 3]? = some u:=⟨_,Array.getElem?_eq_getElem (by omega)⟩
    obtain ⟨u1,hu1⟩:∃ u,cs[j * 3+1]? = some u:=⟨_,Array.getElem?_eq_getElem (by omega)⟩
    obtain ⟨u2,hu2⟩:∃ u,cs[j * 3+2]? = some u:=⟨_,Array.getElem?_eq_getElem (by omega)⟩
    have q0:wr.cell? ⟨g,j * 3,none⟩=some u0:=by rw[hK2.cell,hu0]
    have q1:wr.cell? ⟨g,j * 3+1,none⟩=some u1:=by rw[hK2.cell,hu1]
    have q2:wr.cell? ⟨g,j * 3+2,none⟩=some u2:=by rw[hK2.cell,hu2]
    have r:=hK2.frozen
    clear hs hu0 hu1 hu2
    go_wp2_with fail
    have hs:=HS2.out
    go_round
    case rel=>
     obtain ⟨t0,t1,t2⟩:=flat3 (fun f:Atm=>.int .i64 f.kind) (fun f=>.int .i64 f.a) (fun f=>.int .i64 f.b) (markA k xs.length) j (by rw[markA_length];exact hlt)
     rw[markA_get _ _ _ hlt] at t0 t1 t2
     refine ⟨j+1,_,by omega,by go_num,by push_cast;congr 1;omega,?_,HP.out.set3 (by omega) t0 t1 t2,((hK2.set_ _ _).set_ _ _).set_ _ _,((hM.set (x:=⟨g,j * 3,none⟩) rfl _).set (x:=⟨g,j * 3+1,none⟩) rfl _).set (x:=⟨g,j * 3+2,none⟩) rfl _⟩
     show _=_;simp[hs]
    case measure=>simp[intOf];omega
   ·go_wp2
    go_ret
    obtain rfl:j=xs.length:=by omega
    have hs:=HS2.out
    exact ⟨rfl,⟨by rw[markA_length];exact own_of_blk hK2 hb (by rw[len3,markA_length]) (by simpa using HP.out) hn hm (by simpa using hs),by rw[markA_length];exact hL⟩,hM⟩
theorem FactsO.mk {p:Nat→Prop} {w w':World} {base:Nat} {v:Value} {xs:List Fct} (h:FactsO w base v xs) (hb:Mk p w w') (hp:∀ g,v.ownBlock=some g→¬p g):FactsO w' base v xs:=⟨own_mk h.1 hb hp,h.2⟩
theorem AtomsO.mk {p:Nat→Prop} {w w':World} {base:Nat} {v:Value} {xs:List Atm} (h:AtomsO w base v xs) (hb:Mk p w w') (hp:∀ g,v.ownBlock=some g→¬p g):AtomsO w' base v xs:=⟨own_mk h.1 hb hp,h.2⟩
theorem Ste.eq_iff (f g:Ste):f=g↔f.values=g.values∧f.heap=g.heap:=by cases f;cases g;simp
theorem FactsO.ne_atoms {w:World} {b b':Nat} {v v':Value} {xs:List Fct} {ys:List Atm} (h:FactsO w b v xs) (h':AtomsO w b' v' ys) (g:Nat) (hg:v.ownBlock=some g):v'.ownBlock≠some g:=by
 intro hg'
 obtain ⟨_,h2⟩:=h.1
 obtain ⟨_,h2'⟩:=h'.1
 rcases h2 with ⟨rfl,_⟩|⟨k,cap,cur,rfl,_,hh,_⟩
 ·simp[Value.ownBlock] at hg
 rcases h2' with ⟨rfl,_⟩|⟨k',cap',cur',rfl,_,hh',_⟩
 ·simp[Value.ownBlock] at hg'
 simp only[Value.ownBlock,Option.some.injEq] at hg hg'
 subst hg
 subst hg'
 exact Blk.ne_ (w:=w) hh hh' (by decide) rfl
def markAs (k:Int) (s:Asn):Asn:=⟨markF k s.facts.length,markA (k+3 * s.facts.length) s.atoms.length⟩
end Go.Proofs.YtjbboklnegfohaaDoor

/- Rows that a call changes in place; marks that are held; replaced terms (impl). -/
namespace Go.Proofs.YtjbboklnegfohaaDoor
open Go Go.RowKit Go.Proofs
attribute [local go_sem ↓] Go.wp_at_zero Go.wp_at_succ
theorem Pre.setL {cs:Array Value} {L:List Value} {m:Nat} (h:Pre cs L m) (i:Nat) (u:Value) (hs:m≤cs.size) (hl:m≤L.length):Pre (cs.setIfInBounds i u) (L.set i u) m:=by
 intro j hj
 by_cases e:i=j
 ·subst e
  rw[Array.getElem?_setIfInBounds_self,if_pos (by omega),List.getElem?_set_self (by omega)]
 ·rw[Array.getElem?_setIfInBounds_ne e,List.getElem?_set_ne e];exact h j hj
theorem FactsV.one {w:World} {g:Nat} {f:Fct} (h:Blk w g tF #[.bool f.eq,.int .i64 f.a,.int .i64 f.b]):FactsV w g (g+1) (some ⟨g,0,none⟩) [f]:=
 ⟨⟨by simp,fun _=>⟨g,0,rfl,Nat.le_refl _,Nat.lt_succ_self _,fun j u hu=>by rw[Nat.zero_add,h.cell];simpa using hu⟩⟩,by simp[Lim]⟩
theorem AtomsV.one {w:World} {g:Nat} {f:Atm} (h:Blk w g tA #[.int .i64 f.kind,.int .i64 f.a,.int .i64 f.b]):AtomsV w g (g+1) (some ⟨g,0,none⟩) [f]:=
 ⟨⟨by simp,fun _=>⟨g,0,rfl,Nat.le_refl _,Nat.lt_succ_self _,fun j u hu=>by rw[Nat.zero_add,h.cell];simpa using hu⟩⟩,by simp[Lim]⟩
theorem FactsV.cl {w:World} {lo hi b o k:Nat} {fs:List Fct} (h:FactsV w lo hi (some ⟨b,o,none⟩) fs) (hk:k<fs.length):w.cell? ⟨b,o+k*3,none⟩=some (.bool fs[k].eq)∧w.cell? ⟨b,o+k*3+1,none⟩=some (.int .i64 fs[k].a)∧w.cell? ⟨b,o+k*3+2,none⟩=some (.int .i64 fs[k].b):=by
 obtain ⟨b',o',e,hc⟩:=h.at hk
 simp only[Option.some.injEq,Addr.mk.injEq,and_true] at e
 obtain ⟨rfl,rfl⟩:=e
 exact hc
theorem AtomsV.cl {w:World} {lo hi b o k:Nat} {fs:List Atm} (h:AtomsV w lo hi (some ⟨b,o,none⟩) fs) (hk:k<fs.length):w.cell? ⟨b,o+k*3,none⟩=some (.int .i64 fs[k].kind)∧w.cell? ⟨b,o+k*3+1,none⟩=some (.int .i64 fs[k].a)∧w.cell? ⟨b,o+k*3+2,none⟩=some (.int .i64 fs[k].b):=by
 obtain ⟨b',o',e,hc⟩:=h.at hk
 simp only[Option.some.injEq,Addr.mk.injEq,and_true] at e
 obtain ⟨rfl,rfl⟩:=e
 exact hc
theorem FactsV.blt {w:World} {lo hi k:Nat} {A:Option Addr} {fs:List Fct} (h:FactsV w lo hi A fs) (hk:k<fs.length):∃ b o,A=some ⟨b,o,none⟩∧b<w.heap.size:=by
 obtain ⟨b,o,e,hc,-⟩:=h.at hk
 exact ⟨b,o,e,block_lt_of_cell hc⟩
theorem AtomsV.blt {w:World} {lo hi k:Nat} {A:Option Addr} {fs:List Atm} (h:AtomsV w lo hi A fs) (hk:k<fs.length):∃ b o,A=some ⟨b,o,none⟩∧b<w.heap.size:=by
 obtain ⟨b,o,e,hc,-⟩:=h.at hk
 exact ⟨b,o,e,block_lt_of_cell hc⟩
theorem Blk.grownO {w w':World} {g base size n:Nat} {t e:TypeId} {cs:Array Value} {v:Value} {xs:List Value} (h:Blk w g t cs) (ho:w.ownsRow base e size v n xs) (hg:w.grownBy w' v.ownBlock) (ht:t≠e):Blk w' g t cs:=by
 refine h.grown hg ?_
 intro he
 rcases ho.2 with ⟨rfl,_⟩|⟨k,cap,cur,rfl,_,hh,_⟩
 ·simp[Value.ownBlock] at he
 ·simp only[Value.ownBlock,Option.some.injEq] at he
  exact Blk.ne_ h hh ht he
theorem own_grownO {w w':World} {base base' size size' n n':Nat} {e e':TypeId} {v v':Value} {xs xs':List Value} (h:w.ownsRow base' e' size' v' n' xs') (ho:w.ownsRow base e size v n xs) (hg:w.grownBy w' v.ownBlock) (ht:e'≠e):w'.ownsRow base' e' size' v' n' xs':=by
 obtain ⟨h1,h2⟩:=h
 refine ⟨h1,?_⟩
 rcases h2 with h2|⟨k,cap,cur,hv,hk,hh,r⟩
 ·exact Or.inl h2
 ·exact Or.inr ⟨k,cap,cur,hv,hk,Blk.grownO hh ho hg ht,r⟩
theorem FactsO.grownA {w w':World} {b b':Nat} {v v':Value} {xs:List Fct} {ys:List Atm} (h:FactsO w b v xs) (ho:AtomsO w b' v' ys) (hg:w.grownBy w' v'.ownBlock):FactsO w' b v xs:=⟨own_grownO h.1 ho.1 hg (by decide),h.2⟩
theorem AtomsO.grownF {w w':World} {b b':Nat} {v v':Value} {xs:List Atm} {ys:List Fct} (h:AtomsO w b v xs) (ho:FactsO w b' v' ys) (hg:w.grownBy w' v'.ownBlock):AtomsO w' b v xs:=⟨own_grownO h.1 ho.1 hg (by decide),h.2⟩
theorem Rd.keepB {w w':World} {lo hi size n B:Nat} {A:Option Addr} {xs:List Value} (h:Rd w lo hi size A n xs) (hb:Below B w w') (hh:hi≤B):Rd w' lo hi size A n xs:=h.keep fun b _ h2=>hb.block b (by omega)
theorem FactsV.keepB {w w':World} {lo hi B:Nat} {A:Option Addr} {xs:List Fct} (h:FactsV w lo hi A xs) (hb:Below B w w') (hh:hi≤B):FactsV w' lo hi A xs:=Rd.keepB h hb hh
theorem AtomsV.keepB {w w':World} {lo hi B:Nat} {A:Option Addr} {xs:List Atm} (h:AtomsV w lo hi A xs) (hb:Below B w w') (hh:hi≤B):AtomsV w' lo hi A xs:=Rd.keepB h hb hh
set_option maxHeartbeats 800000 in
theorem c_heldFactS {lo hi:Nat} (A:Option Addr) (n c:Nat) (k:Int) (w:World) (h:FactsV w lo hi A (markF k n)) (h0:0≤k) (h1:k≤1099511627776):Calls Tryd.prog 54 #[.slice A n c,.int .i64 k] w fun e w'=>e=.returned (.int .i64 (k+3 * n))∧w=w':=by
 have hL:=h.le
 rw[markF_length] at hL
 go_enter Tryd.func54,Tryd.ntmps54
 go_wp2
 go_loop [1,5] (fun m i=>∃ (j:Nat),j≤n∧i=.int .i64 j∧m=.int .i64 (k+3 * j)) (fun _ i=>n - (intOf i).toNat)
 case atStart=>exact ⟨0,Nat.zero_le _,rfl,by simp⟩
 case round=>
  obtain ⟨j,hj,rfl,rfl⟩:=hrel
  by_cases hlt:j<n
  ·obtain ⟨b,off,rfl,c0,c1,c2⟩:=h.at (k:=j) (by rw[markF_length];exact hlt)
   rw[markF_get _ _ _ hlt] at c0 c1 c2
   dsimp only at c0 c1 c2
   go_wp2_with fail
   go_round
   case rel=>exact ⟨j+1,by omega,by go_num,by push_cast;congr 1;omega⟩
   case measure=>simp[intOf];omega
  ·obtain rfl:j=n:=by omega
   go_wp2
   go_ret
   exact ⟨rfl,rfl⟩
set_option maxHeartbeats 800000 in
theorem c_heldAtomS {lo hi:Nat} (A:Option Addr) (n c:Nat) (k:Int) (w:World) (h:AtomsV w lo hi A (markA k n)) (h0:0≤k) (h1:k≤1099511627776):Calls Tryd.prog 55 #[.slice A n c,.int .i64 k] w fun e w'=>e=.returned (.int .i64 (k+3 * n))∧w=w':=by
 have hL:=h.le
 rw[markA_length] at hL
 go_enter Tryd.func55,Tryd.ntmps55
 go_wp2
 go_loop [1,5] (fun m i=>∃ (j:Nat),j≤n∧i=.int .i64 j∧m=.int .i64 (k+3 * j)) (fun _ i=>n - (intOf i).toNat)
 case atStart=>exact ⟨0,Nat.zero_le _,rfl,by simp⟩
 case round=>
  obtain ⟨j,hj,rfl,rfl⟩:=hrel
  by_cases hlt:j<n
  ·obtain ⟨b,off,rfl,c0,c1,c2⟩:=h.at (k:=j) (by rw[markA_length];exact hlt)
   rw[markA_get _ _ _ hlt] at c0 c1 c2
   dsimp only at c0 c1 c2
   go_wp2_with fail
   go_round
   case rel=>exact ⟨j+1,by omega,by go_num,by push_cast;congr 1;omega⟩
   case measure=>simp[intOf];omega
  ·obtain rfl:j=n:=by omega
   go_wp2
   go_ret
   exact ⟨rfl,rfl⟩
end Go.Proofs.YtjbboklnegfohaaDoor

/- Words for the exact laws: data that lie in blocks of an interval of their own. -/
namespace Go.Proofs.YtjbboklnegfohaaDoor
open Go Go.RowKit Go.Proofs
def FactsI (w:World) (lo hi:Nat) (v:Value) (fs:List Fct):Prop:=FactsO w lo v fs∧Und v hi
def AtomsI (w:World) (lo hi:Nat) (v:Value) (fs:List Atm):Prop:=AtomsO w lo v fs∧Und v hi
def AsnI (w:World) (lo hi:Nat) (v:Value) (a:Asn):Prop:=∃ fv av,v=.agg #[fv,av]∧FactsI w lo hi fv a.facts∧AtomsI w lo hi av a.atoms
section
variable {w w':World} {lo hi lo' hi' a b:Nat} {v:Value}
theorem und_range {w:World} {base:Nat} {e:TypeId} {size:Nat} {v:Value} {n:Nat} {xs:List Value} {hi:Nat} (h:w.ownsRow base e size v n xs) (hu:Und v hi):∀ g,v.ownBlock=some g→base≤g∧g<hi:=fun g hg=>⟨(h.lt g hg).1,hu g hg⟩
theorem FactsI.below {fs:List Fct} (h:FactsI w lo hi v fs) (hb:Below w.heap.size w w'):FactsI w' lo hi v fs:=⟨h.1.below hb,h.2⟩
theorem AtomsI.below {fs:List Atm} (h:AtomsI w lo hi v fs) (hb:Below w.heap.size w w'):AtomsI w' lo hi v fs:=⟨h.1.below hb,h.2⟩
theorem AsnI.below {x:Asn} (h:AsnI w lo hi v x) (hb:Below w.heap.size w w'):AsnI w' lo hi v x:=by
 obtain ⟨fv,av,e,h1,h2⟩:=h;exact ⟨fv,av,e,h1.below hb,h2.below hb⟩
theorem FactsI.mk {fs:List Fct} (h:FactsI w lo hi v fs) (hb:Mk (fun g=>a≤g∧g<b) w w') (hd:hi≤a∨b≤lo):FactsI w' lo hi v fs:=
 ⟨h.1.mk hb fun g hg hp=>by have:=und_range h.1.1 h.2 g hg;omega,h.2⟩
theorem AtomsI.mk {fs:List Atm} (h:AtomsI w lo hi v fs) (hb:Mk (fun g=>a≤g∧g<b) w w') (hd:hi≤a∨b≤lo):AtomsI w' lo hi v fs:=
 ⟨h.1.mk hb fun g hg hp=>by have:=und_range h.1.1 h.2 g hg;omega,h.2⟩
theorem AsnI.mk {x:Asn} (h:AsnI w lo hi v x) (hb:Mk (fun g=>a≤g∧g<b) w w') (hd:hi≤a∨b≤lo):AsnI w' lo hi v x:=by
 obtain ⟨fv,av,e,h1,h2⟩:=h;exact ⟨fv,av,e,h1.mk hb hd,h2.mk hb hd⟩
theorem FactsI.form {fs:List Fct} (h:FactsI w lo hi v fs):∃ A c,v=.slice A fs.length c:=by obtain ⟨A,c,e,-⟩:=h.1.reads;exact ⟨A,c,e⟩
theorem AtomsI.form {fs:List Atm} (h:AtomsI w lo hi v fs):∃ A c,v=.slice A fs.length c:=by obtain ⟨A,c,e,-⟩:=h.1.reads;exact ⟨A,c,e⟩
theorem AsnI.form {x:Asn} (h:AsnI w lo hi v x):∃ A c B d,v=.agg #[.slice A x.facts.length c,.slice B x.atoms.length d]:=by
 obtain ⟨fv,av,rfl,h1,h2⟩:=h
 obtain ⟨A,c,rfl⟩:=h1.form
 obtain ⟨B,d,rfl⟩:=h2.form
 exact ⟨A,c,B,d,rfl⟩
theorem AsnI.reads {x:Asn} (h:AsnI w lo hi v x):AsnV w lo w.heap.size v x:=by
 obtain ⟨fv,av,e,h1,h2⟩:=h;exact AsnO.reads ⟨fv,av,e,h1.1,h2.1⟩
theorem FactsO.I {fs:List Fct} (h:FactsO w lo v fs):FactsI w lo w.heap.size v fs:=⟨h,h.und⟩
theorem AtomsO.I {fs:List Atm} (h:AtomsO w lo v fs):AtomsI w lo w.heap.size v fs:=⟨h,h.und⟩
theorem AsnO.I {x:Asn} (h:AsnO w lo v x):AsnI w lo w.heap.size v x:=by
 obtain ⟨fv,av,e,h1,h2⟩:=h;exact ⟨fv,av,e,h1.I,h2.I⟩
theorem AsnI.len {x:Asn} (h:AsnI w lo hi v x):x.facts.length≤1049600∧x.atoms.length≤1049600:=by
 obtain ⟨fv,av,e,h1,h2⟩:=h;exact ⟨h1.1.2,h2.1.2⟩
theorem Mk.keepB {B:Nat} {w0:World} (h:Below B w0 w) (hm:Mk (fun g=>a≤g∧g<b) w w') (hB:B≤a) (hs:B≤w.heap.size):Below B w0 w':=
 h.trans (hm.below (fun k hk=>by omega) hs)
end
end Go.Proofs.YtjbboklnegfohaaDoor

/- Programs: the laws' own helpers: the size. -/
namespace Go.Proofs.YtjbboklnegfohaaDoor
open Go Go.RowKit Go.Proofs
def Cms.sz:Cms→Nat
 | .nil=>0
 | .cons _ _ _ _ _ body els r=>body.sz+els.sz+r.sz+1
theorem Cms.sz_drop:∀ (n:Nat) (L:Cms),(L.drop n).sz≤L.sz
 | 0,L=>Nat.le_refl _
 | n+1,.nil=>Nat.le_refl _
 | n+1,.cons _ _ _ _ _ _ _ r=>by simp only[Cms.drop,Cms.sz];have:=Cms.sz_drop n r;omega
theorem Cms.cost_drop:∀ (n:Nat) (L:Cms),(L.drop n).cost≤L.cost
 | 0,L=>Nat.le_refl _
 | n+1,.nil=>Nat.le_refl _
 | n+1,.cons _ _ _ _ _ _ _ r=>by simp only[Cms.drop,Cms.cost];have:=Cms.cost_drop n r;omega
end Go.Proofs.YtjbboklnegfohaaDoor

/- Programs of our own: rows of commands in blocks of an interval, no two parts of which share a block. -/
namespace Go.Proofs.YtjbboklnegfohaaDoor
open Go Go.RowKit Go.Proofs
abbrev tC:Nat:=91
theorem infoC:(Tryd.prog.info? tC).map (fun i=>(i.zero,i.size,i.bytes))=some (some (.agg #[.int .i64 0,.int .i64 0,.int .i64 0,.bool false,.int .i64 0,.int .i64 0,.slice none 0 0,.slice none 0 0,.slice none 0 0,.slice none 0 0]),10,144):=by kernel_rfl
section
variable {w w':World} {lo hi lo' hi':Nat}
variable {v:Value} {L:Cms}
end
end Go.Proofs.YtjbboklnegfohaaDoor

/- Programs: the laws' copies. -/
namespace Go.Proofs.YtjbboklnegfohaaDoor
open Go Go.RowKit Go.Proofs
end Go.Proofs.YtjbboklnegfohaaDoor

/- Programs: the laws' copies of whole lists. -/
namespace Go.Proofs.YtjbboklnegfohaaDoor
open Go Go.RowKit Go.Proofs
def Cms.take:Nat→Cms→Cms
 | 0,_=>.nil
 | _+1,.nil=>.nil
 | n+1,.cons k a b t i body els r=>.cons k a b t i body els (r.take n)
section
variable {w w':World}
end
end Go.Proofs.YtjbboklnegfohaaDoor

/- Programs: comparison. -/
namespace Go.Proofs.YtjbboklnegfohaaDoor
open Go Go.RowKit Go.Proofs
def eq1 (k a b:Int) (t:Fct) (i:Asn) (body els:Cms) (k' a' b':Int) (t':Fct) (i':Asn) (body' els':Cms):Bool:=decide (k=k'∧a=a'∧b=b'∧t=t'∧i=i'∧body=body'∧els=els')
set_option maxHeartbeats 1600000 in
theorem c_eqCmd {lo hi lo' hi':Nat} (k a b:Int) (t:Fct) (i:Asn) (A1 A2 A3 A4:Option Addr) (c1 c2 c3 c4:Nat) (body els:Cms)
  (k' a' b':Int) (t':Fct) (i':Asn) (B1 B2 B3 B4:Option Addr) (d1 d2 d3 d4:Nat) (body' els':Cms) (w:World)
  (ha:AsnV w lo hi (.agg #[.slice A1 i.facts.length c1,.slice A2 i.atoms.length c2]) i) (hb:CmsV w lo hi A3 body) (he:CmsV w lo hi A4 els)
  (ha':AsnV w lo' hi' (.agg #[.slice B1 i'.facts.length d1,.slice B2 i'.atoms.length d2]) i') (hb':CmsV w lo' hi' B3 body') (he':CmsV w lo' hi' B4 els')
  (IB:∀ (w:World),CmsV w lo hi A3 body→CmsV w lo' hi' B3 body'→Calls Tryd.prog 17 #[.slice A3 body.len c3,.slice B3 body'.len d3] w fun e w'=>e=.returned (.bool (decide (body=body')))∧Below w.heap.size w w')
  (IE:∀ (w:World),CmsV w lo hi A4 els→CmsV w lo' hi' B4 els'→Calls Tryd.prog 17 #[.slice A4 els.len c4,.slice B4 els'.len d4] w fun e w'=>e=.returned (.bool (decide (els=els')))∧Below w.heap.size w w') :
  Calls Tryd.prog 51 #[.agg #[.int .i64 k,.int .i64 a,.int .i64 b,.bool t.eq,.int .i64 t.a,.int .i64 t.b,.slice A1 i.facts.length c1,.slice A2 i.atoms.length c2,.slice A3 body.len c3,.slice A4 els.len c4],
    .agg #[.int .i64 k',.int .i64 a',.int .i64 b',.bool t'.eq,.int .i64 t'.a,.int .i64 t'.b,.slice B1 i'.facts.length d1,.slice B2 i'.atoms.length d2,.slice B3 body'.len d3,.slice B4 els'.len d4]] w fun e w'=>
   e=.returned (.bool (eq1 k a b t i body els k' a' b' t' i' body' els'))∧Below w.heap.size w w':=by
 obtain ⟨R,hR⟩:∃ R,R=eq1 k a b t i body els k' a' b' t' i' body' els':=⟨_,rfl⟩
 rw[←hR]
 have hE:=Lib.hid (hR.trans (show eq1 k a b t i body els k' a' b' t' i' body' els'=(decide (k=k')&&(decide (a=a')&&(decide (b=b')&&(decide (t=t')&&(decide (i=i')&&(decide (body=body')&&decide (els=els'))))))) from by simp only[eq1,Bool.decide_and]))
 clear hR
 replace IB:=Lib.hid IB
 replace IE:=Lib.hid IE
 replace ha:=Lib.hid ha
 replace hb:=Lib.hid hb
 replace he:=Lib.hid he
 replace ha':=Lib.hid ha'
 replace hb':=Lib.hid hb'
 replace he':=Lib.hid he'
 by_cases q0:k=k'
 case neg=>
  have hq:=Lib.hid q0
  go_enter Tryd.func51,Tryd.ntmps51
  go_wp2_with fail
  go_ret
  exact ⟨ret_bool (by rw[hE.out,decide_eq_false hq.out];rfl),bel⟩
 by_cases q1:a=a'
 case neg=>
  have hq:=Lib.hid q1
  have hp:=Lib.hid (decide_eq_true q0)
  go_enter Tryd.func51,Tryd.ntmps51
  go_wp2_with fail
  go_ret
  exact ⟨ret_bool (by rw[hE.out,decide_eq_false hq.out,hp.out];rfl),bel⟩
 by_cases q2:b=b'
 case neg=>
  have hq:=Lib.hid q2
  have hp:=Lib.hid (decide_eq_true q0)
  have hp1:=Lib.hid (decide_eq_true q1)
  go_enter Tryd.func51,Tryd.ntmps51
  go_wp2_with fail
  go_ret
  exact ⟨ret_bool (by rw[hE.out,decide_eq_false hq.out,hp.out,hp1.out];rfl),bel⟩
 have hE2:=Lib.hid (show R=(decide (t=t')&&(decide (i=i')&&(decide (body=body')&&decide (els=els')))) from by rw[hE.out,decide_eq_true q0,decide_eq_true q1,decide_eq_true q2];rfl)
 clear hE
 go_enter Tryd.func51,Tryd.ntmps51
 go_wp2_with fail
 refine (c_eqFact t t' _).mono ?_
 rintro e w1 ⟨rfl,hB1⟩
 have hB:=bgo (w:=w) bel hB1
 have K0:=(Blk.next (g:=w.heap.size) (((Blk.new w _ _).alloc _)) hB1)
 have K1:=(Blk.next (g:=w.heap.size+1) (by rw[←World.size_alloc];exact Blk.new (w.alloc _) _ _) hB1)
 have k0:=K0.cell
 have k1:=K1.cell
 have l0:=K0.lt
 have l1:=K1.lt
 cases hd:decide (t=t')
 ·go_wp2_with fail
  go_ret
  exact ⟨ret_bool (by rw[hE2.out,hd];rfl),hB⟩
 replace hd:=Lib.hid hd
 go_wp2_with fail
 refine (c_eqAssertion _ _ i i' _ (ha.out.below hB) (ha'.out.below hB)).mono ?_
 rintro e w2 ⟨rfl,hB2⟩
 have hBB:=bgo hB hB2
 have K0:=K0.next hB2
 have K1:=K1.next hB2
 clear k0 k1
 have k0:=K0.cell
 have k1:=K1.cell
 have l0:=K0.lt
 have l1:=K1.lt
 cases hd2:decide (i=i')
 ·go_wp2_with fail
  go_ret
  exact ⟨ret_bool (by rw[hE2.out,hd.out,hd2];rfl),hBB⟩
 replace hd2:=Lib.hid hd2
 go_wp2_with fail
 refine (IB.out _ (hb.out.below hBB) (hb'.out.below hBB)).mono ?_
 rintro e w3 ⟨rfl,hB3⟩
 have hBBB:=bgo hBB hB3
 have K0:=K0.next hB3
 have K1:=K1.next hB3
 clear k0 k1
 have k0:=K0.cell
 have k1:=K1.cell
 have l0:=K0.lt
 have l1:=K1.lt
 cases hd3:decide (body=body')
 ·go_wp2_with fail
  go_ret
  exact ⟨ret_bool (by rw[hE2.out,hd.out,hd2.out,hd3];rfl),hBBB⟩
 replace hd3:=Lib.hid hd3
 go_wp2_with fail
 refine (IE.out _ (he.out.below hBBB) (he'.out.below hBBB)).mono ?_
 rintro e w4 ⟨rfl,hB4⟩
 have hB5:=bgo hBBB hB4
 cases hd4:decide (els=els')
 all_goals
  go_wp2_with fail
  go_ret
  exact ⟨ret_bool (by rw[hE2.out,hd.out,hd2.out,hd3.out,hd4];rfl),hB5⟩
theorem cms_step {L M:Cms} {j:Nat} {k a b:Int} {t:Fct} {i:Asn} {body els r:Cms} {k' a' b':Int} {t':Fct} {i':Asn} {body' els' r':Cms} (h:L.drop j=.cons k a b t i body els r) (h':M.drop j=.cons k' a' b' t' i' body' els' r') :
  decide (L.drop j=M.drop j)=(eq1 k a b t i body els k' a' b' t' i' body' els'&&decide (L.drop (j+1)=M.drop (j+1))):=by
 rw[Cms.drop_succ j L h,Cms.drop_succ j M h',h,h']
 unfold eq1
 rw[←Bool.decide_and]
 refine decide_eq_decide.2 ?_
 constructor
 ·intro e;injection e with e1 e2 e3 e4 e5 e6 e7 e8;exact ⟨⟨e1,e2,e3,e4,e5,e6,e7⟩,e8⟩
 ·rintro ⟨⟨e1,e2,e3,e4,e5,e6,e7⟩,e8⟩;rw[e1,e2,e3,e4,e5,e6,e7,e8]
set_option maxRecDepth 100000 in
set_option maxHeartbeats 3200000 in
theorem eqCmdS_go:∀ (N:Nat) (L M:Cms),L.sz<N→∀ (A A':Option Addr) (c c':Nat) (w:World) (lo hi lo' hi':Nat),CmsV w lo hi A L→CmsV w lo' hi' A' M→L.len≤1049600→M.len≤1049600→L.small 1049600→M.small 1049600→
  Calls Tryd.prog 17 #[.slice A L.len c,.slice A' M.len c'] w fun e w'=>e=.returned (.bool (decide (L=M)))∧Below w.heap.size w w':=by
 intro N
 induction N with
 | zero=>intro L M h;omega
 | succ N IH=>
  intro L M hsz A A' c c' w lo hi lo' hi' hV hV' hlen hlen' hsm hsm'
  replace IH:=Lib.hid IH
  replace hV:=Lib.hid hV
  replace hV':=Lib.hid hV'
  replace hsm:=Lib.hid hsm
  replace hsm':=Lib.hid hsm'
  replace hsz:=Lib.hid hsz
  obtain ⟨n,hn⟩:∃ n,n=L.len:=⟨_,rfl⟩
  obtain ⟨n',hn'⟩:∃ n',n'=M.len:=⟨_,rfl⟩
  rw[←hn] at hlen
  rw[←hn'] at hlen'
  rw[←hn,←hn']
  replace hn:=Lib.hid hn
  replace hn':=Lib.hid hn'
  obtain ⟨R,hR⟩:∃ R,R=decide (L=M):=⟨_,rfl⟩
  rw[←hR]
  replace hR:=Lib.hid hR
  by_cases hne:n=n'
  case neg=>
   have hq:=Lib.hid hne
   go_enter Tryd.func17,Tryd.ntmps17
   go_wp2_with fail
   go_ret
   exact ⟨ret_bool (by rw[hR.out];symm;rw[decide_eq_false_iff_not];intro e;exact hq.out (by rw[hn.out,hn'.out,e])),bel⟩
  subst hne
  go_enter Tryd.func17,Tryd.ntmps17
  go_wp2
  go_loopw [5] (fun i wr=>∃ j:Nat,j≤n∧i=.int .i64 j∧Hid (R=decide (L.drop j=M.drop j))∧Below w.heap.size w wr) (fun i _=>n - (intOf i).toNat)
  case atStart=>exact ⟨0,Nat.zero_le _,rfl,Lib.hid hR.out,bel⟩
  case round=>
   obtain ⟨j,hj,rfl,HA,hB⟩:=hrel
   by_cases hlt:j<n
   ·have hpos:0<(L.drop j).len:=by rw[Cms.drop_len,←hn.out];omega
    have hpos':0<(M.drop j).len:=by rw[Cms.drop_len,←hn'.out];omega
    obtain ⟨k,a,b,t,i,body,els,r,eL⟩:=Cms.cons_of_len hpos
    obtain ⟨k',a',b',t',i',body',els',r',eM⟩:=Cms.cons_of_len hpos'
    obtain ⟨bl,o,rfl,-,-,hAt⟩:=(hV.out.below hB) (by rw[←hn.out];omega)
    obtain ⟨bl',o',rfl,-,-,hAt'⟩:=(hV'.out.below hB) (by rw[←hn'.out];omega)
    have hD:=hAt.drop j
    have hD':=hAt'.drop j
    have hS:=Cms.small_drop j hsm.out
    have hS':=Cms.small_drop j hsm'.out
    have hZ:=Cms.sz_drop j L
    have hStep:=Lib.hid (HA.out.trans (cms_step eL eM))
    rw[eL] at hD hS hZ
    rw[eM] at hD' hS'
    obtain ⟨⟨p0,p1,p2,p3,p4,p5⟩,⟨A6,c6,p6,g6⟩,⟨A7,c7,p7,g7⟩,⟨A8,c8,p8,g8⟩,⟨A9,c9,p9,g9⟩,-⟩:=hD
    obtain ⟨⟨r0,r1,r2,r3,r4,r5⟩,⟨B6,d6,r6,f6⟩,⟨B7,d7,r7,f7⟩,⟨B8,d8,r8,f8⟩,⟨B9,d9,r9,f9⟩,-⟩:=hD'
    obtain ⟨s1,s2,s3,s4,s5,s6,-⟩:=hS
    obtain ⟨y1,y2,y3,y4,y5,y6,-⟩:=hS'
    simp only[Cms.sz] at hZ
    have hbs:body.sz<N:=by have:=hsz.out;omega
    have hes:els.sz<N:=by have:=hsz.out;omega
    have ha:AsnV wr lo hi (.agg #[.slice A6 i.facts.length c6,.slice A7 i.atoms.length c7]) i:=⟨_,_,_,_,rfl,⟨g6,s1⟩,⟨g7,s2⟩⟩
    have ha':AsnV wr lo' hi' (.agg #[.slice B6 i'.facts.length d6,.slice B7 i'.atoms.length d7]) i':=⟨_,_,_,_,rfl,⟨f6,y1⟩,⟨f7,y2⟩⟩
    have call:=fun (wd:World) (hBd:Below wr.heap.size wr wd)=>c_eqCmd k a b t i A6 A7 A8 A9 c6 c7 c8 c9 body els k' a' b' t' i' B6 B7 B8 B9 d6 d7 d8 d9 body' els' wd (ha.below hBd) (CmsV.below g8 hBd) (CmsV.below g9 hBd) (ha'.below hBd) (CmsV.below f8 hBd) (CmsV.below f9 hBd) (fun w h1 h2=>IH.out body body' hbs _ _ _ _ _ _ _ _ _ h1 h2 s3 y3 s5 y5) (fun w h1 h2=>IH.out els els' hes _ _ _ _ _ _ _ _ _ h1 h2 s4 y4 s6 y6)
    replace call:=Lib.hid call
    clear hZ hpos hpos' hAt hAt' g6 g7 g8 g9 f6 f7 f8 f9 s1 s2 s3 s4 s5 s6 y1 y2 y3 y4 y5 y6 hbs hes ha ha' eL eM HA
    generalize hQ:eq1 k a b t i body els k' a' b' t' i' body' els'=Q at call hStep
    clear hQ
    cases Q
    all_goals
     go_wp2_with fail
     go_still_tail 8,(by kernel_rfl)
     change wpList _ _ _ _ _ wr.drew
     have hBd:=hB.drew
     have hBr:=(Below.refl wr.heap.size wr).drew
     clear hB p0 p1 p2 p3 p4 p5 p6 p7 p8 p9 r0 r1 r2 r3 r4 r5 r6 r7 r8 r9
     generalize wr.drew=wd at *
     go_wp2_with (go_at_call 51;refine (call.out _ hBr).mono ?_;rintro e w' ⟨rfl,hB2⟩)
    ·go_ret
     exact ⟨ret_bool (by rw[hStep.out];rfl),bgo hBd hB2⟩
    ·go_round
     case rel=>exact ⟨j+1,by omega,by go_num,by show _=_;rw[hStep.out];rfl,bgo hBd hB2⟩
     case measure=>simp[intOf];omega
   ·go_wp2
    go_ret
    obtain rfl:j=n:=by omega
    have e1:L.drop j=.nil:=by rw[hn.out];exact Cms.drop_all L
    have e2:M.drop j=.nil:=by rw[hn'.out];exact Cms.drop_all M
    exact ⟨ret_bool (by rw[HA.out,e1,e2];simp),hB⟩
end Go.Proofs.YtjbboklnegfohaaDoor

/- Programs: the small tests. -/
namespace Go.Proofs.YtjbboklnegfohaaDoor
open Go Go.RowKit Go.Proofs
def noAsn (i:Asn):Bool:=decide (i.facts.length=0)&&decide (i.atoms.length=0)
def noFct (t:Fct):Bool:=decide (t=⟨false,0,0⟩)
def basicB (k:Int):Bool:=decide (1≤k∧k≤5)
set_option maxHeartbeats 1600000 in
theorem c_spec_l8NoInv (A1 A2:Option Addr) (c1 c2:Nat) (i:Asn) (w:World) (h1:i.facts.length≤1049600) (h2:i.atoms.length≤1049600):Calls Tryd.prog 112 #[.agg #[.slice A1 i.facts.length c1,.slice A2 i.atoms.length c2]] w fun e w'=>e=.returned (.bool (noAsn i))∧Below w.heap.size w w':=by
 obtain ⟨R,hR⟩:∃ R,R=noAsn i:=⟨_,rfl⟩
 rw[←hR]
 unfold noAsn at hR
 replace hR:=Lib.hid hR
 by_cases q1:i.facts.length=0
 all_goals by_cases q2:i.atoms.length=0
 all_goals
  go_enter Tryd.func112,Tryd.ntmps112
  go_wp2
  go_ret
  exact ⟨ret_bool (by rw[hR.out];simp_all),bel⟩
set_option maxHeartbeats 1600000 in
theorem c_impl_noAssertion (A1 A2:Option Addr) (c1 c2:Nat) (i:Asn) (w:World) (h1:i.facts.length≤1049600) (h2:i.atoms.length≤1049600):Calls Tryd.prog 129 #[.agg #[.slice A1 i.facts.length c1,.slice A2 i.atoms.length c2]] w fun e w'=>e=.returned (.bool (noAsn i))∧Below w.heap.size w w':=by
 obtain ⟨R,hR⟩:∃ R,R=noAsn i:=⟨_,rfl⟩
 rw[←hR]
 unfold noAsn at hR
 replace hR:=Lib.hid hR
 by_cases q1:i.facts.length=0
 all_goals by_cases q2:i.atoms.length=0
 all_goals
  go_enter Tryd.func129,Tryd.ntmps129
  go_wp2
  go_ret
  exact ⟨ret_bool (by rw[hR.out];simp_all),bel⟩
set_option maxHeartbeats 1600000 in
theorem c_spec_l8NoFact (t:Fct) (w:World):Calls Tryd.prog 125 #[t.val] w fun e w'=>e=.returned (.bool (noFct t))∧Below w.heap.size w w':=by
 obtain ⟨q,a,b⟩:=t
 go_enter Tryd.func125,Tryd.ntmps125
 go_wp2
 all_goals
  go_ret
  exact ⟨ret_bool (by simp_all [noFct]),bel⟩
set_option maxHeartbeats 1600000 in
theorem c_impl_isBasic (k a b:Int) (t:Fct) (vF vA vB vE:Value) (w:World):Calls Tryd.prog 128 #[.agg #[.int .i64 k,.int .i64 a,.int .i64 b,.bool t.eq,.int .i64 t.a,.int .i64 t.b,vF,vA,vB,vE]] w fun e w'=>e=.returned (.bool (basicB k))∧Below w.heap.size w w':=by
 by_cases h:1≤k
 ·by_cases h2:k≤5
  all_goals
   go_enter Tryd.func128,Tryd.ntmps128
   go_wp2
   go_ret
   exact ⟨ret_bool (by simp[basicB,h,h2]),bel⟩
 ·go_enter Tryd.func128,Tryd.ntmps128
  go_wp2
  go_ret
  exact ⟨ret_bool (by simp[basicB];omega),bel⟩
end Go.Proofs.YtjbboklnegfohaaDoor

/- The spec's joined assertions. -/
namespace Go.Proofs.YtjbboklnegfohaaDoor
open Go Go.RowKit Go.Proofs
attribute [local go_sem ↓] Go.wp_at_zero Go.wp_at_succ
end Go.Proofs.YtjbboklnegfohaaDoor

/- Programs: marks. -/
namespace Go.Proofs.YtjbboklnegfohaaDoor
open Go Go.RowKit Go.Proofs
def Cms.marks:Cms→Nat
 | .nil=>0
 | .cons _ _ _ _ i body els r=>6+3 * i.facts.length+3 * i.atoms.length+body.marks+els.marks+r.marks
theorem Cms.marks_le:∀ (L:Cms),L.marks≤6 * (L.len+L.cost)
 | .nil=>by simp[Cms.marks]
 | .cons k a b t i body els r=>by
  have h1:=Cms.marks_le body
  have h2:=Cms.marks_le els
  have h3:=Cms.marks_le r
  simp only[Cms.marks,Cms.len,Cms.cost]
  omega
def set6 (w:World) (g o:Nat) (u0 u1 u2 u3 u4 u5:Value):World:=(((((w.setCell ⟨g,o,none⟩ u0).setCell ⟨g,o+1,none⟩ u1).setCell ⟨g,o+2,none⟩ u2).setCell ⟨g,o+3,none⟩ u3).setCell ⟨g,o+3+1,none⟩ u4).setCell ⟨g,o+3+2,none⟩ u5
end Go.Proofs.YtjbboklnegfohaaDoor

/- Words for the exact laws: contracts in blocks of their own. -/
namespace Go.Proofs.YtjbboklnegfohaaDoor
open Go Go.RowKit Go.Proofs
section
variable {w w':World} {lo hi lo' hi' a b:Nat} {v:Value}
theorem z1f {fv av:Value} {x:Asn} (h:AsnO w lo (.agg #[fv,av]) x):FactsO w lo fv x.facts:=by
 obtain ⟨fv',av',e,h1,h2⟩:=h
 injection e with e;injection e with e;injection e with e1 e2;injection e2 with e2;subst e1;subst e2
 exact h1
end
theorem AsnI.own {w:World} {lo hi:Nat} {fv av:Value} {x:Asn} (h:AsnI w lo hi (.agg #[fv,av]) x) (g:Nat) (hg:fv.ownBlock=some g∨av.ownBlock=some g):lo≤g∧g<hi∧g<w.heap.size:=by
 obtain ⟨fv',av',e,⟨o1,u1⟩,⟨o2,u2⟩⟩:=h
 injection e with e;injection e with e;injection e with e1 e2;injection e2 with e2;subst e1;subst e2
 rcases hg with hg|hg
 ·have:=(o1.1.lt g hg);have:=u1 g hg;omega
 ·have:=(o2.1.lt g hg);have:=u2 g hg;omega
end Go.Proofs.YtjbboklnegfohaaDoor

/- Words for regions that allocate a variable beside calls. -/
namespace Go.Proofs.YtjbboklnegfohaaDoor
open Go Go.RowKit Go.Proofs
theorem AsnI.setT {w:World} {lo hi:Nat} {v:Value} {x:Asn} (h:AsnI w lo hi v x) {g:Nat} {t:TypeId} {cs:Array Value} (hk:Blk w g t cs) (h1:t≠tF) (h2:t≠tA) (i:Nat) (u:Value):AsnI (w.setCell ⟨g,i,none⟩ u) lo hi v x:=by
 obtain ⟨fv,av,e,p1,p2⟩:=h
 exact ⟨fv,av,e,⟨p1.1.setT hk h1 i u,p1.2⟩,⟨p2.1.setT hk h2 i u,p2.2⟩⟩
end Go.Proofs.YtjbboklnegfohaaDoor
