/- Arguments that are states; marks. -/
import Derived.Test.YtjaohekkmlkinaaDoorArg
import Derived.Test.YtjaohekkmlkinaaDoorApp
import Derived.Test.YtjaohekkmlkinaaDoorDefS
set_option linter.unusedSimpArgs false
set_option linter.unusedVariables false
namespace Go.Proofs.YtjaohekkmlkinaaDoor
open Go Go.RowKit Go.Proofs
def Und (v:Value) (hi:Nat):Prop:=∀ g,v.ownBlock=some g→g<hi
theorem IntsO.und {w:World} {base:Nat} {v:Value} {xs:List Int} (h:IntsO w base v xs):Und v w.heap.size:=fun g hg=>(h.1.lt g hg).2
theorem FactsO.und {w:World} {base:Nat} {v:Value} {xs:List Fct} (h:FactsO w base v xs):Und v w.heap.size:=fun g hg=>(h.1.lt g hg).2
theorem AtomsO.und {w:World} {base:Nat} {v:Value} {xs:List Atm} (h:AtomsO w base v xs):Und v w.heap.size:=fun g hg=>(h.1.lt g hg).2
theorem Und.mono {v:Value} {a b:Nat} (h:Und v a) (hab:a≤b):Und v b:=fun g hg=>Nat.lt_of_lt_of_le (h g hg) hab
structure Mk (p:Nat→Prop) (w w':World):Prop where
 os:w'.os=w.os
 tape:w'.tape=w.tape
 output:w'.output=w.output
 size:w.heap.size≤w'.heap.size
 block:∀ k,k<w.heap.size→¬p k→w'.heap[k]? = w.heap[k]?
section
variable {p q:Nat→Prop} {w a b:World}
theorem Mk.refl (p:Nat→Prop) (w:World):Mk p w w:=⟨rfl,rfl,rfl,Nat.le_refl _,fun _ _ _=>rfl⟩
theorem Mk.trans (h:Mk p w a) (h2:Mk p a b):Mk p w b:=⟨h2.os.trans h.os,h2.tape.trans h.tape,h2.output.trans h.output,Nat.le_trans h.size h2.size,fun k hk hp=>(h2.block k (Nat.lt_of_lt_of_le hk h.size) hp).trans (h.block k hk hp)⟩
theorem Mk.mono (h:Mk p w a) (hpq:∀ k,p k→q k):Mk q w a:=⟨h.os,h.tape,h.output,h.size,fun k hk hq=>h.block k hk fun hp=>hq (hpq k hp)⟩
theorem Mk.set (h:Mk p w a) {x:Addr} (hx:p x.block) (u:Value):Mk p w (a.setCell x u):=h.trans ⟨rfl,rfl,rfl,by simp,fun k _ hk=>Below.heap_setCell a x u k (fun e=>hk (e▸hx))⟩
theorem Mk.below_ (h:Below w.heap.size w a):Mk p w a:=⟨h.os,h.tape,h.output,h.size,fun k hk _=>h.block k hk⟩
theorem Mk.below {lo:Nat} (h:Mk p w a) (hp:∀ k,p k→lo≤k) (hl:lo≤w.heap.size):Below lo w a:=⟨h.os,h.tape,h.output,h.size,fun k hk=>h.block k (by omega) fun hp'=>by have:=hp k hp';omega⟩
theorem Mk.blk {g:Nat} {t:TypeId} {cs:Array Value} (h:Mk p w a) (hk:Blk w g t cs) (hg:¬p g):Blk a g t cs:=(h.block g hk.lt hg).trans hk
end
theorem own_mk {p:Nat→Prop} {w w':World} {base:Nat} {e:TypeId} {size:Nat} {v:Value} {n:Nat} {xs:List Value} (h:w.ownsRow base e size v n xs) (hb:Mk p w w') (hp:∀ g,v.ownBlock=some g→¬p g):w'.ownsRow base e size v n xs:=by
 obtain ⟨h1,h2⟩:=h
 refine ⟨h1,?_⟩
 rcases h2 with h2|⟨g,cap,cur,hv,hg,hh,r⟩
 ·exact Or.inl h2
 ·exact Or.inr ⟨g,cap,cur,hv,hg,(hb.block g (Blk.lt hh) (hp g (by rw[hv];rfl))).trans hh,r⟩
def iota (k:Int) (n:Nat):List Int:=(List.range n).map fun i:Nat=>k+i
theorem iota_length (k:Int) (n:Nat):(iota k n).length=n:=by simp[iota]
theorem iota_get (k:Int) (n i:Nat) (h:i<n):(iota k n)[i]? = some (k+i):=by simp[iota,h]
set_option maxHeartbeats 800000 in
theorem c_markIntS (v:Value) (xs:List Int) (k:Int) (base:Nat) (w:World) (h:IntsO w base v xs) (h0:0≤k) (h1:k≤1099511627776):Calls Tryd.prog 42 #[v,.int .i64 k] w fun e w'=>e=.returned (.int .i64 (k+xs.length))∧IntsO w' base v (iota k xs.length)∧Mk (fun g=>v.ownBlock=some g) w w':=by
 obtain ⟨⟨hl,h2⟩,hL⟩:=h
 have hL':xs.length≤1049600:=hL
 rcases h2 with ⟨rfl,hn⟩|⟨g,cap,cur,rfl,hb,hh,hn,hm,hs,ht⟩
 ·go_enter Tryd.func42,Tryd.ntmps42
  go_wp2
  go_loop [1,5] (fun m i=>m=.int .i64 k∧i=.int .i64 0) (fun _ i=>0)
  case atStart=>exact ⟨rfl,rfl⟩
  case round=>
   obtain ⟨rfl,rfl⟩:=hrel
   go_wp2
   go_ret
   have e:xs=[]:=List.length_eq_zero_iff.1 hn
   subst e
   exact ⟨by simp,IntsO.nil _ _,Mk.refl _ _⟩
 ·have hK:Blk w g tI cur:=hh
  have HS:=Lib.hid hs
  clear hs ht hh hl
  go_enter Tryd.func42,Tryd.ntmps42
  go_wp2
  go_loopw [1,5] (fun m i wr=>∃ (j:Nat) (cs:Array Value),j≤xs.length∧i=.int .i64 j∧m=.int .i64 (k+j)∧Hid (cs.size=cap * 1)∧Hid (Pre cs (encI (iota k xs.length)) j)∧Blk wr g tI cs∧Mk (fun g'=>Value.ownBlock (.slice (some ⟨g,0,none⟩) xs.length cap)=some g') w wr) (fun _ i _=>xs.length - (intOf i).toNat)
  case atStart=>exact ⟨0,cur,Nat.zero_le _,rfl,by simp,HS.out,Pre.zero _ _,hK,Mk.refl _ _⟩
  case round=>
   obtain ⟨j,cs,hj,rfl,rfl,HS2,HP,hK2,hM⟩:=hrel
   by_cases hlt:j<xs.length
   ·have hs:=HS2.out
    obtain ⟨u,hu⟩:∃ u,cs[j]? = some u:=⟨_,Array.getElem?_eq_getElem (by omega)⟩
    have q0:wr.cell? ⟨g,j,none⟩=some u:=by rw[hK2.cell,hu]
    have r:=hK2.frozen
    clear hs hu
    go_wp2_with fail
    have hs:=HS2.out
    go_round
    case rel=>exact ⟨j+1,_,by omega,by go_num,by push_cast;congr 1;omega,by show _=_;simp[hs],HP.out.set1 (by omega) (by rw[List.getElem?_map,iota_get _ _ _ hlt];rfl),hK2.set_ _ _,hM.set (x:=⟨g,j,none⟩) rfl _⟩
    case measure=>simp[intOf];omega
   ·go_wp2
    go_ret
    obtain rfl:j=xs.length:=by omega
    have hs:=HS2.out
    exact ⟨rfl,⟨by rw[iota_length];exact own_of_blk hK2 hb (by simp[iota]) (by simpa using HP.out) hn hm (by simpa using hs),by rw[iota_length];exact hL⟩,hM⟩
set_option maxHeartbeats 800000 in
theorem c_heldIntS {lo hi:Nat} (A:Option Addr) (n c:Nat) (k:Int) (w:World) (h:IntsV w lo hi A (iota k n)) (h0:0≤k) (h1:k≤1099511627776):Calls Tryd.prog 44 #[.slice A n c,.int .i64 k] w fun e w'=>e=.returned (.int .i64 (k+n))∧w=w':=by
 have hL:=h.le
 rw[iota_length] at hL
 go_enter Tryd.func44,Tryd.ntmps44
 go_wp2
 go_loop [1,5] (fun m i=>∃ (j:Nat),j≤n∧i=.int .i64 j∧m=.int .i64 (k+j)) (fun _ i=>n - (intOf i).toNat)
 case atStart=>exact ⟨0,Nat.zero_le _,rfl,by simp⟩
 case round=>
  obtain ⟨j,hj,rfl,rfl⟩:=hrel
  by_cases hlt:j<n
  ·obtain ⟨b,off,rfl,c0⟩:=h.at (k:=j) (by rw[iota_length];exact hlt)
   have e:(iota k n)[j]'(by rw[iota_length];exact hlt)=k+j:=by simp[iota]
   rw[e] at c0
   clear e
   go_wp2_with fail
   go_round
   case rel=>exact ⟨j+1,by omega,by go_num,by push_cast;congr 1;omega⟩
   case measure=>simp[intOf];omega
  ·obtain rfl:j=n:=by omega
   go_wp2
   go_ret
   exact ⟨rfl,rfl⟩
def markF (k:Int) (n:Nat):List Fct:=(List.range n).map fun i:Nat=>⟨k % 3 == 0,k+3 * i+1,k+3 * i+1+1⟩
theorem markF_length (k:Int) (n:Nat):(markF k n).length=n:=by simp[markF]
theorem markF_get (k:Int) (n i:Nat) (h:i<n):(markF k n)[i]'(by rw[markF_length];exact h)=⟨k % 3 == 0,k+3 * i+1,k+3 * i+1+1⟩:=by simp[markF]
set_option maxHeartbeats 1600000 in
theorem c_markFactS (v:Value) (xs:List Fct) (k:Int) (base:Nat) (w:World) (h:FactsO w base v xs) (h0:0≤k) (h1:k≤1099511627776):Calls Tryd.prog 27 #[v,.int .i64 k] w fun e w'=>e=.returned (.int .i64 (k+3 * xs.length))∧FactsO w' base v (markF k xs.length)∧Mk (fun g=>v.ownBlock=some g) w w':=by
 obtain ⟨⟨hl,h2⟩,hL⟩:=h
 have hL':xs.length≤1049600:=hL
 rcases h2 with ⟨rfl,hn⟩|⟨g,cap,cur,rfl,hb,hh,hn,hm,hs,ht⟩
 ·go_enter Tryd.func27,Tryd.ntmps27
  go_wp2
  go_loop [1,5] (fun m i=>m=.int .i64 k∧i=.int .i64 0) (fun _ i=>0)
  case atStart=>exact ⟨rfl,rfl⟩
  case round=>
   obtain ⟨rfl,rfl⟩:=hrel
   go_wp2
   go_ret
   have e:xs=[]:=List.length_eq_zero_iff.1 hn
   subst e
   exact ⟨by simp,⟨World.ownsRow_nil _ _ _ _,by simp[Lim,markF]⟩,Mk.refl _ _⟩
 ·have hK:Blk w g tF cur:=hh
  have HS:=Lib.hid hs
  clear hs ht hh hl
  go_enter Tryd.func27,Tryd.ntmps27
  go_wp2
  go_loopw [1,5] (fun m i wr=>∃ (j:Nat) (cs:Array Value),j≤xs.length∧i=.int .i64 j∧m=.int .i64 (k+3 * j)∧Hid (cs.size=cap * 3)∧Hid (Pre cs (encF (markF k xs.length)) (j * 3))∧Blk wr g tF cs∧Mk (fun g'=>Value.ownBlock (.slice (some ⟨g,0,none⟩) xs.length cap)=some g') w wr) (fun _ i _=>xs.length - (intOf i).toNat)
  case atStart=>exact ⟨0,cur,Nat.zero_le _,rfl,by simp,HS.out,Pre.zero _ _,hK,Mk.refl _ _⟩
  case round=>
   obtain ⟨j,cs,hj,rfl,rfl,HS2,HP,hK2,hM⟩:=hrel
   by_cases hlt:j<xs.length
   ·have hs:=HS2.out
    obtain ⟨u0,hu0⟩:∃ u,cs[j * 3]? = some u:=⟨_,Array.getElem?_eq_getElem (by omega)⟩
    obtain ⟨u1,hu1⟩:∃ u,cs[j * 3+1]? = some u:=⟨_,Array.getElem?_eq_getElem (by omega)⟩
    obtain ⟨u2,hu2⟩:∃ u,cs[j * 3+2]? = some u:=⟨_,Array.getElem?_eq_getElem (by omega)⟩
    have q0:wr.cell? ⟨g,j * 3,none⟩=some u0:=by rw[hK2.cell,hu0]
    have q1:wr.cell? ⟨g,j * 3+1,none⟩=some u1:=by rw[hK2.cell,hu1]
    have q2:wr.cell? ⟨g,j * 3+2,none⟩=some u2:=by rw[hK2.cell,hu2]
    have r:=hK2.frozen
    clear hs hu0 hu1 hu2
    go_wp2_with fail
    have hs:=HS2.out
    go_round
    case rel=>
     obtain ⟨t0,t1,t2⟩:=flat3 (fun f:Fct=>.bool f.eq) (fun f=>.int .i64 f.a) (fun f=>.int .i64 f.b) (markF k xs.length) j (by rw[markF_length];exact hlt)
     rw[markF_get _ _ _ hlt] at t0 t1 t2
     refine ⟨j+1,_,by omega,by go_num,by push_cast;congr 1;omega,?_,HP.out.set3 (by omega) t0 t1 t2,((hK2.set_ _ _).set_ _ _).set_ _ _,((hM.set (x:=⟨g,j * 3,none⟩) rfl _).set (x:=⟨g,j * 3+1,none⟩) rfl _).set (x:=⟨g,j * 3+2,none⟩) rfl _⟩
     show _=_;simp[hs]
    case measure=>simp[intOf];omega
   ·go_wp2
    go_ret
    obtain rfl:j=xs.length:=by omega
    have hs:=HS2.out
    exact ⟨rfl,⟨by rw[markF_length];exact own_of_blk hK2 hb (by rw[len3,markF_length]) (by simpa using HP.out) hn hm (by simpa using hs),by rw[markF_length];exact hL⟩,hM⟩
def markA (k:Int) (n:Nat):List Atm:=(List.range n).map fun i:Nat=>⟨k+3 * i,k+3 * i+1,k+3 * i+1+1⟩
theorem markA_length (k:Int) (n:Nat):(markA k n).length=n:=by simp[markA]
theorem markA_get (k:Int) (n i:Nat) (h:i<n):(markA k n)[i]'(by rw[markA_length];exact h)=⟨k+3 * i,k+3 * i+1,k+3 * i+1+1⟩:=by simp[markA]
set_option maxHeartbeats 1600000 in
theorem c_markAtomS (v:Value) (xs:List Atm) (k:Int) (base:Nat) (w:World) (h:AtomsO w base v xs) (h0:0≤k) (h1:k≤1099511627776):Calls Tryd.prog 28 #[v,.int .i64 k] w fun e w'=>e=.returned (.int .i64 (k+3 * xs.length))∧AtomsO w' base v (markA k xs.length)∧Mk (fun g=>v.ownBlock=some g) w w':=by
 obtain ⟨⟨hl,h2⟩,hL⟩:=h
 have hL':xs.length≤1049600:=hL
 rcases h2 with ⟨rfl,hn⟩|⟨g,cap,cur,rfl,hb,hh,hn,hm,hs,ht⟩
 ·go_enter Tryd.func28,Tryd.ntmps28
  go_wp2
  go_loop [1,5] (fun m i=>m=.int .i64 k∧i=.int .i64 0) (fun _ i=>0)
  case atStart=>exact ⟨rfl,rfl⟩
  case round=>
   obtain ⟨rfl,rfl⟩:=hrel
   go_wp2
   go_ret
   have e:xs=[]:=List.length_eq_zero_iff.1 hn
   subst e
   exact ⟨by simp,⟨World.ownsRow_nil _ _ _ _,by simp[Lim,markA]⟩,Mk.refl _ _⟩
 ·have hK:Blk w g tA cur:=hh
  have HS:=Lib.hid hs
  clear hs ht hh hl
  go_enter Tryd.func28,Tryd.ntmps28
  go_wp2
  go_loopw [1,5] (fun m i wr=>∃ (j:Nat) (cs:Array Value),j≤xs.length∧i=.int .i64 j∧m=.int .i64 (k+3 * j)∧Hid (cs.size=cap * 3)∧Hid (Pre cs (encA (markA k xs.length)) (j * 3))∧Blk wr g tA cs∧Mk (fun g'=>Value.ownBlock (.slice (some ⟨g,0,none⟩) xs.length cap)=some g') w wr) (fun _ i _=>xs.length - (intOf i).toNat)
  case atStart=>exact ⟨0,cur,Nat.zero_le _,rfl,by simp,HS.out,Pre.zero _ _,hK,Mk.refl _ _⟩
  case round=>
   obtain ⟨j,cs,hj,rfl,rfl,HS2,HP,hK2,hM⟩:=hrel
   by_cases hlt:j<xs.length
   ·have hs:=HS2.out
    obtain ⟨u0,hu0⟩:∃ u,cs[j * 3]? = some u:=⟨_,Array.getElem?_eq_getElem (by omega)⟩
    obtain ⟨u1,hu1⟩:∃ u,cs[j * 3+1]? = some u:=⟨_,Array.getElem?_eq_getElem (by omega)⟩
    obtain ⟨u2,hu2⟩:∃ u,cs[j * 3+2]? = some u:=⟨_,Array.getElem?_eq_getElem (by omega)⟩
    have q0:wr.cell? ⟨g,j * 3,none⟩=some u0:=by rw[hK2.cell,hu0]
    have q1:wr.cell? ⟨g,j * 3+1,none⟩=some u1:=by rw[hK2.cell,hu1]
    have q2:wr.cell? ⟨g,j * 3+2,none⟩=some u2:=by rw[hK2.cell,hu2]
    have r:=hK2.frozen
    clear hs hu0 hu1 hu2
    go_wp2_with fail
    have hs:=HS2.out
    go_round
    case rel=>
     obtain ⟨t0,t1,t2⟩:=flat3 (fun f:Atm=>.int .i64 f.kind) (fun f=>.int .i64 f.a) (fun f=>.int .i64 f.b) (markA k xs.length) j (by rw[markA_length];exact hlt)
     rw[markA_get _ _ _ hlt] at t0 t1 t2
     refine ⟨j+1,_,by omega,by go_num,by push_cast;congr 1;omega,?_,HP.out.set3 (by omega) t0 t1 t2,((hK2.set_ _ _).set_ _ _).set_ _ _,((hM.set (x:=⟨g,j * 3,none⟩) rfl _).set (x:=⟨g,j * 3+1,none⟩) rfl _).set (x:=⟨g,j * 3+2,none⟩) rfl _⟩
     show _=_;simp[hs]
    case measure=>simp[intOf];omega
   ·go_wp2
    go_ret
    obtain rfl:j=xs.length:=by omega
    have hs:=HS2.out
    exact ⟨rfl,⟨by rw[markA_length];exact own_of_blk hK2 hb (by rw[len3,markA_length]) (by simpa using HP.out) hn hm (by simpa using hs),by rw[markA_length];exact hL⟩,hM⟩
theorem IntsO.mk {p:Nat→Prop} {w w':World} {base:Nat} {v:Value} {xs:List Int} (h:IntsO w base v xs) (hb:Mk p w w') (hp:∀ g,v.ownBlock=some g→¬p g):IntsO w' base v xs:=⟨own_mk h.1 hb hp,h.2⟩
theorem FactsO.mk {p:Nat→Prop} {w w':World} {base:Nat} {v:Value} {xs:List Fct} (h:FactsO w base v xs) (hb:Mk p w w') (hp:∀ g,v.ownBlock=some g→¬p g):FactsO w' base v xs:=⟨own_mk h.1 hb hp,h.2⟩
theorem AtomsO.mk {p:Nat→Prop} {w w':World} {base:Nat} {v:Value} {xs:List Atm} (h:AtomsO w base v xs) (hb:Mk p w w') (hp:∀ g,v.ownBlock=some g→¬p g):AtomsO w' base v xs:=⟨own_mk h.1 hb hp,h.2⟩
theorem Ste.eq_iff (f g:Ste):f=g↔f.values=g.values∧f.heap=g.heap:=by cases f;cases g;simp
theorem FactsO.ne_atoms {w:World} {b b':Nat} {v v':Value} {xs:List Fct} {ys:List Atm} (h:FactsO w b v xs) (h':AtomsO w b' v' ys) (g:Nat) (hg:v.ownBlock=some g):v'.ownBlock≠some g:=by
 intro hg'
 obtain ⟨_,h2⟩:=h.1
 obtain ⟨_,h2'⟩:=h'.1
 rcases h2 with ⟨rfl,_⟩|⟨k,cap,cur,rfl,_,hh,_⟩
 ·simp[Value.ownBlock] at hg
 rcases h2' with ⟨rfl,_⟩|⟨k',cap',cur',rfl,_,hh',_⟩
 ·simp[Value.ownBlock] at hg'
 simp only[Value.ownBlock,Option.some.injEq] at hg hg'
 subst hg
 subst hg'
 exact Blk.ne_ (w:=w) hh hh' (by decide) rfl
def markAs (k:Int) (s:Asn):Asn:=⟨markF k s.facts.length,markA (k+3 * s.facts.length) s.atoms.length⟩
end Go.Proofs.YtjaohekkmlkinaaDoor
