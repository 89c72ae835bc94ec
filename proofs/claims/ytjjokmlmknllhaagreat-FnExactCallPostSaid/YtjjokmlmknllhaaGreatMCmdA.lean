/- Arguments that are states; marks. -/
import Derived.Test.YtjjokmlmknllhaaGreatArg
import Derived.Test.YtjjokmlmknllhaaGreatMDefS
import Derived.Test.YtjjokmlmknllhaaGreatMAppX
import Derived.Deep.RegionHeld3
import Derived.Deep.DrawnRows
import Derived.Test.YtjjokmlmknllhaaGreatMCmd
set_option linter.unusedSimpArgs false
set_option linter.unusedVariables false
namespace Go.Proofs.YtjjokmlmknllhaaGreat
open Go Go.RowKit Go.Proofs
def Und (v:Value) (hi:Nat):Prop:=∀ g,v.ownBlock=some g→g<hi
theorem IntsO.und {w:World} {base:Nat} {v:Value} {xs:List Int} (h:IntsO w base v xs):Und v w.heap.size:=fun g hg=>(h.1.lt g hg).2
theorem FactsO.und {w:World} {base:Nat} {v:Value} {xs:List Fct} (h:FactsO w base v xs):Und v w.heap.size:=fun g hg=>(h.1.lt g hg).2
theorem AtomsO.und {w:World} {base:Nat} {v:Value} {xs:List Atm} (h:AtomsO w base v xs):Und v w.heap.size:=fun g hg=>(h.1.lt g hg).2
theorem Und.mono {v:Value} {a b:Nat} (h:Und v a) (hab:a≤b):Und v b:=fun g hg=>Nat.lt_of_lt_of_le (h g hg) hab
structure Mk (p:Nat→Prop) (w w':World):Prop where
 os:w'.os=w.os
 tape:w'.tape=w.tape
 output:w'.output=w.output
 size:w.heap.size≤w'.heap.size
 block:∀ k,k<w.heap.size→¬p k→w'.heap[k]? = w.heap[k]?
section
variable {p q:Nat→Prop} {w a b:World}
theorem Mk.refl (p:Nat→Prop) (w:World):Mk p w w:=⟨rfl,rfl,rfl,Nat.le_refl _,fun _ _ _=>rfl⟩
theorem Mk.trans (h:Mk p w a) (h2:Mk p a b):Mk p w b:=⟨h2.os.trans h.os,h2.tape.trans h.tape,h2.output.trans h.output,Nat.le_trans h.size h2.size,fun k hk hp=>(h2.block k (Nat.lt_of_lt_of_le hk h.size) hp).trans (h.block k hk hp)⟩
theorem Mk.mono (h:Mk p w a) (hpq:∀ k,p k→q k):Mk q w a:=⟨h.os,h.tape,h.output,h.size,fun k hk hq=>h.block k hk fun hp=>hq (hpq k hp)⟩
theorem Mk.set (h:Mk p w a) {x:Addr} (hx:p x.block) (u:Value):Mk p w (a.setCell x u):=h.trans ⟨rfl,rfl,rfl,by simp,fun k _ hk=>Below.heap_setCell a x u k (fun e=>hk (e▸hx))⟩
theorem Mk.below_ (h:Below w.heap.size w a):Mk p w a:=⟨h.os,h.tape,h.output,h.size,fun k hk _=>h.block k hk⟩
theorem Mk.below {lo:Nat} (h:Mk p w a) (hp:∀ k,p k→lo≤k) (hl:lo≤w.heap.size):Below lo w a:=⟨h.os,h.tape,h.output,h.size,fun k hk=>h.block k (by omega) fun hp'=>by have:=hp k hp';omega⟩
theorem Mk.abv {hi:Nat} (h:Mk p w a) (hp:∀ k,p k→k<hi):Abv hi w a:=⟨h.size,fun k h1 h2=>h.block k h2 fun hp'=>by have:=hp k hp';omega⟩
theorem Mk.blk {g:Nat} {t:TypeId} {cs:Array Value} (h:Mk p w a) (hk:Blk w g t cs) (hg:¬p g):Blk a g t cs:=(h.block g hk.lt hg).trans hk
end
theorem own_mk {p:Nat→Prop} {w w':World} {base:Nat} {e:TypeId} {size:Nat} {v:Value} {n:Nat} {xs:List Value} (h:w.ownsRow base e size v n xs) (hb:Mk p w w') (hp:∀ g,v.ownBlock=some g→¬p g):w'.ownsRow base e size v n xs:=by
 obtain ⟨h1,h2⟩:=h
 refine ⟨h1,?_⟩
 rcases h2 with h2|⟨g,cap,cur,hv,hg,hh,r⟩
 ·exact Or.inl h2
 ·exact Or.inr ⟨g,cap,cur,hv,hg,(hb.block g (Blk.lt hh) (hp g (by rw[hv];rfl))).trans hh,r⟩
def iota (k:Int) (n:Nat):List Int:=(List.range n).map fun i:Nat=>k+i
theorem iota_length (k:Int) (n:Nat):(iota k n).length=n:=by simp[iota]
theorem iota_get (k:Int) (n i:Nat) (h:i<n):(iota k n)[i]? = some (k+i):=by simp[iota,h]
set_option maxHeartbeats 800000 in
theorem c_markIntS (v:Value) (xs:List Int) (k:Int) (base:Nat) (w:World) (h:IntsO w base v xs) (h0:0≤k) (h1:k≤1099511627776):Calls Tryz.prog 22 #[v,.int .i64 k] w fun e w'=>e=.returned (.int .i64 (k+xs.length))∧IntsO w' base v (iota k xs.length)∧Mk (fun g=>v.ownBlock=some g) w w':=by
 obtain ⟨⟨hl,h2⟩,hL⟩:=h
 have hL':xs.length≤1049600:=hL
 rcases h2 with ⟨rfl,hn⟩|⟨g,cap,cur,rfl,hb,hh,hn,hm,hs,ht⟩
 ·go_enter Tryz.func22,Tryz.ntmps22
  go_wp2
  go_loop [1,5] (fun m i=>m=.int .i64 k∧i=.int .i64 0) (fun _ i=>0)
  case atStart=>exact ⟨rfl,rfl⟩
  case round=>
   obtain ⟨rfl,rfl⟩:=hrel
   go_wp2
   go_ret
   have e:xs=[]:=List.length_eq_zero_iff.1 hn
   subst e
   exact ⟨by simp,IntsO.nil _ _,Mk.refl _ _⟩
 ·have hK:Blk w g tI cur:=hh
  have HS:=Lib.hid hs
  clear hs ht hh hl
  go_enter Tryz.func22,Tryz.ntmps22
  go_wp2
  go_loopw [1,5] (fun m i wr=>∃ (j:Nat) (cs:Array Value),j≤xs.length∧i=.int .i64 j∧m=.int .i64 (k+j)∧Hid (cs.size=cap * 1)∧Hid (Pre cs (encI (iota k xs.length)) j)∧Blk wr g tI cs∧Mk (fun g'=>Value.ownBlock (.slice (some ⟨g,0,none⟩) xs.length cap)=some g') w wr) (fun _ i _=>xs.length - (intOf i).toNat)
  case atStart=>exact ⟨0,cur,Nat.zero_le _,rfl,by simp,HS.out,Pre.zero _ _,hK,Mk.refl _ _⟩
  case round=>
   obtain ⟨j,cs,hj,rfl,rfl,HS2,HP,hK2,hM⟩:=hrel
   by_cases hlt:j<xs.length
   ·have hs:=HS2.out
    obtain ⟨u,hu⟩:∃ u,cs[j]? = some u:=⟨_,Array.getElem?_eq_getElem (by omega)⟩
    have q0:wr.cell? ⟨g,j,none⟩=some u:=by rw[hK2.cell,hu]
    have r:=hK2.frozen
    clear hs hu
    go_wp2_with fail
    have hs:=HS2.out
    go_round
    case rel=>exact ⟨j+1,_,by omega,by go_num,by push_cast;congr 1;omega,by show _=_;simp[hs],HP.out.set1 (by omega) (by rw[List.getElem?_map,iota_get _ _ _ hlt];rfl),hK2.set_ _ _,hM.set (x:=⟨g,j,none⟩) rfl _⟩
    case measure=>simp[intOf];omega
   ·go_wp2
    go_ret
    obtain rfl:j=xs.length:=by omega
    have hs:=HS2.out
    exact ⟨rfl,⟨by rw[iota_length];exact own_of_blk hK2 hb (by simp[iota]) (by simpa using HP.out) hn hm (by simpa using hs),by rw[iota_length];exact hL⟩,hM⟩
def markF (k:Int) (n:Nat):List Fct:=(List.range n).map fun i:Nat=>⟨k % 3 == 0,k+3 * i+1,k+3 * i+1+1⟩
theorem markF_length (k:Int) (n:Nat):(markF k n).length=n:=by simp[markF]
theorem markF_get (k:Int) (n i:Nat) (h:i<n):(markF k n)[i]'(by rw[markF_length];exact h)=⟨k % 3 == 0,k+3 * i+1,k+3 * i+1+1⟩:=by simp[markF]
set_option maxHeartbeats 1600000 in
theorem c_markFactS (v:Value) (xs:List Fct) (k:Int) (base:Nat) (w:World) (h:FactsO w base v xs) (h0:0≤k) (h1:k≤1099511627776):Calls Tryz.prog 69 #[v,.int .i64 k] w fun e w'=>e=.returned (.int .i64 (k+3 * xs.length))∧FactsO w' base v (markF k xs.length)∧Mk (fun g=>v.ownBlock=some g) w w':=by
 obtain ⟨⟨hl,h2⟩,hL⟩:=h
 have hL':xs.length≤1049600:=hL
 rcases h2 with ⟨rfl,hn⟩|⟨g,cap,cur,rfl,hb,hh,hn,hm,hs,ht⟩
 ·go_enter Tryz.func69,Tryz.ntmps69
  go_wp2
  go_loop [1,5] (fun m i=>m=.int .i64 k∧i=.int .i64 0) (fun _ i=>0)
  case atStart=>exact ⟨rfl,rfl⟩
  case round=>
   obtain ⟨rfl,rfl⟩:=hrel
   go_wp2
   go_ret
   have e:xs=[]:=List.length_eq_zero_iff.1 hn
   subst e
   exact ⟨by simp,⟨World.ownsRow_nil _ _ _ _,by simp[Lim,markF]⟩,Mk.refl _ _⟩
 ·have hK:Blk w g tF cur:=hh
  have HS:=Lib.hid hs
  clear hs ht hh hl
  go_enter Tryz.func69,Tryz.ntmps69
  go_wp2
  go_loopw [1,5] (fun m i wr=>∃ (j:Nat) (cs:Array Value),j≤xs.length∧i=.int .i64 j∧m=.int .i64 (k+3 * j)∧Hid (cs.size=cap * 3)∧Hid (Pre cs (encF (markF k xs.length)) (j * 3))∧Blk wr g tF cs∧Mk (fun g'=>Value.ownBlock (.slice (some ⟨g,0,none⟩) xs.length cap)=some g') w wr) (fun _ i _=>xs.length - (intOf i).toNat)
  case atStart=>exact ⟨0,cur,Nat.zero_le _,rfl,by simp,HS.out,Pre.zero _ _,hK,Mk.refl _ _⟩
  case round=>
   obtain ⟨j,cs,hj,rfl,rfl,HS2,HP,hK2,hM⟩:=hrel
   by_cases hlt:j<xs.length
   ·have hs:=HS2.out
    obtain ⟨u0,hu0⟩:∃ u,cs[j * 3]? = some u:=⟨_,Array.getElem?_eq_getElem (by omega)⟩
    obtain ⟨u1,hu1⟩:∃ u,cs[j * 3+1]? = some u:=⟨_,Array.getElem?_eq_getElem (by omega)⟩
    obtain ⟨u2,hu2⟩:∃ u,cs[j * 3+2]? = some u:=⟨_,Array.getElem?_eq_getElem (by omega)⟩
    have q0:wr.cell? ⟨g,j * 3,none⟩=some u0:=by rw[hK2.cell,hu0]
    have q1:wr.cell? ⟨g,j * 3+1,none⟩=some u1:=by rw[hK2.cell,hu1]
    have q2:wr.cell? ⟨g,j * 3+2,none⟩=some u2:=by rw[hK2.cell,hu2]
    have r:=hK2.frozen
    clear hs hu0 hu1 hu2
    go_wp2_with fail
    have hs:=HS2.out
    go_round
    case rel=>
     obtain ⟨t0,t1,t2⟩:=flat3 (fun f:Fct=>.bool f.eq) (fun f=>.int .i64 f.a) (fun f=>.int .i64 f.b) (markF k xs.length) j (by rw[markF_length];exact hlt)
     rw[markF_get _ _ _ hlt] at t0 t1 t2
     refine ⟨j+1,_,by omega,by go_num,by push_cast;congr 1;omega,?_,HP.out.set3 (by omega) t0 t1 t2,((hK2.set_ _ _).set_ _ _).set_ _ _,((hM.set (x:=⟨g,j * 3,none⟩) rfl _).set (x:=⟨g,j * 3+1,none⟩) rfl _).set (x:=⟨g,j * 3+2,none⟩) rfl _⟩
     show _=_;simp[hs]
    case measure=>simp[intOf];omega
   ·go_wp2
    go_ret
    obtain rfl:j=xs.length:=by omega
    have hs:=HS2.out
    exact ⟨rfl,⟨by rw[markF_length];exact own_of_blk hK2 hb (by rw[len3,markF_length]) (by simpa using HP.out) hn hm (by simpa using hs),by rw[markF_length];exact hL⟩,hM⟩
def markA (k:Int) (n:Nat):List Atm:=(List.range n).map fun i:Nat=>⟨k+3 * i,k+3 * i+1,k+3 * i+1+1⟩
theorem markA_length (k:Int) (n:Nat):(markA k n).length=n:=by simp[markA]
theorem markA_get (k:Int) (n i:Nat) (h:i<n):(markA k n)[i]'(by rw[markA_length];exact h)=⟨k+3 * i,k+3 * i+1,k+3 * i+1+1⟩:=by simp[markA]
set_option maxHeartbeats 1600000 in
theorem c_markAtomS (v:Value) (xs:List Atm) (k:Int) (base:Nat) (w:World) (h:AtomsO w base v xs) (h0:0≤k) (h1:k≤1099511627776):Calls Tryz.prog 70 #[v,.int .i64 k] w fun e w'=>e=.returned (.int .i64 (k+3 * xs.length))∧AtomsO w' base v (markA k xs.length)∧Mk (fun g=>v.ownBlock=some g) w w':=by
 obtain ⟨⟨hl,h2⟩,hL⟩:=h
 have hL':xs.length≤1049600:=hL
 rcases h2 with ⟨rfl,hn⟩|⟨g,cap,cur,rfl,hb,hh,hn,hm,hs,ht⟩
 ·go_enter Tryz.func70,Tryz.ntmps70
  go_wp2
  go_loop [1,5] (fun m i=>m=.int .i64 k∧i=.int .i64 0) (fun _ i=>0)
  case atStart=>exact ⟨rfl,rfl⟩
  case round=>
   obtain ⟨rfl,rfl⟩:=hrel
   go_wp2
   go_ret
   have e:xs=[]:=List.length_eq_zero_iff.1 hn
   subst e
   exact ⟨by simp,⟨World.ownsRow_nil _ _ _ _,by simp[Lim,markA]⟩,Mk.refl _ _⟩
 ·have hK:Blk w g tA cur:=hh
  have HS:=Lib.hid hs
  clear hs ht hh hl
  go_enter Tryz.func70,Tryz.ntmps70
  go_wp2
  go_loopw [1,5] (fun m i wr=>∃ (j:Nat) (cs:Array Value),j≤xs.length∧i=.int .i64 j∧m=.int .i64 (k+3 * j)∧Hid (cs.size=cap * 3)∧Hid (Pre cs (encA (markA k xs.length)) (j * 3))∧Blk wr g tA cs∧Mk (fun g'=>Value.ownBlock (.slice (some ⟨g,0,none⟩) xs.length cap)=some g') w wr) (fun _ i _=>xs.length - (intOf i).toNat)
  case atStart=>exact ⟨0,cur,Nat.zero_le _,rfl,by simp,HS.out,Pre.zero _ _,hK,Mk.refl _ _⟩
  case round=>
   obtain ⟨j,cs,hj,rfl,rfl,HS2,HP,hK2,hM⟩:=hrel
   by_cases hlt:j<xs.length
   ·have hs:=HS2.out
    obtain ⟨u0,hu0⟩:∃ u,cs[j * 3]? = some u:=⟨_,Array.getElem?_eq_getElem (by omega)⟩
    obtain ⟨u1,hu1⟩:∃ u,cs[j * 3+1]? = some u:=⟨_,Array.getElem?_eq_getElem (by omega)⟩
    obtain ⟨u2,hu2⟩:∃ u,cs[j * 3+2]? = some u:=⟨_,Array.getElem?_eq_getElem (by omega)⟩
    have q0:wr.cell? ⟨g,j * 3,none⟩=some u0:=by rw[hK2.cell,hu0]
    have q1:wr.cell? ⟨g,j * 3+1,none⟩=some u1:=by rw[hK2.cell,hu1]
    have q2:wr.cell? ⟨g,j * 3+2,none⟩=some u2:=by rw[hK2.cell,hu2]
    have r:=hK2.frozen
    clear hs hu0 hu1 hu2
    go_wp2_with fail
    have hs:=HS2.out
    go_round
    case rel=>
     obtain ⟨t0,t1,t2⟩:=flat3 (fun f:Atm=>.int .i64 f.kind) (fun f=>.int .i64 f.a) (fun f=>.int .i64 f.b) (markA k xs.length) j (by rw[markA_length];exact hlt)
     rw[markA_get _ _ _ hlt] at t0 t1 t2
     refine ⟨j+1,_,by omega,by go_num,by push_cast;congr 1;omega,?_,HP.out.set3 (by omega) t0 t1 t2,((hK2.set_ _ _).set_ _ _).set_ _ _,((hM.set (x:=⟨g,j * 3,none⟩) rfl _).set (x:=⟨g,j * 3+1,none⟩) rfl _).set (x:=⟨g,j * 3+2,none⟩) rfl _⟩
     show _=_;simp[hs]
    case measure=>simp[intOf];omega
   ·go_wp2
    go_ret
    obtain rfl:j=xs.length:=by omega
    have hs:=HS2.out
    exact ⟨rfl,⟨by rw[markA_length];exact own_of_blk hK2 hb (by rw[len3,markA_length]) (by simpa using HP.out) hn hm (by simpa using hs),by rw[markA_length];exact hL⟩,hM⟩
def StateO (w:World) (base:Nat) (v:Value) (s:Ste):Prop:=∃ fv av,v=.agg #[fv,av]∧IntsO w base fv s.values∧IntsO w base av s.heap∧∀ g,fv.ownBlock=some g→av.ownBlock≠some g
theorem StateO.below {w w':World} {base:Nat} {v:Value} {s:Ste} (h:StateO w base v s) (hb:Below w.heap.size w w'):StateO w' base v s:=by
 obtain ⟨fv,av,e,h1,h2,h3⟩:=h
 exact ⟨fv,av,e,h1.below hb,h2.below hb,h3⟩
theorem StateO.abv {w w':World} {base lo:Nat} {v:Value} {s:Ste} (h:StateO w base v s) (hb:Abv lo w w') (hl:lo≤base):StateO w' base v s:=by
 obtain ⟨fv,av,e,h1,h2,h3⟩:=h
 exact ⟨fv,av,e,h1.abv hb hl,h2.abv hb hl,h3⟩
theorem StateO.lower {w:World} {base base':Nat} {v:Value} {s:Ste} (h:StateO w base v s) (hb:base'≤base):StateO w base' v s:=by
 obtain ⟨fv,av,e,h1,h2,h3⟩:=h
 exact ⟨fv,av,e,h1.lower hb,h2.lower hb,h3⟩
theorem StateO.reads {w:World} {base:Nat} {v:Value} {s:Ste} (h:StateO w base v s):StateV w base w.heap.size v s:=by
 obtain ⟨fv,av,e,h1,h2,h3⟩:=h
 obtain ⟨A1,c1,rfl,g1⟩:=h1.reads
 obtain ⟨A2,c2,rfl,g2⟩:=h2.reads
 exact ⟨A1,c1,A2,c2,e,g1,g2⟩
theorem IntsO.mk {p:Nat→Prop} {w w':World} {base:Nat} {v:Value} {xs:List Int} (h:IntsO w base v xs) (hb:Mk p w w') (hp:∀ g,v.ownBlock=some g→¬p g):IntsO w' base v xs:=⟨own_mk h.1 hb hp,h.2⟩
theorem FactsO.mk {p:Nat→Prop} {w w':World} {base:Nat} {v:Value} {xs:List Fct} (h:FactsO w base v xs) (hb:Mk p w w') (hp:∀ g,v.ownBlock=some g→¬p g):FactsO w' base v xs:=⟨own_mk h.1 hb hp,h.2⟩
theorem AtomsO.mk {p:Nat→Prop} {w w':World} {base:Nat} {v:Value} {xs:List Atm} (h:AtomsO w base v xs) (hb:Mk p w w') (hp:∀ g,v.ownBlock=some g→¬p g):AtomsO w' base v xs:=⟨own_mk h.1 hb hp,h.2⟩
theorem Ste.eq_iff (f g:Ste):f=g↔f.values=g.values∧f.heap=g.heap:=by cases f;cases g;simp
theorem FactsO.ne_atoms {w:World} {b b':Nat} {v v':Value} {xs:List Fct} {ys:List Atm} (h:FactsO w b v xs) (h':AtomsO w b' v' ys) (g:Nat) (hg:v.ownBlock=some g):v'.ownBlock≠some g:=by
 intro hg'
 obtain ⟨_,h2⟩:=h.1
 obtain ⟨_,h2'⟩:=h'.1
 rcases h2 with ⟨rfl,_⟩|⟨k,cap,cur,rfl,_,hh,_⟩
 ·simp[Value.ownBlock] at hg
 rcases h2' with ⟨rfl,_⟩|⟨k',cap',cur',rfl,_,hh',_⟩
 ·simp[Value.ownBlock] at hg'
 simp only[Value.ownBlock,Option.some.injEq] at hg hg'
 subst hg
 subst hg'
 exact Blk.ne_ (w:=w) hh hh' (by decide) rfl
def szSt (s:Ste) (left:Int):Int:=if szL s.values.length left<0 then -1 else szL s.heap.length (szL s.values.length left)
def StateR (w:World) (v:Value) (a:Ste):Prop:=
 ∃ A1 c1 A2 c2,v=.agg #[.slice A1 a.values.length c1,.slice A2 a.heap.length c2]∧IntsR w A1 a.values∧IntsR w A2 a.heap
def markSt (k:Int) (s:Ste):Ste:=⟨iota k s.values.length,iota (k+s.values.length) s.heap.length⟩
def markAs (k:Int) (s:Asn):Asn:=⟨markF k s.facts.length,markA (k+3 * s.facts.length) s.atoms.length⟩
set_option maxHeartbeats 800000 in
theorem c_markAssertion (v:Value) (s:Asn) (k:Int) (base hi:Nat) (w:World) (h:AsnO w base v s) (hhi:∀ fv av,v=.agg #[fv,av]→Und fv hi∧Und av hi) (h0:0≤k) (h1:k≤549755813888):Calls Tryz.prog 20 #[v,.int .i64 k] w fun e w'=>e=.returned (.int .i64 (k+3 * s.facts.length+3 * s.atoms.length))∧AsnO w' base v (markAs k s)∧Mk (fun g=>base≤g∧g<hi) w w':=by
 obtain ⟨fv,av,rfl,o1,o2⟩:=h
 have hd:=o1.ne_atoms o2
 have hU:=hhi fv av rfl
 have L1:s.facts.length≤1049600:=o1.2
 obtain ⟨F1,d1,e1,-⟩:=o1.reads
 obtain ⟨F2,d2,e2,-⟩:=o2.reads
 have o1b:=o1.below (w':=w.alloc (.cells #[fv,av] 34)) bel
 have o2b:=o2.below (w':=w.alloc (.cells #[fv,av] 34)) bel
 subst e1
 subst e2
 go_enter Tryz.func20,Tryz.ntmps20
 go_wp2_with fail
 refine (c_markFactS _ s.facts k base _ o1b h0 (by omega)).mono ?_
 rintro e w1 ⟨rfl,p1,hM1⟩
 have k0:=hM1.blk (Blk.new w _ _) (fun e=>by have:=o1.und _ e;omega)
 have q0:=k0.cell
 have o2c:=o2b.mk hM1 (fun g e1 e2=>hd g e2 e1)
 have hM1':=(Mk.below_ (p:=fun g=>base≤g∧g<hi) (w:=w) bel).trans (hM1.mono fun g e=>⟨(o1.1.lt g e).1,hU.1 g e⟩)
 clear hM1
 go_wp2_with fail
 refine (c_markAtomS _ s.atoms _ base _ o2c (by omega) (by omega)).mono ?_
 rintro e w2 ⟨rfl,p2,hM2⟩
 have p1c:=p1.mk hM2 (fun g e1 e2=>hd g e1 e2)
 have hM2':=hM1'.trans (hM2.mono fun g e=>⟨(o2.1.lt g e).1,hU.2 g e⟩)
 go_wp2_with fail
 go_ret
 exact ⟨rfl,⟨_,_,rfl,by simpa [markAs,markF_length] using p1c,p2⟩,hM2'⟩
end Go.Proofs.YtjjokmlmknllhaaGreat

/- Rows that a call changes in place; marks that are held; replaced terms (impl). -/
namespace Go.Proofs.YtjjokmlmknllhaaGreat
open Go Go.RowKit Go.Proofs
attribute [local go_sem ↓] Go.wp_at_zero Go.wp_at_succ
theorem set_same {α:Type} {L:List α} {i:Nat} {x:α} (h:L[i]? = some x):L.set i x=L:=by
 apply List.ext_getElem?
 intro k
 rw[List.getElem?_set]
 split
 ·rename_i e;subst e
  split
  ·exact h.symm
  ·rename_i hn;rw[List.getElem?_eq_none (by omega)] at h;cases h
 ·rfl
theorem flat3_set {α:Type} (f0 f1 f2:α→Value):∀ (L:List α) (j:Nat) (x:α),j<L.length→((L.set j x).flatMap fun x=>[f0 x,f1 x,f2 x])=(((L.flatMap fun x=>[f0 x,f1 x,f2 x]).set (j*3) (f0 x)).set (j*3+1) (f1 x)).set (j*3+2) (f2 x):=by
 intro L
 induction L with
 | nil=>intro j x h;simp at h
 | cons g L ih=>
  intro j x h
  cases j with
  | zero=>simp
  | succ j=>
   have e:=ih j x (by simpa using h)
   rw[List.set_cons_succ,List.flatMap_cons,e,List.flatMap_cons,show (j+1)*3=j*3+1+1+1 from by omega,show j*3+1+1+1+1=(j*3+1)+1+1+1 from by omega,show j*3+1+1+1+2=(j*3+2)+1+1+1 from by omega]
   simp only[List.cons_append,List.nil_append,List.set_cons_succ]
theorem Pre.setL {cs:Array Value} {L:List Value} {m:Nat} (h:Pre cs L m) (i:Nat) (u:Value) (hs:m≤cs.size) (hl:m≤L.length):Pre (cs.setIfInBounds i u) (L.set i u) m:=by
 intro j hj
 by_cases e:i=j
 ·subst e
  rw[Array.getElem?_setIfInBounds_self,if_pos (by omega),List.getElem?_set_self (by omega)]
 ·rw[Array.getElem?_setIfInBounds_ne e,List.getElem?_set_ne e];exact h j hj
theorem FactsO.open_ {w:World} {base:Nat} {A:Option Addr} {n c k:Nat} {fs:List Fct} (h:FactsO w base (.slice A n c) fs) (hk:k<fs.length):∃ g cur,n=fs.length∧A=some ⟨g,0,none⟩∧base≤g∧Blk w g tF cur∧fs.length * 3≤cur.size∧cur[k*3]? = some (.bool fs[k].eq)∧cur[k*3+1]? = some (.int .i64 fs[k].a)∧cur[k*3+2]? = some (.int .i64 fs[k].b)∧
  (∀ (i:Nat) (u:Value) (gs:List Fct),encF gs=(encF fs).set i u→gs.length=fs.length→FactsO (w.setCell ⟨g,i,none⟩ u) base (.slice A n c) gs):=by
 obtain ⟨⟨hl,h2⟩,hL⟩:=h
 rcases h2 with ⟨e,hn⟩|⟨g,cap,cur,e,hb,hh,hn,hm,hs,ht⟩
 ·omega
 ·injection e with e1 e2 e3
  subst e1 e2 e3
  have hK:Blk w g tF cur:=hh
  have hP:Pre cur (encF fs) (fs.length * 3):=by
   intro j hj
   rw[←ht,List.getElem?_take,if_pos hj];simp
  obtain ⟨t0,t1,t2⟩:=flat3 (fun f:Fct=>.bool f.eq) (fun f=>.int .i64 f.a) (fun f=>.int .i64 f.b) fs k hk
  refine ⟨g,cur,rfl,rfl,hb,hK,by rw[hs];exact Nat.mul_le_mul hn (Nat.le_refl _),(hP _ (by omega)).trans t0,(hP _ (by omega)).trans t1,(hP _ (by omega)).trans t2,?_⟩
  intro i u gs he hg
  refine ⟨?_,by rw[hg];exact hL⟩
  rw[he,hg]
  exact own_of_blk (hK.set_ i u) hb (by rw[List.length_set,hl]) (hP.setL i u (by rw[hs];exact Nat.mul_le_mul hn (Nat.le_refl _)) (by rw[hl];exact Nat.le_refl _)) hn hm (by simpa using hs)
theorem AtomsO.open_ {w:World} {base:Nat} {A:Option Addr} {n c k:Nat} {fs:List Atm} (h:AtomsO w base (.slice A n c) fs) (hk:k<fs.length):∃ g cur,n=fs.length∧A=some ⟨g,0,none⟩∧base≤g∧Blk w g tA cur∧fs.length * 3≤cur.size∧cur[k*3]? = some (.int .i64 fs[k].kind)∧cur[k*3+1]? = some (.int .i64 fs[k].a)∧cur[k*3+2]? = some (.int .i64 fs[k].b)∧
  (∀ (i:Nat) (u:Value) (gs:List Atm),encA gs=(encA fs).set i u→gs.length=fs.length→AtomsO (w.setCell ⟨g,i,none⟩ u) base (.slice A n c) gs):=by
 obtain ⟨⟨hl,h2⟩,hL⟩:=h
 rcases h2 with ⟨e,hn⟩|⟨g,cap,cur,e,hb,hh,hn,hm,hs,ht⟩
 ·omega
 ·injection e with e1 e2 e3
  subst e1 e2 e3
  have hK:Blk w g tA cur:=hh
  have hP:Pre cur (encA fs) (fs.length * 3):=by
   intro j hj
   rw[←ht,List.getElem?_take,if_pos hj];simp
  obtain ⟨t0,t1,t2⟩:=flat3 (fun f:Atm=>.int .i64 f.kind) (fun f=>.int .i64 f.a) (fun f=>.int .i64 f.b) fs k hk
  refine ⟨g,cur,rfl,rfl,hb,hK,by rw[hs];exact Nat.mul_le_mul hn (Nat.le_refl _),(hP _ (by omega)).trans t0,(hP _ (by omega)).trans t1,(hP _ (by omega)).trans t2,?_⟩
  intro i u gs he hg
  refine ⟨?_,by rw[hg];exact hL⟩
  rw[he,hg]
  exact own_of_blk (hK.set_ i u) hb (by rw[List.length_set,hl]) (hP.setL i u (by rw[hs];exact Nat.mul_le_mul hn (Nat.le_refl _)) (by rw[hl];exact Nat.le_refl _)) hn hm (by simpa using hs)
theorem encF_setA {fs:List Fct} {k:Nat} (hk:k<fs.length) (v:Int):encF (fs.set k ⟨fs[k].eq,v,fs[k].b⟩)=(encF fs).set (k*3+1) (.int .i64 v):=by
 obtain ⟨t0,t1,t2⟩:=flat3 (fun f:Fct=>.bool f.eq) (fun f=>.int .i64 f.a) (fun f=>.int .i64 f.b) fs k hk
 rw[encF,flat3_set _ _ _ _ _ _ hk,set_same t0,set_same]
 rw[List.getElem?_set_ne (by omega)];exact t2
theorem encF_setB {fs:List Fct} {k:Nat} (hk:k<fs.length) (v:Int):encF (fs.set k ⟨fs[k].eq,fs[k].a,v⟩)=(encF fs).set (k*3+2) (.int .i64 v):=by
 obtain ⟨t0,t1,t2⟩:=flat3 (fun f:Fct=>.bool f.eq) (fun f=>.int .i64 f.a) (fun f=>.int .i64 f.b) fs k hk
 rw[encF,flat3_set _ _ _ _ _ _ hk,set_same t0,set_same t1]
theorem encA_setA {fs:List Atm} {k:Nat} (hk:k<fs.length) (v:Int):encA (fs.set k ⟨fs[k].kind,v,fs[k].b⟩)=(encA fs).set (k*3+1) (.int .i64 v):=by
 obtain ⟨t0,t1,t2⟩:=flat3 (fun f:Atm=>.int .i64 f.kind) (fun f=>.int .i64 f.a) (fun f=>.int .i64 f.b) fs k hk
 rw[encA,flat3_set _ _ _ _ _ _ hk,set_same t0,set_same]
 rw[List.getElem?_set_ne (by omega)];exact t2
theorem encA_setB {fs:List Atm} {k:Nat} (hk:k<fs.length) (v:Int):encA (fs.set k ⟨fs[k].kind,fs[k].a,v⟩)=(encA fs).set (k*3+2) (.int .i64 v):=by
 obtain ⟨t0,t1,t2⟩:=flat3 (fun f:Atm=>.int .i64 f.kind) (fun f=>.int .i64 f.a) (fun f=>.int .i64 f.b) fs k hk
 rw[encA,flat3_set _ _ _ _ _ _ hk,set_same t0,set_same t1]
theorem FactsO.setA {w:World} {base g n c k:Nat} {fs:List Fct} (h:FactsO w base (.slice (some ⟨g,0,none⟩) n c) fs) (hk:k<fs.length) (v:Int) {gs:List Fct} (hgs:gs=fs.set k ⟨fs[k].eq,v,fs[k].b⟩):FactsO (w.setCell ⟨g,k*3+1,none⟩ (.int .i64 v)) base (.slice (some ⟨g,0,none⟩) n c) gs:=by
 subst hgs
 obtain ⟨g',cur,-,e,-,-,-,-,-,-,hs⟩:=h.open_ hk
 simp only[Option.some.injEq,Addr.mk.injEq,and_true] at e
 subst e
 exact hs _ _ _ (encF_setA hk v) (by simp)
theorem FactsO.setB {w:World} {base g n c k:Nat} {fs:List Fct} (h:FactsO w base (.slice (some ⟨g,0,none⟩) n c) fs) (hk:k<fs.length) (v:Int) {gs:List Fct} (hgs:gs=fs.set k ⟨fs[k].eq,fs[k].a,v⟩):FactsO (w.setCell ⟨g,k*3+2,none⟩ (.int .i64 v)) base (.slice (some ⟨g,0,none⟩) n c) gs:=by
 subst hgs
 obtain ⟨g',cur,-,e,-,-,-,-,-,-,hs⟩:=h.open_ hk
 simp only[Option.some.injEq,Addr.mk.injEq,and_true] at e
 subst e
 exact hs _ _ _ (encF_setB hk v) (by simp)
theorem AtomsO.setA {w:World} {base g n c k:Nat} {fs:List Atm} (h:AtomsO w base (.slice (some ⟨g,0,none⟩) n c) fs) (hk:k<fs.length) (v:Int) {gs:List Atm} (hgs:gs=fs.set k ⟨fs[k].kind,v,fs[k].b⟩):AtomsO (w.setCell ⟨g,k*3+1,none⟩ (.int .i64 v)) base (.slice (some ⟨g,0,none⟩) n c) gs:=by
 subst hgs
 obtain ⟨g',cur,-,e,-,-,-,-,-,-,hs⟩:=h.open_ hk
 simp only[Option.some.injEq,Addr.mk.injEq,and_true] at e
 subst e
 exact hs _ _ _ (encA_setA hk v) (by simp)
theorem AtomsO.setB {w:World} {base g n c k:Nat} {fs:List Atm} (h:AtomsO w base (.slice (some ⟨g,0,none⟩) n c) fs) (hk:k<fs.length) (v:Int) {gs:List Atm} (hgs:gs=fs.set k ⟨fs[k].kind,fs[k].a,v⟩):AtomsO (w.setCell ⟨g,k*3+2,none⟩ (.int .i64 v)) base (.slice (some ⟨g,0,none⟩) n c) gs:=by
 subst hgs
 obtain ⟨g',cur,-,e,-,-,-,-,-,-,hs⟩:=h.open_ hk
 simp only[Option.some.injEq,Addr.mk.injEq,and_true] at e
 subst e
 exact hs _ _ _ (encA_setB hk v) (by simp)
theorem FactsV.one {w:World} {g:Nat} {f:Fct} (h:Blk w g tF #[.bool f.eq,.int .i64 f.a,.int .i64 f.b]):FactsV w g (g+1) (some ⟨g,0,none⟩) [f]:=
 ⟨⟨by simp,fun _=>⟨g,0,rfl,Nat.le_refl _,Nat.lt_succ_self _,fun j u hu=>by rw[Nat.zero_add,h.cell];simpa using hu⟩⟩,by simp[Lim]⟩
theorem AtomsV.one {w:World} {g:Nat} {f:Atm} (h:Blk w g tA #[.int .i64 f.kind,.int .i64 f.a,.int .i64 f.b]):AtomsV w g (g+1) (some ⟨g,0,none⟩) [f]:=
 ⟨⟨by simp,fun _=>⟨g,0,rfl,Nat.le_refl _,Nat.lt_succ_self _,fun j u hu=>by rw[Nat.zero_add,h.cell];simpa using hu⟩⟩,by simp[Lim]⟩
theorem FactsV.cl {w:World} {lo hi b o k:Nat} {fs:List Fct} (h:FactsV w lo hi (some ⟨b,o,none⟩) fs) (hk:k<fs.length):w.cell? ⟨b,o+k*3,none⟩=some (.bool fs[k].eq)∧w.cell? ⟨b,o+k*3+1,none⟩=some (.int .i64 fs[k].a)∧w.cell? ⟨b,o+k*3+2,none⟩=some (.int .i64 fs[k].b):=by
 obtain ⟨b',o',e,hc⟩:=h.at hk
 simp only[Option.some.injEq,Addr.mk.injEq,and_true] at e
 obtain ⟨rfl,rfl⟩:=e
 exact hc
theorem AtomsV.cl {w:World} {lo hi b o k:Nat} {fs:List Atm} (h:AtomsV w lo hi (some ⟨b,o,none⟩) fs) (hk:k<fs.length):w.cell? ⟨b,o+k*3,none⟩=some (.int .i64 fs[k].kind)∧w.cell? ⟨b,o+k*3+1,none⟩=some (.int .i64 fs[k].a)∧w.cell? ⟨b,o+k*3+2,none⟩=some (.int .i64 fs[k].b):=by
 obtain ⟨b',o',e,hc⟩:=h.at hk
 simp only[Option.some.injEq,Addr.mk.injEq,and_true] at e
 obtain ⟨rfl,rfl⟩:=e
 exact hc
theorem FactsV.blt {w:World} {lo hi k:Nat} {A:Option Addr} {fs:List Fct} (h:FactsV w lo hi A fs) (hk:k<fs.length):∃ b o,A=some ⟨b,o,none⟩∧b<w.heap.size:=by
 obtain ⟨b,o,e,hc,-⟩:=h.at hk
 exact ⟨b,o,e,block_lt_of_cell hc⟩
theorem AtomsV.blt {w:World} {lo hi k:Nat} {A:Option Addr} {fs:List Atm} (h:AtomsV w lo hi A fs) (hk:k<fs.length):∃ b o,A=some ⟨b,o,none⟩∧b<w.heap.size:=by
 obtain ⟨b,o,e,hc,-⟩:=h.at hk
 exact ⟨b,o,e,block_lt_of_cell hc⟩
theorem IntsV.blt {w:World} {lo hi k:Nat} {A:Option Addr} {fs:List Int} (h:IntsV w lo hi A fs) (hk:k<fs.length):∃ b o,A=some ⟨b,o,none⟩∧b<w.heap.size:=by
 obtain ⟨b,o,e,hc⟩:=h.at hk
 exact ⟨b,o,e,block_lt_of_cell hc⟩
theorem BoolsV.blt {w:World} {lo hi k:Nat} {A:Option Addr} {fs:List Bool} (h:BoolsV w lo hi A fs) (hk:k<fs.length):∃ b o,A=some ⟨b,o,none⟩∧b<w.heap.size:=by
 obtain ⟨b,o,e,hc⟩:=h.at hk
 exact ⟨b,o,e,block_lt_of_cell hc⟩
theorem own_ofBlk {w:World} {g base size:Nat} {t:TypeId} (h:Blk w g t #[]) (hb:base≤g):w.ownsRow base t size (.slice (some ⟨g,0,none⟩) 0 0) 0 []:=⟨by simp,.inr ⟨g,0,#[],rfl,hb,h,Nat.le_refl _,by decide,by simp,by simp⟩⟩
theorem FactsO.ofBlk {w:World} {g base:Nat} (h:Blk w g tF #[]) (hb:base≤g):FactsO w base (.slice (some ⟨g,0,none⟩) 0 0) []:=⟨own_ofBlk h hb,by simp[Lim]⟩
theorem AtomsO.ofBlk {w:World} {g base:Nat} (h:Blk w g tA #[]) (hb:base≤g):AtomsO w base (.slice (some ⟨g,0,none⟩) 0 0) []:=⟨own_ofBlk h hb,by simp[Lim]⟩
theorem IntsO.ofBlk {w:World} {g base:Nat} (h:Blk w g tI #[]) (hb:base≤g):IntsO w base (.slice (some ⟨g,0,none⟩) 0 0) []:=⟨own_ofBlk h hb,by simp[Lim]⟩
theorem Blk.grownO {w w':World} {g base size n:Nat} {t e:TypeId} {cs:Array Value} {v:Value} {xs:List Value} (h:Blk w g t cs) (ho:w.ownsRow base e size v n xs) (hg:w.grownBy w' v.ownBlock) (ht:t≠e):Blk w' g t cs:=by
 refine h.grown hg ?_
 intro he
 rcases ho.2 with ⟨rfl,_⟩|⟨k,cap,cur,rfl,_,hh,_⟩
 ·simp[Value.ownBlock] at he
 ·simp only[Value.ownBlock,Option.some.injEq] at he
  exact Blk.ne_ h hh ht he
theorem own_grownO {w w':World} {base base' size size' n n':Nat} {e e':TypeId} {v v':Value} {xs xs':List Value} (h:w.ownsRow base' e' size' v' n' xs') (ho:w.ownsRow base e size v n xs) (hg:w.grownBy w' v.ownBlock) (ht:e'≠e):w'.ownsRow base' e' size' v' n' xs':=by
 obtain ⟨h1,h2⟩:=h
 refine ⟨h1,?_⟩
 rcases h2 with h2|⟨k,cap,cur,hv,hk,hh,r⟩
 ·exact Or.inl h2
 ·exact Or.inr ⟨k,cap,cur,hv,hk,Blk.grownO hh ho hg ht,r⟩
theorem FactsO.grownA {w w':World} {b b':Nat} {v v':Value} {xs:List Fct} {ys:List Atm} (h:FactsO w b v xs) (ho:AtomsO w b' v' ys) (hg:w.grownBy w' v'.ownBlock):FactsO w' b v xs:=⟨own_grownO h.1 ho.1 hg (by decide),h.2⟩
theorem Rd.keepB {w w':World} {lo hi size n B:Nat} {A:Option Addr} {xs:List Value} (h:Rd w lo hi size A n xs) (hb:Below B w w') (hh:hi≤B):Rd w' lo hi size A n xs:=h.keep fun b _ h2=>hb.block b (by omega)
theorem FactsV.keepB {w w':World} {lo hi B:Nat} {A:Option Addr} {xs:List Fct} (h:FactsV w lo hi A xs) (hb:Below B w w') (hh:hi≤B):FactsV w' lo hi A xs:=Rd.keepB h hb hh
theorem AtomsV.keepB {w w':World} {lo hi B:Nat} {A:Option Addr} {xs:List Atm} (h:AtomsV w lo hi A xs) (hb:Below B w w') (hh:hi≤B):AtomsV w' lo hi A xs:=Rd.keepB h hb hh
theorem IntsV.keepB {w w':World} {lo hi B:Nat} {A:Option Addr} {xs:List Int} (h:IntsV w lo hi A xs) (hb:Below B w w') (hh:hi≤B):IntsV w' lo hi A xs:=Rd.keepB h hb hh
theorem BoolsV.keepB {w w':World} {lo hi B:Nat} {A:Option Addr} {xs:List Bool} (h:BoolsV w lo hi A xs) (hb:Below B w w') (hh:hi≤B):BoolsV w' lo hi A xs:=Rd.keepB h hb hh
set_option maxHeartbeats 800000 in
theorem c_heldFactS {lo hi:Nat} (A:Option Addr) (n c:Nat) (k:Int) (w:World) (h:FactsV w lo hi A (markF k n)) (h0:0≤k) (h1:k≤1099511627776):Calls Tryz.prog 71 #[.slice A n c,.int .i64 k] w fun e w'=>e=.returned (.int .i64 (k+3 * n))∧w=w':=by
 have hL:=h.le
 rw[markF_length] at hL
 go_enter Tryz.func71,Tryz.ntmps71
 go_wp2
 go_loop [1,5] (fun m i=>∃ (j:Nat),j≤n∧i=.int .i64 j∧m=.int .i64 (k+3 * j)) (fun _ i=>n - (intOf i).toNat)
 case atStart=>exact ⟨0,Nat.zero_le _,rfl,by simp⟩
 case round=>
  obtain ⟨j,hj,rfl,rfl⟩:=hrel
  by_cases hlt:j<n
  ·obtain ⟨b,off,rfl,c0,c1,c2⟩:=h.at (k:=j) (by rw[markF_length];exact hlt)
   rw[markF_get _ _ _ hlt] at c0 c1 c2
   dsimp only at c0 c1 c2
   go_wp2_with fail
   go_round
   case rel=>exact ⟨j+1,by omega,by go_num,by push_cast;congr 1;omega⟩
   case measure=>simp[intOf];omega
  ·obtain rfl:j=n:=by omega
   go_wp2
   go_ret
   exact ⟨rfl,rfl⟩
set_option maxHeartbeats 800000 in
theorem c_heldAtomS {lo hi:Nat} (A:Option Addr) (n c:Nat) (k:Int) (w:World) (h:AtomsV w lo hi A (markA k n)) (h0:0≤k) (h1:k≤1099511627776):Calls Tryz.prog 72 #[.slice A n c,.int .i64 k] w fun e w'=>e=.returned (.int .i64 (k+3 * n))∧w=w':=by
 have hL:=h.le
 rw[markA_length] at hL
 go_enter Tryz.func72,Tryz.ntmps72
 go_wp2
 go_loop [1,5] (fun m i=>∃ (j:Nat),j≤n∧i=.int .i64 j∧m=.int .i64 (k+3 * j)) (fun _ i=>n - (intOf i).toNat)
 case atStart=>exact ⟨0,Nat.zero_le _,rfl,by simp⟩
 case round=>
  obtain ⟨j,hj,rfl,rfl⟩:=hrel
  by_cases hlt:j<n
  ·obtain ⟨b,off,rfl,c0,c1,c2⟩:=h.at (k:=j) (by rw[markA_length];exact hlt)
   rw[markA_get _ _ _ hlt] at c0 c1 c2
   dsimp only at c0 c1 c2
   go_wp2_with fail
   go_round
   case rel=>exact ⟨j+1,by omega,by go_num,by push_cast;congr 1;omega⟩
   case measure=>simp[intOf];omega
  ·obtain rfl:j=n:=by omega
   go_wp2
   go_ret
   exact ⟨rfl,rfl⟩
set_option maxHeartbeats 800000 in
theorem c_heldAssertion {lo hi lo' hi':Nat} (A1 A2:Option Addr) (n m c1 c2:Nat) (k:Int) (w:World) (h1:FactsV w lo hi A1 (markF k n)) (h2:AtomsV w lo' hi' A2 (markA (k+3 * n) m)) (h0:0≤k) (hk:k≤549755813888) :
  Calls Tryz.prog 23 #[.agg #[.slice A1 n c1,.slice A2 m c2],.int .i64 k] w fun e w'=>e=.returned (.int .i64 (k+3 * n+3 * m))∧Below w.heap.size w w':=by
 have hL1:=h1.le
 have hL2:=h2.le
 rw[markF_length] at hL1
 rw[markA_length] at hL2
 go_enter Tryz.func23,Tryz.ntmps23
 go_wp2_with (first|(go_at_call 71;refine (c_heldFactS A1 n c1 k _ (h1.below bel) h0 (by omega)).mono ?_;rintro e w' ⟨rfl,rfl⟩)|(go_at_call 72;refine (c_heldAtomS A2 m c2 _ _ (h2.below bel) (by omega) (by omega)).mono ?_;rintro e w' ⟨rfl,rfl⟩))
 go_ret
 exact ⟨rfl,bel⟩
set_option maxHeartbeats 800000 in
theorem c_impl_copyAssertion {lo hi:Nat} (v:Value) (a:Asn) (w:World) (h:AsnV w lo hi v a):Calls Tryz.prog 129 #[v] w fun e w'=>∃ r,e=.returned r∧AsnO w' w.heap.size r a∧Below w.heap.size w w':=by
 obtain ⟨A1,c1,A2,c2,rfl,h1,h2⟩:=h
 have l1:=h1.le
 have l2:=h2.le
 go_enter Tryz.func129,Tryz.ntmps129
 have kk:=blk2 w 34 34 #[.slice A1 a.facts.length c1,.slice A2 a.atoms.length c2] #[.slice none 0 0,.slice none 0 0]
 have hB:Below w.heap.size w ((w.alloc (.cells #[.slice A1 a.facts.length c1,.slice A2 a.atoms.length c2] 34)).alloc (.cells #[.slice none 0 0,.slice none 0 0] 34)):=bel
 obtain ⟨k0,k1⟩:=kk
 go_wp2_with fail
 generalize (w.alloc (.cells #[.slice A1 a.facts.length c1,.slice A2 a.atoms.length c2] 34)).alloc (.cells #[.slice none 0 0,.slice none 0 0] 34)=W at k0 k1 hB ⊢
 go_region_held3 (fun w'=>(∀ i,w'.cell? ⟨w.heap.size,i,none⟩=#[.slice A1 a.facts.length c1,.slice A2 a.atoms.length c2][i]?))
  (exact Blk.cell blks)
  (first
   | (go_at_call 64;refine (c_joinF _ _ _ _ a.facts [] _ (h1.below bel) (Rd.nil _ 0 0 3 none) (by simp;omega)).mono ?_;rintro e w3 ⟨r3,rfl,o3,hB3⟩;have hBw3:=bgo (w:=w) bel hB3;have m0:=Blk.next (g:=w.heap.size) blks hB3;have m1:=Blk.next (g:=w.heap.size+1) blks hB3;have m1c:=m1.cell;have m1f:=m1.frozen;obtain ⟨R3,d3,rfl,-⟩:=o3.reads;(try have o4b:=(o4.below bel).below hB3))
   | (go_at_call 66;refine (c_joinA _ _ _ _ a.atoms [] _ (h2.below bel) (Rd.nil _ 0 0 3 none) (by simp;omega)).mono ?_;rintro e w4 ⟨r4,rfl,o4,hB4⟩;have hBw4:=bgo (w:=w) bel hB4;have m0:=Blk.next (g:=w.heap.size) blks hB4;have m1:=Blk.next (g:=w.heap.size+1) blks hB4;have m1c:=m1.cell;have m1f:=m1.frozen;obtain ⟨R4,d4,rfl,-⟩:=o4.reads;(try have o3b:=(o3.below bel).below hB4)))
 have o4b:=o4
 simp only[List.append_nil] at o3b o4b
 go_wp2_with fail
 refine bodyPost_ret (v:=.agg #[.slice R3 a.facts.length d3,.slice R4 a.atoms.length d4]) (by simp[results,Tryz.results129,go_sem,m1c]) rfl ⟨_,rfl,⟨_,_,rfl,?_,?_⟩,bel⟩
 ·exact ((o3b.setT m1 (by decide) _ _).setT (m1.set_ _ _) (by decide) _ _).lower hB.size
 ·exact ((o4b.setT m1 (by decide) _ _).setT (m1.set_ _ _) (by decide) _ _).lower (Nat.le_trans hB.size (Nat.le_trans (by simp) hB3.size))
end Go.Proofs.YtjjokmlmknllhaaGreat

/- Words for the exact laws: data that lie in blocks of an interval of their own. -/
namespace Go.Proofs.YtjjokmlmknllhaaGreat
open Go Go.RowKit Go.Proofs
def FactsI (w:World) (lo hi:Nat) (v:Value) (fs:List Fct):Prop:=FactsO w lo v fs∧Und v hi
def AtomsI (w:World) (lo hi:Nat) (v:Value) (fs:List Atm):Prop:=AtomsO w lo v fs∧Und v hi
def IntsI (w:World) (lo hi:Nat) (v:Value) (fs:List Int):Prop:=IntsO w lo v fs∧Und v hi
def AsnI (w:World) (lo hi:Nat) (v:Value) (a:Asn):Prop:=∃ fv av,v=.agg #[fv,av]∧FactsI w lo hi fv a.facts∧AtomsI w lo hi av a.atoms
section
variable {w w':World} {lo hi lo' hi' a b:Nat} {v:Value}
theorem und_range {w:World} {base:Nat} {e:TypeId} {size:Nat} {v:Value} {n:Nat} {xs:List Value} {hi:Nat} (h:w.ownsRow base e size v n xs) (hu:Und v hi):∀ g,v.ownBlock=some g→base≤g∧g<hi:=fun g hg=>⟨(h.lt g hg).1,hu g hg⟩
theorem FactsI.below {fs:List Fct} (h:FactsI w lo hi v fs) (hb:Below w.heap.size w w'):FactsI w' lo hi v fs:=⟨h.1.below hb,h.2⟩
theorem AtomsI.below {fs:List Atm} (h:AtomsI w lo hi v fs) (hb:Below w.heap.size w w'):AtomsI w' lo hi v fs:=⟨h.1.below hb,h.2⟩
theorem IntsI.below {fs:List Int} (h:IntsI w lo hi v fs) (hb:Below w.heap.size w w'):IntsI w' lo hi v fs:=⟨h.1.below hb,h.2⟩
theorem AsnI.below {x:Asn} (h:AsnI w lo hi v x) (hb:Below w.heap.size w w'):AsnI w' lo hi v x:=by
 obtain ⟨fv,av,e,h1,h2⟩:=h;exact ⟨fv,av,e,h1.below hb,h2.below hb⟩
theorem FactsI.mk {fs:List Fct} (h:FactsI w lo hi v fs) (hb:Mk (fun g=>a≤g∧g<b) w w') (hd:hi≤a∨b≤lo):FactsI w' lo hi v fs:=
 ⟨h.1.mk hb fun g hg hp=>by have:=und_range h.1.1 h.2 g hg;omega,h.2⟩
theorem AtomsI.mk {fs:List Atm} (h:AtomsI w lo hi v fs) (hb:Mk (fun g=>a≤g∧g<b) w w') (hd:hi≤a∨b≤lo):AtomsI w' lo hi v fs:=
 ⟨h.1.mk hb fun g hg hp=>by have:=und_range h.1.1 h.2 g hg;omega,h.2⟩
theorem IntsI.mk {fs:List Int} (h:IntsI w lo hi v fs) (hb:Mk (fun g=>a≤g∧g<b) w w') (hd:hi≤a∨b≤lo):IntsI w' lo hi v fs:=
 ⟨h.1.mk hb fun g hg hp=>by have:=und_range h.1.1 h.2 g hg;omega,h.2⟩
theorem AsnI.mk {x:Asn} (h:AsnI w lo hi v x) (hb:Mk (fun g=>a≤g∧g<b) w w') (hd:hi≤a∨b≤lo):AsnI w' lo hi v x:=by
 obtain ⟨fv,av,e,h1,h2⟩:=h;exact ⟨fv,av,e,h1.mk hb hd,h2.mk hb hd⟩
theorem FactsI.form {fs:List Fct} (h:FactsI w lo hi v fs):∃ A c,v=.slice A fs.length c:=by obtain ⟨A,c,e,-⟩:=h.1.reads;exact ⟨A,c,e⟩
theorem AtomsI.form {fs:List Atm} (h:AtomsI w lo hi v fs):∃ A c,v=.slice A fs.length c:=by obtain ⟨A,c,e,-⟩:=h.1.reads;exact ⟨A,c,e⟩
theorem IntsI.form {fs:List Int} (h:IntsI w lo hi v fs):∃ A c,v=.slice A fs.length c:=by obtain ⟨A,c,e,-⟩:=h.1.reads;exact ⟨A,c,e⟩
theorem AsnI.form {x:Asn} (h:AsnI w lo hi v x):∃ A c B d,v=.agg #[.slice A x.facts.length c,.slice B x.atoms.length d]:=by
 obtain ⟨fv,av,rfl,h1,h2⟩:=h
 obtain ⟨A,c,rfl⟩:=h1.form
 obtain ⟨B,d,rfl⟩:=h2.form
 exact ⟨A,c,B,d,rfl⟩
theorem IntsI.reads {A:Option Addr} {n c:Nat} {fs:List Int} (h:IntsI w lo hi (.slice A n c) fs):IntsV w lo w.heap.size A fs:=h.1.readsI.2
theorem AsnI.reads {x:Asn} (h:AsnI w lo hi v x):AsnV w lo w.heap.size v x:=by
 obtain ⟨fv,av,e,h1,h2⟩:=h;exact AsnO.reads ⟨fv,av,e,h1.1,h2.1⟩
theorem FactsO.I {fs:List Fct} (h:FactsO w lo v fs):FactsI w lo w.heap.size v fs:=⟨h,h.und⟩
theorem AtomsO.I {fs:List Atm} (h:AtomsO w lo v fs):AtomsI w lo w.heap.size v fs:=⟨h,h.und⟩
theorem IntsO.I {fs:List Int} (h:IntsO w lo v fs):IntsI w lo w.heap.size v fs:=⟨h,h.und⟩
theorem AsnO.I {x:Asn} (h:AsnO w lo v x):AsnI w lo w.heap.size v x:=by
 obtain ⟨fv,av,e,h1,h2⟩:=h;exact ⟨fv,av,e,h1.I,h2.I⟩
theorem AsnI.len {x:Asn} (h:AsnI w lo hi v x):x.facts.length≤1049600∧x.atoms.length≤1049600:=by
 obtain ⟨fv,av,e,h1,h2⟩:=h;exact ⟨h1.1.2,h2.1.2⟩
theorem IntsI.len {x:List Int} (h:IntsI w lo hi v x):x.length≤1049600:=h.1.2
theorem Mk.keepB {B:Nat} {w0:World} (h:Below B w0 w) (hm:Mk (fun g=>a≤g∧g<b) w w') (hB:B≤a) (hs:B≤w.heap.size):Below B w0 w':=
 h.trans (hm.below (fun k hk=>by omega) hs)
end
def FactT (_:World) (v:Value) (f:Fct):Prop:=v=f.val
theorem m_ints (v:Value) (xs:List Int) (k:Int) (lo hi:Nat) (w:World) (h:IntsI w lo hi v xs) (h0:0≤k) (h1:k≤549755813888):Calls Tryz.prog 22 #[v,.int .i64 k] w fun e w'=>e=.returned (.int .i64 (k+xs.length))∧IntsI w' lo hi v (iota k xs.length)∧Mk (fun g=>lo≤g∧g<hi) w w':=by
 refine (c_markIntS v xs k lo w h.1 h0 (by omega)).mono ?_
 rintro e w' ⟨rfl,h2,h3⟩
 exact ⟨rfl,⟨h2,h.2⟩,h3.mono fun g hg=>und_range h.1.1 h.2 g hg⟩
theorem m_asn (v:Value) (x:Asn) (k:Int) (lo hi:Nat) (w:World) (h:AsnI w lo hi v x) (h0:0≤k) (h1:k≤549755813888):Calls Tryz.prog 20 #[v,.int .i64 k] w fun e w'=>e=.returned (.int .i64 (k+3 * x.facts.length+3 * x.atoms.length))∧AsnI w' lo hi v (markAs k x)∧Mk (fun g=>lo≤g∧g<hi) w w':=by
 obtain ⟨fv,av,rfl,o1,o2⟩:=h
 refine (c_markAssertion _ x k lo hi w ⟨fv,av,rfl,o1.1,o2.1⟩ (fun fv' av' e=>by injection e with e;injection e with e;injection e with e1 e2;injection e2 with e2;subst e1;subst e2;exact ⟨o1.2,o2.2⟩) h0 h1).mono ?_
 rintro e w' ⟨rfl,⟨fv',av',e,p1,p2⟩,h3⟩
 injection e with e;injection e with e;injection e with e1 e2;injection e2 with e2;subst e1;subst e2
 exact ⟨rfl,⟨_,_,rfl,⟨p1,o1.2⟩,⟨p2,o2.2⟩⟩,h3⟩
theorem h_asn {lo hi:Nat} (A1 A2:Option Addr) (x:Asn) (c1 c2:Nat) (k:Int) (w:World) (h:AsnI w lo hi (.agg #[.slice A1 x.facts.length c1,.slice A2 x.atoms.length c2]) (markAs k x)) (h0:0≤k) (hk:k≤549755813888) :
  Calls Tryz.prog 23 #[.agg #[.slice A1 x.facts.length c1,.slice A2 x.atoms.length c2],.int .i64 k] w fun e w'=>e=.returned (.int .i64 (k+3 * x.facts.length+3 * x.atoms.length))∧Below w.heap.size w w':=by
 obtain ⟨fv,av,e,o1,o2⟩:=h
 injection e with e;injection e with e;injection e with e1 e2;injection e2 with e2;subst e1;subst e2
 exact c_heldAssertion A1 A2 _ _ c1 c2 k w o1.1.readsI.2 o2.1.readsI.2 h0 hk
theorem t_asn {lo hi lo' hi':Nat} (v v':Value) (x:Asn) (w:World) (h:AsnV w lo hi v x) (h':AsnV w lo' hi' v' x):Calls Tryz.prog 17 #[v,v'] w fun e w'=>e=.returned (.bool true)∧Below w.heap.size w w':=by
 refine (c_eqAssertion v v' x x w h h').mono ?_
 rintro e w' ⟨rfl,hB⟩
 exact ⟨by simp,hB⟩
theorem t_ints {lo hi lo' hi':Nat} (A A':Option Addr) (c c':Nat) (x:List Int) (w:World) (h:IntsV w lo hi A x) (h':IntsV w lo' hi' A' x):Calls Tryz.prog 19 #[.slice A x.length c,.slice A' x.length c'] w fun e w'=>e=.returned (.bool true)∧Below w.heap.size w w':=by
 refine (c_eqIntS A A' c c' x x w h h').mono ?_
 rintro e w' ⟨rfl,hB⟩
 exact ⟨by simp,hB⟩
theorem to_asn {lo hi:Nat} (v:Value) (x:Asn) (w:World) (h:AsnV w lo hi v x):Calls Tryz.prog 13 #[v] w fun e w'=>∃ r,e=.returned r∧AsnI w' w.heap.size w'.heap.size r x∧Below w.heap.size w w':=by
 refine (c_toAssertion v x w h).mono ?_
 rintro e w' ⟨r,rfl,o,hB⟩
 exact ⟨r,rfl,o.I,hB⟩
theorem to_ints {lo hi:Nat} (A:Option Addr) (c:Nat) (x:List Int) (w:World) (h:IntsV w lo hi A x):Calls Tryz.prog 15 #[.slice A x.length c] w fun e w'=>∃ r,e=.returned r∧IntsI w' w.heap.size w'.heap.size r x∧Below w.heap.size w w':=by
 refine (c_toIntS A c x w h).mono ?_
 rintro e w' ⟨r,rfl,o,hB⟩
 exact ⟨r,rfl,o.I,hB⟩
end Go.Proofs.YtjjokmlmknllhaaGreat

/- Words for the exact laws: contracts in blocks of their own. -/
namespace Go.Proofs.YtjjokmlmknllhaaGreat
open Go Go.RowKit Go.Proofs
def szC (k:Ctr) (left:Int):Int:=if szA k.pre left<0 then -1 else if szA k.post (szA k.pre left)<0 then -1 else szL k.changes.length (szA k.post (szA k.pre left))
set_option maxHeartbeats 800000 in
theorem c_szContract0 (A1 A2 A3 A4 A5:Option Addr) (c1 c2 c3 c4 c5:Nat) (k:Ctr) (w:World) (h1:k.pre.facts.length≤9223372036854775807) (h2:k.pre.atoms.length≤9223372036854775807) (h3:k.post.facts.length≤9223372036854775807) (h4:k.post.atoms.length≤9223372036854775807) (h5:k.changes.length≤9223372036854775807) (left:Int) (h0:0≤left) (hl:left≤1048576) :
  Calls Tryz.prog 11 #[.agg #[.slice A1 k.pre.facts.length c1,.slice A2 k.pre.atoms.length c2,.slice A3 k.post.facts.length c3,.slice A4 k.post.atoms.length c4,.slice A5 k.changes.length c5],.int .i64 left] w fun e w'=>e=.returned (.int .i64 (szC k left))∧Below w.heap.size w w':=by
 have hH:Hid (szC k left=if szA k.pre left<0 then -1 else if szA k.post (szA k.pre left)<0 then -1 else szL k.changes.length (szA k.post (szA k.pre left))):=rfl
 by_cases g1:szA k.pre left<0
 ·go_enter Tryz.func11,Tryz.ntmps11
  go_wp2_with (go_at_call 10;refine (c_szAssertion _ _ _ _ _ _ _ h1 h2 h0 hl).mono ?_;rintro e w1 ⟨rfl,hB1⟩;have hq:=(Blk.next (Blk.new _ _ _) hB1).cell)
  go_ret
  exact ⟨ret_int (by rw[hH.out,if_pos g1]),bgo (w:=w) bel hB1⟩
 ·have e1:0≤szA k.pre left∧szA k.pre left≤left:=by have:=szA_le g1;omega
  by_cases g2:szA k.post (szA k.pre left)<0
  ·go_enter Tryz.func11,Tryz.ntmps11
   go_wp2_with fail
   refine (c_szAssertion _ _ _ _ k.pre _ _ h1 h2 h0 hl).mono ?_;rintro e w1 ⟨rfl,hB1⟩
   have hB:=bgo (w:=w) bel hB1
   have hq:=(Blk.next (Blk.new _ _ _) hB1).cell
   go_wp2_with fail
   refine (c_szAssertion _ _ _ _ k.post _ _ h3 h4 (by omega) (by omega)).mono ?_;rintro e w2 ⟨rfl,hB2⟩
   go_wp2_with fail
   go_ret
   exact ⟨ret_int (by rw[hH.out,if_neg (by omega),if_pos g2]),bgo hB hB2⟩
  ·have e2:0≤szA k.post (szA k.pre left)∧szA k.post (szA k.pre left)≤left:=by have:=szA_le g2;omega
   by_cases g3:szL k.changes.length (szA k.post (szA k.pre left))<0
   all_goals
    go_enter Tryz.func11,Tryz.ntmps11
    go_wp2_with fail
    refine (c_szAssertion _ _ _ _ k.pre _ _ h1 h2 h0 hl).mono ?_;rintro e w1 ⟨rfl,hB1⟩
    have hB:=bgo (w:=w) bel hB1
    have hk:=Blk.next (Blk.new _ _ _) hB1
    have hq:=hk.cell
    go_wp2_with fail
    refine (c_szAssertion _ _ _ _ k.post _ _ h3 h4 (by omega) (by omega)).mono ?_;rintro e w2 ⟨rfl,hB2⟩
    have hq2:=(hk.next hB2).cell
    have hB3:=bgo hB hB2
    go_wp2_with fail
    refine (c_szIntS _ _ _ _ _ h5 (by omega) (by omega)).mono ?_;rintro e w3 ⟨rfl,rfl⟩
    go_wp2_with fail
    go_ret
   ·exact ⟨ret_int (by rw[hH.out,if_neg (by omega),if_neg (by omega),szL_neg g3]),hB3⟩
   ·exact ⟨ret_int (by rw[hH.out,if_neg (by omega),if_neg (by omega)]),hB3⟩
theorem c_szContract {w0:World} (v:Value) (k:Ctr) (left:Int) (w:World) (h:CtrR w0 v k) (h0:0≤left) (hl:left≤1048576) :
  Calls Tryz.prog 11 #[v,.int .i64 left] w fun e w'=>e=.returned (.int .i64 (szC k left))∧Below w.heap.size w w':=by
 obtain ⟨A1,c1,A2,c2,A3,c3,A4,c4,A5,c5,rfl,h1,h2,h3,h4,h5⟩:=h
 exact c_szContract0 _ _ _ _ _ _ _ _ _ _ k _ h1.2 h2.2 h3.2 h4.2 h5.2 _ h0 hl
theorem szC_le {k:Ctr} {left:Int} (h:¬szC k left<0):0≤szC k left∧szC k left=left - k.pre.facts.length - k.pre.atoms.length - k.post.facts.length - k.post.atoms.length - k.changes.length∧0≤left:=by
 unfold szC at h ⊢
 split at h
 ·omega
 ·rename_i h1
  split at h
  ·omega
  ·rename_i h2
   have e1:=szA_le h1
   have e2:=szA_le h2
   have e3:=szL_le h
   rw[if_neg h1,if_neg h2]
   omega
def CtrI (w:World) (lo hi:Nat) (v:Value) (k:Ctr):Prop:=
 ∃ a1 a2 a3 a4 iv l1 h1 l2 h2,v=.agg #[a1,a2,a3,a4,iv]∧AsnI w l1 h1 (.agg #[a1,a2]) k.pre∧AsnI w l2 h2 (.agg #[a3,a4]) k.post∧IntsI w lo hi iv k.changes∧
  hi≤w.heap.size∧lo≤l1∧h1≤hi∧lo≤l2∧h2≤hi∧(h1≤l2∨h2≤l1)
def ctr0:Ctr:=⟨⟨[],[]⟩,⟨[],[]⟩,[]⟩
theorem ne_types {w:World} {b b':Nat} {t t':TypeId} {n n' s s':Nat} {v v':Value} {xs ys:List Value} (h:w.ownsRow b t s v n xs) (h':w.ownsRow b' t' s' v' n' ys) (ht:t≠t') (g:Nat) (hg:v.ownBlock=some g):v'.ownBlock≠some g:=by
 intro hg'
 obtain ⟨_,h2⟩:=h
 obtain ⟨_,h2'⟩:=h'
 rcases h2 with ⟨rfl,_⟩|⟨k,cap,cur,rfl,_,hh,_⟩
 ·simp[Value.ownBlock] at hg
 rcases h2' with ⟨rfl,_⟩|⟨k',cap',cur',rfl,_,hh',_⟩
 ·simp[Value.ownBlock] at hg'
 simp only[Value.ownBlock,Option.some.injEq] at hg hg'
 subst hg
 subst hg'
 exact Blk.ne_ (w:=w) hh hh' ht rfl
section
variable {w w':World} {lo hi lo' hi' a b:Nat} {v:Value}
theorem z1f {fv av:Value} {x:Asn} (h:AsnO w lo (.agg #[fv,av]) x):FactsO w lo fv x.facts:=by
 obtain ⟨fv',av',e,h1,h2⟩:=h
 injection e with e;injection e with e;injection e with e1 e2;injection e2 with e2;subst e1;subst e2
 exact h1
theorem z1a {fv av:Value} {x:Asn} (h:AsnO w lo (.agg #[fv,av]) x):AtomsO w lo av x.atoms:=by
 obtain ⟨fv',av',e,h1,h2⟩:=h
 injection e with e;injection e with e;injection e with e1 e2;injection e2 with e2;subst e1;subst e2
 exact h2
theorem undA {fv av:Value} {x:Asn} (h:AsnO w lo (.agg #[fv,av]) x):Und fv w.heap.size∧Und av w.heap.size:=⟨(z1f h).und,(z1a h).und⟩
theorem CtrI.I {k:Ctr} (h:CtrI w lo hi v k):CtrI w lo hi v k:=h
theorem CtrI.below {k:Ctr} (h:CtrI w lo hi v k) (hb:Below w.heap.size w w'):CtrI w' lo hi v k:=by
 obtain ⟨a1,a2,a3,a4,iv,l1,h1,l2,h2,e,p1,p2,p3,q⟩:=h
 have:=hb.size
 exact ⟨a1,a2,a3,a4,iv,l1,h1,l2,h2,e,p1.below hb,p2.below hb,p3.below hb,by omega⟩
theorem CtrI.mk {k:Ctr} (h:CtrI w lo hi v k) (hb:Mk (fun g=>a≤g∧g<b) w w') (hd:hi≤a∨b≤lo):CtrI w' lo hi v k:=by
 obtain ⟨a1,a2,a3,a4,iv,l1,h1,l2,h2,e,p1,p2,p3,q⟩:=h
 have:=hb.size
 exact ⟨a1,a2,a3,a4,iv,l1,h1,l2,h2,e,p1.mk hb (by omega),p2.mk hb (by omega),p3.mk hb (by omega),by omega⟩
theorem CtrI.up {k:Ctr} (h:CtrI w lo hi v k):CtrI w lo w.heap.size v k:=by
 obtain ⟨a1,a2,a3,a4,iv,l1,h1,l2,h2,e,p1,p2,p3,q⟩:=h
 exact ⟨a1,a2,a3,a4,iv,l1,h1,l2,h2,e,p1,p2,⟨p3.1,fun g hg=>by have:=p3.2 g hg;omega⟩,by omega⟩
theorem ctr_intro {a1 a2 a3 a4 iv:Value} {x:Ctr} {b1 b2 b3 u1 u2:Nat} (p1:AsnO w b1 (.agg #[a1,a2]) x.pre) (U1:Und a1 u1∧Und a2 u1) (p2:AsnO w b2 (.agg #[a3,a4]) x.post) (U2:Und a3 u2∧Und a4 u2)
  (p3:IntsO w b3 iv x.changes) (U3:Und iv hi) (hq:lo≤b1∧lo≤b2∧lo≤b3∧u1≤hi∧u2≤hi∧(u1≤b2∨u2≤b1)) (hs:hi≤w.heap.size):CtrI w lo hi (.agg #[a1,a2,a3,a4,iv]) x:=
 ⟨a1,a2,a3,a4,iv,b1,u1,b2,u2,rfl,⟨_,_,rfl,⟨z1f p1,U1.1⟩,⟨z1a p1,U1.2⟩⟩,⟨_,_,rfl,⟨z1f p2,U2.1⟩,⟨z1a p2,U2.2⟩⟩,⟨p3.lower (by omega),U3⟩,by omega⟩
theorem CtrI.form {k:Ctr} (h:CtrI w lo hi v k):∃ A c B d E e F f G g,v=.agg #[.slice A k.pre.facts.length c,.slice B k.pre.atoms.length d,.slice E k.post.facts.length e,.slice F k.post.atoms.length f,.slice G k.changes.length g]:=by
 obtain ⟨a1,a2,a3,a4,iv,l1,h1,l2,h2,e,p1,p2,p3,q⟩:=h
 obtain ⟨A,c,B,d,e1⟩:=p1.form
 obtain ⟨E,e',F,f,e2⟩:=p2.form
 obtain ⟨G,g,e3⟩:=p3.form
 simp only[Value.agg.injEq,Array.mk.injEq,List.cons.injEq,and_true] at e1 e2
 obtain ⟨rfl,rfl⟩:=e1
 obtain ⟨rfl,rfl⟩:=e2
 subst e3
 exact ⟨A,c,B,d,E,e',F,f,G,g,e⟩
theorem CtrI.reads {k:Ctr} (h:CtrI w lo hi v k):CtrV w lo w.heap.size v k:=by
 obtain ⟨a1,a2,a3,a4,iv,l1,h1,l2,h2,e,p1,p2,p3,q⟩:=h
 obtain ⟨G,g,rfl⟩:=p3.form
 exact ⟨a1,a2,a3,a4,G,g,e,p1.reads.mono (by omega) (Nat.le_refl _),p2.reads.mono (by omega) (Nat.le_refl _),p3.reads.mono (by omega) (Nat.le_refl _)⟩
theorem CtrI.len {k:Ctr} (h:CtrI w lo hi v k):k.pre.facts.length≤1049600∧k.pre.atoms.length≤1049600∧k.post.facts.length≤1049600∧k.post.atoms.length≤1049600∧k.changes.length≤1049600:=by
 obtain ⟨a1,a2,a3,a4,iv,l1,h1,l2,h2,e,p1,p2,p3,q⟩:=h
 have:=p1.len
 have:=p2.len
 have:=p3.len
 omega
theorem CtrI.zero (h1:lo≤hi) (h2:hi≤w.heap.size):CtrI w lo hi (.agg #[.slice none 0 0,.slice none 0 0,.slice none 0 0,.slice none 0 0,.slice none 0 0]) ctr0:=by
 have u:Und (.slice none 0 0) lo:=fun g h=>by cases h
 exact ⟨_,_,_,_,_,lo,lo,lo,lo,rfl,⟨_,_,rfl,⟨FactsO.nil _ _,u⟩,⟨AtomsO.nil _ _,u⟩⟩,⟨_,_,rfl,⟨FactsO.nil _ _,u⟩,⟨AtomsO.nil _ _,u⟩⟩,⟨⟨World.ownsRow_nil _ _ _ _,by simp[Lim,ctr0]⟩,fun g h=>by cases h⟩,by omega⟩
end
set_option maxHeartbeats 3200000 in
theorem to_ctr {lo hi:Nat} (v:Value) (a:Ctr) (w:World) (h:CtrV w lo hi v a):Calls Tryz.prog 14 #[v] w fun e w'=>∃ r,e=.returned r∧CtrI w' w.heap.size w'.heap.size r a∧Below w.heap.size w w':=by
 obtain ⟨a1,a2,a3,a4,A5,c5,rfl,h1,h2,h3⟩:=h
 go_enter Tryz.func14,Tryz.ntmps14
 go_wp2_with fail
 refine (c_toAssertion _ a.pre _ (h1.below bel)).mono ?_
 rintro e w1 ⟨v1,rfl,ho1,hB1⟩
 obtain ⟨F1,d1,F2,d2,rfl,-,-⟩:=ho1.reads
 have U1:=undA ho1
 have hz1:=hB1.size
 have hB:=bgo (w:=w) bel hB1
 have k0:=(((Blk.new w _ _).alloc _).alloc _).next hB1
 have k1:=((Blk.new (w.alloc _) _ _).alloc _).next hB1
 have k2:=(Blk.new ((w.alloc _).alloc _) _ _).next hB1
 simp only[World.size_alloc] at k1 k2 ho1 hz1
 have q0:=k0.cell
 have q2:=k2.cell
 have r2:=k2.frozen
 go_wp2_with fail
 clear q0 q2 r2
 refine (c_toAssertion _ a.post _ (h2.below bel)).mono ?_
 rintro e w2 ⟨v2,rfl,ho2,hB2⟩
 obtain ⟨F3,d3,F4,d4,rfl,-,-⟩:=ho2.reads
 have U2:=undA ho2
 have hz2:=hB2.size
 simp only[World.size_setCell] at hz2
 have m0:=Blk.next (g:=w.heap.size) blks hB2
 have m1:=Blk.next (g:=w.heap.size+1) blks hB2
 have m2:=Blk.next (g:=w.heap.size+1+1) blks hB2
 have x1:=ho1.abv (lo:=w.heap.size+1+1+1) (Abv.next abv_ hB2) (Nat.le_refl _)
 have hBw2:=bgo (w:=w) bel hB2
 clear k0 k1 k2 ho1
 have q0:=m0.cell
 have q2:=m2.cell
 have r2:=m2.frozen
 go_wp2_with fail
 clear q0 q2 r2
 refine (c_toIntS A5 c5 a.changes _ (h3.below bel)).mono ?_
 rintro e w3 ⟨v3,rfl,ho3,hB3⟩
 obtain ⟨F5,d5,rfl,-⟩:=ho3.reads
 have U3:=ho3.und
 have hz3:=hB3.size
 simp only[World.size_setCell] at hz3 ho2 ho3
 have n1:=Blk.next (g:=w.heap.size+1) blks hB3
 have n2:=Blk.next (g:=w.heap.size+1+1) blks hB3
 have y1:=x1.abv (lo:=w.heap.size+1+1+1) (Abv.next abv_ hB3) (Nat.le_refl _)
 have y2:=ho2.abv (lo:=w.heap.size+1+1+1) (Abv.next abv_ hB3) (by omega)
 have hBw3:=bgo (w:=w) bel hB3
 clear m0 m1 m2
 have q1:=n1.cell
 have r1:=n1.frozen
 have q2:=n2.cell
 have r2:=n2.frozen
 go_wp2_with fail
 refine bodyPost_ret (v:=.agg #[.slice F1 a.pre.facts.length d1,.slice F2 a.pre.atoms.length d2,.slice F3 a.post.facts.length d3,.slice F4 a.post.atoms.length d4,.slice F5 a.changes.length d5]) (by simp[results,Tryz.results14,go_sem,q1]) rfl ⟨_,rfl,?_,bel⟩
 clear q1 r1 q2 r2
 refine CtrI.up (hi:=w3.heap.size) (ctr_intro (y1.abv (lo:=w.heap.size+1+1+1) abv_ (Nat.le_refl _)) U1 (y2.abv (lo:=w.heap.size+1+1+1) abv_ (by omega)) U2 (ho3.abv (lo:=w.heap.size+1+1+1) abv_ (by omega)) U3 ?_ ?_)
 ·omega
 ·simp
theorem t_ctr {lo hi lo' hi':Nat} (v v':Value) (x:Ctr) (w:World) (h:CtrV w lo hi v x) (h':CtrV w lo' hi' v' x):Calls Tryz.prog 18 #[v,v'] w fun e w'=>e=.returned (.bool true)∧Below w.heap.size w w':=c_eqContract v v' x w h h'
def markCtr (k:Int) (x:Ctr):Ctr:=⟨markAs k x.pre,markAs (k+3 * x.pre.facts.length+3 * x.pre.atoms.length) x.post,iota (k+3 * x.pre.facts.length+3 * x.pre.atoms.length+3 * x.post.facts.length+3 * x.post.atoms.length) x.changes.length⟩
set_option maxHeartbeats 800000 in
theorem m_asn2 (fv av:Value) (s:Asn) (k:Int) (lo hi:Nat) (w:World) (h:AsnI w lo hi (.agg #[fv,av]) s) (h0:0≤k) (h1:k≤549755813888):Calls Tryz.prog 20 #[.agg #[fv,av],.int .i64 k] w fun e w'=>e=.returned (.int .i64 (k+3 * s.facts.length+3 * s.atoms.length))∧AsnI w' lo hi (.agg #[fv,av]) (markAs k s)∧Mk (fun g=>fv.ownBlock=some g∨av.ownBlock=some g) w w':=by
 obtain ⟨fv',av',e,⟨o1,u1⟩,⟨o2,u2⟩⟩:=h
 injection e with e;injection e with e;injection e with e1 e2;injection e2 with e2;subst e1;subst e2
 have hd:=o1.ne_atoms o2
 have L1:s.facts.length≤1049600:=o1.2
 obtain ⟨F1,d1,e1,-⟩:=o1.reads
 obtain ⟨F2,d2,e2,-⟩:=o2.reads
 have o1b:=o1.below (w':=w.alloc (.cells #[fv,av] 34)) bel
 have o2b:=o2.below (w':=w.alloc (.cells #[fv,av] 34)) bel
 subst e1
 subst e2
 go_enter Tryz.func20,Tryz.ntmps20
 go_wp2_with fail
 refine (c_markFactS _ s.facts k lo _ o1b h0 (by omega)).mono ?_
 rintro e w1 ⟨rfl,p1,hM1⟩
 have k0:=hM1.blk (Blk.new w _ _) (fun e=>by have:=o1.und _ e;omega)
 have q0:=k0.cell
 have o2c:=o2b.mk hM1 (fun g e1 e2=>hd g e2 e1)
 have hM1':=(Mk.below_ (p:=fun g=>(Value.slice F1 s.facts.length d1).ownBlock=some g∨(Value.slice F2 s.atoms.length d2).ownBlock=some g) (w:=w) bel).trans (hM1.mono fun g e=>Or.inl e)
 clear hM1
 go_wp2_with fail
 refine (c_markAtomS _ s.atoms _ lo _ o2c (by omega) (by omega)).mono ?_
 rintro e w2 ⟨rfl,p2,hM2⟩
 have p1c:=p1.mk hM2 (fun g e1 e2=>hd g e1 e2)
 have hM2':=hM1'.trans (hM2.mono fun g e=>Or.inr e)
 go_wp2_with fail
 go_ret
 exact ⟨rfl,⟨_,_,rfl,⟨by simpa [markAs,markF_length] using p1c,u1⟩,⟨p2,u2⟩⟩,hM2'⟩
theorem AsnI.mk2 {p:Nat→Prop} {w w':World} {lo hi:Nat} {fv av:Value} {x:Asn} (h:AsnI w lo hi (.agg #[fv,av]) x) (hb:Mk p w w') (hd:∀ g,(fv.ownBlock=some g∨av.ownBlock=some g)→¬p g):AsnI w' lo hi (.agg #[fv,av]) x:=by
 obtain ⟨fv',av',e,⟨o1,u1⟩,⟨o2,u2⟩⟩:=h
 injection e with e;injection e with e;injection e with e1 e2;injection e2 with e2;subst e1;subst e2
 exact ⟨_,_,rfl,⟨o1.mk hb fun g hg=>hd g (Or.inl hg),u1⟩,⟨o2.mk hb fun g hg=>hd g (Or.inr hg),u2⟩⟩
theorem AsnI.own {w:World} {lo hi:Nat} {fv av:Value} {x:Asn} (h:AsnI w lo hi (.agg #[fv,av]) x) (g:Nat) (hg:fv.ownBlock=some g∨av.ownBlock=some g):lo≤g∧g<hi∧g<w.heap.size:=by
 obtain ⟨fv',av',e,⟨o1,u1⟩,⟨o2,u2⟩⟩:=h
 injection e with e;injection e with e;injection e with e1 e2;injection e2 with e2;subst e1;subst e2
 rcases hg with hg|hg
 ·have:=(o1.1.lt g hg);have:=u1 g hg;omega
 ·have:=(o2.1.lt g hg);have:=u2 g hg;omega
theorem AsnI.ne_ints {w:World} {lo hi b:Nat} {fv av iv:Value} {x:Asn} {xs:List Int} (h:AsnI w lo hi (.agg #[fv,av]) x) (h':IntsO w b iv xs) (g:Nat) (hg:fv.ownBlock=some g∨av.ownBlock=some g):iv.ownBlock≠some g:=by
 obtain ⟨fv',av',e,⟨o1,u1⟩,⟨o2,u2⟩⟩:=h
 injection e with e;injection e with e;injection e with e1 e2;injection e2 with e2;subst e1;subst e2
 rcases hg with hg|hg
 ·exact ne_types o1.1 h'.1 (by decide) g hg
 ·exact ne_types o2.1 h'.1 (by decide) g hg
set_option maxHeartbeats 800000 in
theorem m_ctr (v:Value) (x:Ctr) (k:Int) (lo hi:Nat) (w:World) (h:CtrI w lo hi v x) (h0:0≤k) (h1:k≤274877906944):Calls Tryz.prog 21 #[v,.int .i64 k] w fun e w'=>e=.returned (.int .i64 (k+3 * x.pre.facts.length+3 * x.pre.atoms.length+3 * x.post.facts.length+3 * x.post.atoms.length+x.changes.length))∧CtrI w' lo hi v (markCtr k x)∧Mk (fun g=>lo≤g∧g<hi) w w':=by
 have L:=h.len
 obtain ⟨a1,a2,a3,a4,iv,l1,u1,l2,u2,rfl,p1,p2,p3,q⟩:=h
 have ni1:=p1.ne_ints p3.1
 have ni2:=p2.ne_ints p3.1
 have w1:=p1.own
 have w2:=p2.own
 have w3:∀ g,iv.ownBlock=some g→lo≤g∧g<hi:=fun g hg=>⟨(p3.1.1.lt g hg).1,p3.2 g hg⟩
 replace p1:=p1.below (w':=w.alloc (.cells #[a1,a2,a3,a4,iv] 39)) bel
 replace p2:=p2.below (w':=w.alloc (.cells #[a1,a2,a3,a4,iv] 39)) bel
 replace p3:=p3.below (w':=w.alloc (.cells #[a1,a2,a3,a4,iv] 39)) bel
 go_enter Tryz.func21,Tryz.ntmps21
 go_wp2_with fail
 refine (m_asn2 _ _ x.pre k l1 u1 _ p1 h0 (by omega)).mono ?_
 rintro e v1 ⟨rfl,p1m,hM1⟩
 have k0:=hM1.blk (Blk.new w _ _) (fun e=>by have:=w1 _ e;omega)
 replace p2:=p2.mk2 hM1 (fun g e1 e2=>by have:=w2 g e1;have:=w1 g e2;omega)
 replace p3:IntsI v1 lo hi iv x.changes:=⟨p3.1.mk hM1 (fun g e1 e2=>ni1 g e2 e1),p3.2⟩
 have hM:Mk (fun g=>lo≤g∧g<hi) w v1:=(Mk.below_ (p:=fun g=>lo≤g∧g<hi) (w:=w) bel).trans (hM1.mono fun g e=>by have:=w1 g e;omega)
 clear hM1
 have q0:=k0.cell
 go_wp2_with fail
 refine (m_asn2 _ _ x.post _ l2 u2 _ p2 (by omega) (by omega)).mono ?_
 rintro e v2 ⟨rfl,p2m,hM2⟩
 replace k0:=hM2.blk k0 (fun e=>by have:=w2 _ e;omega)
 replace p1m:=p1m.mk2 hM2 (fun g e1 e2=>by have:=w1 g e1;have:=w2 g e2;omega)
 replace p3:IntsI v2 lo hi iv x.changes:=⟨p3.1.mk hM2 (fun g e1 e2=>ni2 g e2 e1),p3.2⟩
 replace hM:=hM.trans (hM2.mono fun g e=>by have:=w2 g e;omega)
 clear hM2 q0
 have q0:=k0.cell
 go_wp2_with fail
 refine (c_markIntS _ x.changes _ lo _ p3.1 (by omega) (by omega)).mono ?_
 rintro e v3 ⟨rfl,p3m,hM3⟩
 replace p1m:=p1m.mk2 hM3 (fun g e1 e2=>ni1 g e1 e2)
 replace p2m:=p2m.mk2 hM3 (fun g e1 e2=>ni2 g e1 e2)
 replace hM:=hM.trans (hM3.mono fun g e=>w3 g e)
 have hz:=hM.size
 have p3u:=p3.2
 go_wp2_with fail
 go_ret
 exact ⟨rfl,⟨_,_,_,_,_,l1,u1,l2,u2,rfl,p1m,p2m,⟨p3m,p3u⟩,by omega⟩,hM⟩
end Go.Proofs.YtjjokmlmknllhaaGreat

/- The spec's joined assertions. -/
namespace Go.Proofs.YtjjokmlmknllhaaGreat
open Go Go.RowKit Go.Proofs
attribute [local go_sem ↓] Go.wp_at_zero Go.wp_at_succ
set_option maxRecDepth 100000 in
set_option maxHeartbeats 1600000 in
theorem c_spec_l3Star {lo hi lo' hi':Nat} (v v':Value) (a b:Asn) (w:World) (h:AsnV w lo hi v a) (h':AsnV w lo' hi' v' b) (hn1:a.facts.length+b.facts.length≤1049600) (hn2:a.atoms.length+b.atoms.length≤1049600) :
  Calls Tryz.prog 57 #[v,v'] w fun e w'=>∃ r,e=.returned r∧AsnO w' w.heap.size r (starA a b)∧Below w.heap.size w w':=by
 obtain ⟨A1,c1,A2,c2,rfl,h1,h2⟩:=h
 obtain ⟨A3,c3,A4,c4,rfl,h3,h4⟩:=h'
 go_enter Tryz.func57,Tryz.ntmps57
 have kk:=blk3 w 34 34 34 #[.slice A1 a.facts.length c1,.slice A2 a.atoms.length c2] #[.slice A3 b.facts.length c3,.slice A4 b.atoms.length c4] #[.slice none 0 0,.slice none 0 0]
 have hB:Below w.heap.size w (((w.alloc (.cells #[.slice A1 a.facts.length c1,.slice A2 a.atoms.length c2] 34)).alloc (.cells #[.slice A3 b.facts.length c3,.slice A4 b.atoms.length c4] 34)).alloc (.cells #[.slice none 0 0,.slice none 0 0] 34)):=bel
 obtain ⟨k0,k1,k2⟩:=kk
 go_wp2_with fail
 have hz:=k2.lt
 generalize (((w.alloc (.cells #[.slice A1 a.facts.length c1,.slice A2 a.atoms.length c2] 34)).alloc (.cells #[.slice A3 b.facts.length c3,.slice A4 b.atoms.length c4] 34)).alloc (.cells #[.slice none 0 0,.slice none 0 0] 34))=W at k0 k1 k2 hB hz ⊢
 have tok3:True:=trivial
 have tok6:True:=trivial
 have tok10:True:=trivial
 have tok13:True:=trivial
 go_region_held3 (fun w'=>(∀ i,w'.cell? ⟨w.heap.size,i,none⟩=#[.slice A1 a.facts.length c1,.slice A2 a.atoms.length c2][i]?)∧(∀ i,w'.cell? ⟨w.heap.size+1,i,none⟩=#[.slice A3 b.facts.length c3,.slice A4 b.atoms.length c4][i]?))
  (exact ⟨Blk.cell blks,Blk.cell blks⟩)
  (first
   | (have _t:=tok3;clear _t tok3;refine stepFL (xs:=[]) rfl _ _ rfl rfl (FactsO.ofBlk (base:=w.heap.size) blks (by first|omega|(simp;omega))) rfl (h1.below bel) (by first|omega|(simp;omega)) (by first|omega|(simp;omega)) ?_;intro F1 e1 w1 hO1 hg1 hB1;have hBw1:Below w.heap.size w w1:=Below.trans bel hB1;simp only[List.nil_append] at hO1;have m10:=Blk.grownO (g:=w.heap.size) (hg:=hg1) blks (FactsO.ofBlk (base:=w.heap.size) blks (by first|omega|(simp;omega))).1 (by decide);have m11:=Blk.grownO (g:=w.heap.size+1) (hg:=hg1) blks (FactsO.ofBlk (base:=w.heap.size) blks (by first|omega|(simp;omega))).1 (by decide);have m12:=Blk.grownO (g:=w.heap.size+1+1) (hg:=hg1) blks (FactsO.ofBlk (base:=w.heap.size) blks (by first|omega|(simp;omega))).1 (by decide);have lt1:=m12.lt;(try (have za:Blk w1 (W.heap.size+1) tA #[]:=?zz;case zz=>(refine Blk.grownO (hg:=hg1) ?_ (FactsO.ofBlk (base:=w.heap.size) blks (by first|omega|(simp;omega))).1 (by decide);(repeat (first|(with_reducible assumption)|(with_reducible exact Blk.new _ _ _)|((with_reducible apply Blk.far);(case hp=>(first|exact Nat.le_refl _|(simp;done)|(simp;omega)|(simp only;omega)|omega)))|(with_reducible apply Blk.set_)|((with_reducible refine Blk.newE ?_);(simp;done))|(with_reducible apply Blk.alloc)|(with_reducible apply Blk.drew)|(with_reducible apply Blk.drewN)));done)));(try (have za:Blk w1 W.heap.size tA #[]:=?zz;case zz=>(refine Blk.grownO (hg:=hg1) ?_ (FactsO.ofBlk (base:=w.heap.size) blks (by first|omega|(simp;omega))).1 (by decide);(repeat (first|(with_reducible assumption)|(with_reducible exact Blk.new _ _ _)|((with_reducible apply Blk.far);(case hp=>(first|exact Nat.le_refl _|(simp;done)|(simp;omega)|(simp only;omega)|omega)))|(with_reducible apply Blk.set_)|((with_reducible refine Blk.newE ?_);(simp;done))|(with_reducible apply Blk.alloc)|(with_reducible apply Blk.drew)|(with_reducible apply Blk.drewN)));done))))
   | (have _t:=tok6;clear _t tok6;refine stepFL (xs:=a.facts) rfl _ _ rfl rfl (FactsO.below (w:=w1) hO1 bel) rfl (h3.below bel) (by first|omega|(simp;omega)) (by first|omega|(simp;omega)) ?_;intro F2 e2 w2 hO2 hg2 hB2;have hBw2:Below w.heap.size w w2:=Below.trans bel hB2;have m20:=Blk.grownO (g:=w.heap.size) (hg:=hg2) blks (FactsO.below (w:=w1) hO1 bel).1 (by decide);have m21:=Blk.grownO (g:=w.heap.size+1) (hg:=hg2) blks (FactsO.below (w:=w1) hO1 bel).1 (by decide);have m22:=Blk.grownO (g:=w.heap.size+1+1) (hg:=hg2) blks (FactsO.below (w:=w1) hO1 bel).1 (by decide);have lt2:=m22.lt;(try (have zb:Blk w2 w1.heap.size tA #[]:=?zz;case zz=>(refine Blk.grownO (hg:=hg2) ?_ (FactsO.below (w:=w1) hO1 bel).1 (by decide);(repeat (first|(with_reducible assumption)|(with_reducible exact Blk.new _ _ _)|((with_reducible apply Blk.far);(case hp=>(first|exact Nat.le_refl _|(simp;done)|(simp;omega)|(simp only;omega)|omega)))|(with_reducible apply Blk.set_)|((with_reducible refine Blk.newE ?_);(simp;done))|(with_reducible apply Blk.alloc)|(with_reducible apply Blk.drew)|(with_reducible apply Blk.drewN)));done)));(try (have zb:=Blk.grownO (hg:=hg2) (Blk.next za bel) (FactsO.below (w:=w1) hO1 bel).1 (by decide))))
   | (have _t:=tok10;clear _t tok10;refine stepAL (xs:=[]) rfl _ _ rfl rfl (AtomsO.ofBlk (base:=w.heap.size) blks (by first|omega|(simp;omega))) rfl (h2.below bel) (by first|omega|(simp;omega)) (by first|omega|(simp;omega)) ?_;intro F3 e3 w3 hO3 hg3 hB3;have hBw3:Below w.heap.size w w3:=Below.trans bel hB3;simp only[List.nil_append] at hO3;have m30:=Blk.grownO (g:=w.heap.size) (hg:=hg3) blks (AtomsO.ofBlk (base:=w.heap.size) blks (by first|omega|(simp;omega))).1 (by decide);have m31:=Blk.grownO (g:=w.heap.size+1) (hg:=hg3) blks (AtomsO.ofBlk (base:=w.heap.size) blks (by first|omega|(simp;omega))).1 (by decide);have m32:=Blk.grownO (g:=w.heap.size+1+1) (hg:=hg3) blks (AtomsO.ofBlk (base:=w.heap.size) blks (by first|omega|(simp;omega))).1 (by decide);have lt3:=m32.lt;have hP3:=FactsO.grownA (FactsO.below (w:=w2) hO2 bel) (AtomsO.ofBlk (base:=w.heap.size) blks (by first|omega|(simp;omega))) hg3)
   | (have _t:=tok13;clear _t tok13;refine stepAL (xs:=a.atoms) rfl _ _ rfl rfl (AtomsO.below (w:=w3) hO3 bel) rfl (h4.below bel) (by first|omega|(simp;omega)) (by first|omega|(simp;omega)) ?_;intro F4 e4 w4 hO4 hg4 hB4;have hBw4:Below w.heap.size w w4:=Below.trans bel hB4;have m40:=Blk.grownO (g:=w.heap.size) (hg:=hg4) blks (AtomsO.below (w:=w3) hO3 bel).1 (by decide);have m41:=Blk.grownO (g:=w.heap.size+1) (hg:=hg4) blks (AtomsO.below (w:=w3) hO3 bel).1 (by decide);have m42:=Blk.grownO (g:=w.heap.size+1+1) (hg:=hg4) blks (AtomsO.below (w:=w3) hO3 bel).1 (by decide);have lt4:=m42.lt;have hP4:=FactsO.grownA (FactsO.below (w:=w3) hP3 bel) (AtomsO.below (w:=w3) hO3 bel) hg4;have c42:=m42.cell;have f42:=m42.frozen))
 all_goals
  go_wp2_with fail
  refine bodyPost_ret (v:=.agg #[.slice F2 (a.facts++b.facts).length e2,.slice F4 (a.atoms++b.atoms).length e4]) (by simp[results,Tryz.results57,go_sem,c42]) rfl ⟨_,rfl,⟨_,_,rfl,?_,?_⟩,bel⟩
  ·exact (hP4.setT m42 (by decide) _ _).setT (m42.set_ _ _) (by decide) _ _
  ·exact (hO4.setT m42 (by decide) _ _).setT (m42.set_ _ _) (by decide) _ _
end Go.Proofs.YtjjokmlmknllhaaGreat

/- Words for regions that allocate a variable beside calls. -/
namespace Go.Proofs.YtjjokmlmknllhaaGreat
open Go Go.RowKit Go.Proofs
theorem Merge {G T:Prop} (h:G) (f:Hid G→T):T:=f h
theorem absThen {K:Act→World→Prop} {Q:Exit→Act→World→Prop} {e:Exit} {a:Act} {V:World} (h:∀ V',V'=V→Exit.then K Q e a V'):Exit.then K Q e a V:=h V rfl
theorem AsnI.setT {w:World} {lo hi:Nat} {v:Value} {x:Asn} (h:AsnI w lo hi v x) {g:Nat} {t:TypeId} {cs:Array Value} (hk:Blk w g t cs) (h1:t≠tF) (h2:t≠tA) (i:Nat) (u:Value):AsnI (w.setCell ⟨g,i,none⟩ u) lo hi v x:=by
 obtain ⟨fv,av,e,p1,p2⟩:=h
 exact ⟨fv,av,e,⟨p1.1.setT hk h1 i u,p1.2⟩,⟨p2.1.setT hk h2 i u,p2.2⟩⟩
theorem IntsI.setT {w:World} {lo hi:Nat} {v:Value} {x:List Int} (h:IntsI w lo hi v x) {g:Nat} {t:TypeId} {cs:Array Value} (hk:Blk w g t cs) (h1:t≠tI) (i:Nat) (u:Value):IntsI (w.setCell ⟨g,i,none⟩ u) lo hi v x:=⟨h.1.setT hk h1 i u,h.2⟩
end Go.Proofs.YtjjokmlmknllhaaGreat

/- Lists of lists of numbers: words, appends, comparison, marks. -/
namespace Go.Proofs.YtjjokmlmknllhaaGreat
open Go Go.RowKit Go.Proofs
abbrev tIS:Nat:=26
theorem infoIS:(Tryz.prog.info? tIS).map (fun i=>(i.zero,i.size,i.bytes))=some (some (.slice none 0 0),1,24):=by kernel_rfl
def tot (xss:List (List Int)):Nat:=(xss.map List.length).sum
structure SSO (w:World) (base:Nat) (v:Value) (vs:List Value) (xss:List (List Int)):Prop where
 row:w.ownsRow base tIS 1 v vs.length vs
 lim:Lim vs.length
 len:vs.length=xss.length
 at_:∀ (k:Nat) (h:k<vs.length) (h':k<xss.length),IntsO w base vs[k] xss[k]
 apart:∀ (i j:Nat) (hi:i<vs.length) (hj:j<vs.length),i<j→∀ g,vs[i].ownBlock=some g→vs[j].ownBlock≠some g
def IntSSO (w:World) (base:Nat) (v:Value) (xss:List (List Int)):Prop:=∃ vs,SSO w base v vs xss
section
variable {w w':World} {base base':Nat} {v:Value} {vs:List Value} {xss:List (List Int)}
theorem SSO.below (h:SSO w base v vs xss) (hb:Below w.heap.size w w'):SSO w' base v vs xss:=⟨own_below h.row hb,h.lim,h.len,fun k h1 h2=>(h.at_ k h1 h2).below hb,h.apart⟩
theorem IntSSO.below (h:IntSSO w base v xss) (hb:Below w.heap.size w w'):IntSSO w' base v xss:=by obtain ⟨vs,h⟩:=h;exact ⟨vs,h.below hb⟩
theorem SSO.lower (h:SSO w base v vs xss) (hb:base'≤base):SSO w base' v vs xss:=⟨own_lower h.row hb,h.lim,h.len,fun k h1 h2=>(h.at_ k h1 h2).lower hb,h.apart⟩
theorem IntSSO.lower (h:IntSSO w base v xss) (hb:base'≤base):IntSSO w base' v xss:=by obtain ⟨vs,h⟩:=h;exact ⟨vs,h.lower hb⟩
theorem SSO.nil (w:World) (base:Nat):SSO w base (.slice none 0 0) [] []:=⟨World.ownsRow_nil _ _ _ _,by simp[Lim],rfl,fun k h=>absurd h (by simp),fun i j h=>absurd h (by simp)⟩
theorem SSO.empty (w:World) {g:Nat} (hg:g=w.heap.size):SSO (w.alloc (.cells #[] tIS)) g (.slice (some ⟨g,0,none⟩) 0 0) [] []:=by
 subst hg
 exact ⟨own_empty w _ _,by simp[Lim],rfl,fun k h=>absurd h (by simp),fun i j h=>absurd h (by simp)⟩
theorem SSO.form (h:SSO w base v vs xss):∃ A c,v=.slice A xss.length c:=by
 obtain ⟨A,c,e,-⟩:=own_reads h.row h.lim
 exact ⟨A,c,by rw[e,h.len]⟩
theorem IntSSO.form (h:IntSSO w base v xss):∃ A c,v=.slice A xss.length c:=by obtain ⟨vs,h⟩:=h;exact h.form
theorem own_turn {w w':World} {T:TypeId} {B base size n:Nat} {e:TypeId} {v:Value} {xs:List Value} {row:Option Nat} (h:w.ownsRow base e size v n xs) (hg:w.grownBy w' row) (hr:Turn T B w row) (ht:e≠T):w'.ownsRow base e size v n xs:=by
 obtain ⟨h1,h2⟩:=h
 refine ⟨h1,?_⟩
 rcases h2 with h2|⟨k,cap,cur,hv,hg',hh,r⟩
 ·exact Or.inl h2
 ·exact Or.inr ⟨k,cap,cur,hv,hg',Blk.turn (g:=k) hh hg hr (Or.inl ht),r⟩
theorem SSO.turn {T:TypeId} {B:Nat} {row:Option Nat} (h:SSO w base v vs xss) (hg:w.grownBy w' row) (hr:Turn T B w row) (h1:tIS≠T) (h2:tI≠T):SSO w' base v vs xss:=
 ⟨own_turn h.row hg hr h1,h.lim,h.len,fun k a b=>⟨own_turn (h.at_ k a b).1 hg hr h2,(h.at_ k a b).2⟩,h.apart⟩
theorem SSO.setT (h:SSO w base v vs xss) {g:Nat} {t:TypeId} {cs:Array Value} (hk:Blk w g t cs) (h1:t≠tIS) (h2:t≠tI) (i:Nat) (u:Value):SSO (w.setCell ⟨g,i,none⟩ u) base v vs xss:=
 ⟨own_setT h.row hk h1 i u,h.lim,h.len,fun k a b=>(h.at_ k a b).setT hk h2 i u,h.apart⟩
def IntSSV (w:World) (lo hi:Nat) (A:Option Addr) (xss:List (List Int)):Prop:=
 ∃ vs:List Value,Rd w lo hi 1 A xss.length vs∧∀ (k:Nat) (h:k<vs.length) (h':k<xss.length),∃ B c,vs[k]=.slice B xss[k].length c∧IntsV w lo hi B xss[k]
theorem IntSSV.below {lo hi:Nat} {A:Option Addr} (h:IntSSV w lo hi A xss) (hb:Below w.heap.size w w'):IntSSV w' lo hi A xss:=by
 obtain ⟨vs,h1,h2⟩:=h
 exact ⟨vs,h1.below hb,fun k a b=>by obtain ⟨B,c,e,h3⟩:=h2 k a b;exact ⟨B,c,e,h3.below hb⟩⟩
theorem IntSSV.at {lo hi:Nat} {A:Option Addr} (h:IntSSV w lo hi A xss) {k:Nat} (hk:k<xss.length):∃ b o B c,A=some ⟨b,o,none⟩∧b<w.heap.size∧w.cell? ⟨b,o+k,none⟩=some (.slice B xss[k].length c)∧IntsV w lo hi B xss[k]:=by
 obtain ⟨vs,h1,h2⟩:=h
 have hl:vs.length=xss.length:=by have:=h1.raw.1;omega
 obtain ⟨b,o,u,e,-,-,hu,hc⟩:=h1.raw.at1 hk
 obtain ⟨B,c,e2,h3⟩:=h2 k (by omega) hk
 rw[List.getElem?_eq_getElem (by omega)] at hu
 refine ⟨b,o,B,c,e,block_lt_of_cell hc,?_,h3⟩
 rw[hc,←Option.some.inj hu,e2]
theorem SSO.reads {A:Option Addr} {n c:Nat} (h:SSO w base (.slice A n c) vs xss):n=xss.length∧IntSSV w base w.heap.size A xss:=by
 obtain ⟨A',c',e,h1⟩:=own_reads h.row h.lim
 injection e with e1 e2 e3
 subst e1
 refine ⟨by rw[e2,h.len],vs,by rw[←h.len];exact h1,fun k a b=>?_⟩
 obtain ⟨B,d,e,h3⟩:=(h.at_ k a b).reads
 exact ⟨B,d,e,h3⟩
end
def IntSSI (w:World) (lo hi:Nat) (v:Value) (xss:List (List Int)):Prop:=∃ vs,SSO w lo v vs xss∧Und v hi∧(∀ (k:Nat) (h:k<vs.length),Und vs[k] hi)∧tot xss≤16777216
section
variable {w w':World} {lo hi a b:Nat} {v:Value} {xss:List (List Int)}
theorem IntSSO.I' {base:Nat} (h:IntSSO w base v xss) (hb:tot xss≤16777216):IntSSI w base w.heap.size v xss:=by
 obtain ⟨vs,h⟩:=h
 exact ⟨vs,h,fun g hg=>(h.row.lt g hg).2,fun k hk g hg=>((h.at_ k hk (by rw[←h.len];exact hk)).1.lt g hg).2,hb⟩
def IntSSR (w:World) (base:Nat) (v:Value) (xss:List (List Int)):Prop:=IntSSO w base v xss∧tot xss≤16777216
theorem IntSSR.I {base:Nat} (h:IntSSR w base v xss):IntSSI w base w.heap.size v xss:=h.1.I' h.2
theorem IntSSI.below (h:IntSSI w lo hi v xss) (hb:Below w.heap.size w w'):IntSSI w' lo hi v xss:=by
 obtain ⟨vs,h1,h2⟩:=h;exact ⟨vs,h1.below hb,h2⟩
theorem IntSSI.mk (h:IntSSI w lo hi v xss) (hb:Mk (fun g=>a≤g∧g<b) w w') (hd:hi≤a∨b≤lo):IntSSI w' lo hi v xss:=by
 obtain ⟨vs,h1,h2,h3,h4⟩:=h
 refine ⟨vs,⟨own_mk h1.row hb fun g hg hp=>by have:=und_range h1.row h2 g hg;omega,h1.lim,h1.len,fun k x y=>?_,h1.apart⟩,h2,h3,h4⟩
 exact (h1.at_ k x y).mk hb fun g hg hp=>by have:=und_range (h1.at_ k x y).1 (h3 k x) g hg;omega
theorem IntSSI.form (h:IntSSI w lo hi v xss):∃ A c,v=.slice A xss.length c:=by obtain ⟨vs,h1,-⟩:=h;exact h1.form
theorem IntSSI.reads {A:Option Addr} {n c:Nat} (h:IntSSI w lo hi (.slice A n c) xss):IntSSV w lo w.heap.size A xss:=by obtain ⟨vs,h1,-⟩:=h;exact h1.reads.2
theorem IntSSI.len (h:IntSSI w lo hi v xss):xss.length≤1049600∧tot xss≤16777216:=by obtain ⟨vs,h1,-,-,h4⟩:=h;exact ⟨by rw[←h1.len];exact h1.lim,h4⟩
end
def markSS:Int→List (List Int)→List (List Int)
 | _,[]=>[]
 | k,xs :: xss=>iota k xs.length :: markSS (k+xs.length) xss
def markTo (k:Int) (xss:List (List Int)) (n:Nat):List (List Int):=markSS k (xss.take n)++xss.drop n
theorem SSO.at {w:World} {base n c k:Nat} {A:Option Addr} {vs:List Value} {xss:List (List Int)} (h:SSO w base (.slice A n c) vs xss) (hk:k<xss.length) (hk':k<vs.length):∃ b o B d,A=some ⟨b,o,none⟩∧b<w.heap.size∧w.cell? ⟨b,o+k,none⟩=some (.slice B xss[k].length d)∧vs[k]=.slice B xss[k].length d:=by
 obtain ⟨A',c',e,h1⟩:=own_reads h.row h.lim
 injection e with e1 e2 e3
 subst e1
 obtain ⟨b,o,u,e,-,-,hu,hc⟩:=h1.raw.at1 hk'
 obtain ⟨B,d,e2,-⟩:=(h.at_ k hk' hk).reads
 rw[List.getElem?_eq_getElem hk'] at hu
 exact ⟨b,o,B,d,e,block_lt_of_cell hc,by rw[hc,←Option.some.inj hu,e2],e2⟩
theorem own_ne {w:World} {b b' s s' n n':Nat} {e e':TypeId} {v v':Value} {xs xs':List Value} (h:w.ownsRow b e s v n xs) (h':w.ownsRow b' e' s' v' n' xs') (ht:e≠e'):∀ g,v.ownBlock=some g→v'.ownBlock≠some g:=by
 intro g hg hg'
 rcases h.2 with ⟨rfl,-⟩|⟨k,cap,cur,rfl,-,hh,-⟩
 ·cases hg
 ·rcases h'.2 with ⟨rfl,-⟩|⟨k',cap',cur',rfl,-,hh',-⟩
  ·cases hg'
  ·have e1:k=g:=by simpa [Value.ownBlock] using hg
   have e2:k'=g:=by simpa [Value.ownBlock] using hg'
   subst e1;subst e2
   exact (Blk.ne_ (g:=k') hh hh' ht) rfl
end Go.Proofs.YtjjokmlmknllhaaGreat

/- Programs: the laws' own helpers: the size. -/
namespace Go.Proofs.YtjjokmlmknllhaaGreat
open Go Go.RowKit Go.Proofs
def Cms.sz:Cms→Nat
 | .nil=>0
 | .cons _ _ _ _ _ body els r=>body.sz+els.sz+r.sz+1
def cost1 (i:Asn) (body els:Cms):Nat:=i.facts.length+i.atoms.length+(body.len+body.cost)+(els.len+els.cost)
end Go.Proofs.YtjjokmlmknllhaaGreat
