/- What the reader draws: numbers, terms, facts, atoms, lists of terms. -/
import Derived.Test.YtjbboklnegfohaaGreatDoorDraw
import Derived.Test.YtjbboklnegfohaaGreatDoorMFmtP
set_option linter.unusedSimpArgs false
set_option linter.unusedVariables false
namespace Go.Proofs.YtjbboklnegfohaaGreatDoor
open Go Go.RowKit Go.Proofs
theorem Fr.goB {g base:Nat} {a b c:World} (h:Fr g a b) (k:Below base b c) (hb:a.heap.size≤base):Fr g a c:=
 ⟨k.os.trans h.os,k.tape.trans h.tape,k.output.trans h.output,Nat.le_trans h.size k.size,fun i h1 h2=>(k.block i (by omega)).trans (h.block i h1 h2)⟩
theorem Rdr.belowB {w w':World} {g p base:Nat} (h:Rdr w g p) (hb:Below base w w') (hg:g<base):Rdr w' g p:=by
 obtain ⟨A,c,bs,h1,h2,h3⟩:=h
 exact ⟨A,c,bs,h1.below hb hg,h2.keep fun b _ hlt=>hb.block b (by omega),h3⟩
set_option maxRecDepth 100000 in
set_option maxHeartbeats 1600000 in
theorem c_num {lo hi:Nat} (g p:Nat) (A:Option Addr) (c:Nat) (xs:List Int) (w:World) (h:Rdr w g p) (hp:p≤1000000) (hx:IntsV w lo hi A xs) (hg:g<lo∨hi≤g) (hn:0<xs.length) :
  Calls Tryz.prog 45 #[.pointer (some ⟨g,0,none⟩),.slice A xs.length c] w fun e w'=>∃ m∈xs,e=.returned (.int .i64 m)∧Rdr w' g (p+1)∧Fr g w w':=by
 have H:=Lib.hid h
 have HX:=Lib.hid hx
 clear h hx
 go_enter Tryz.func45,Tryz.ntmps45
 go_wp2_with fail
 refine (c_pick g p _ _ H.out hp).mono ?_
 rintro e w1 ⟨m,rfl,hm,hR,hF⟩
 have hlt:m<xs.length:=by omega
 obtain ⟨b,o,rfl,c0⟩:=IntsV.at (Rd.fr HX.out hF hg) hlt
 have hmi:(m:Int)<(xs.length:Int):=by omega
 have HRF:=Lib.hid (And.intro hR hF)
 clear hm hR hF
 go_wp2_with fail
 go_ret
 exact ⟨xs[m],List.getElem_mem hlt,rfl,HRF.out.1,HRF.out.2⟩
theorem c_numL (g p:Nat) (xs:List Int) (x n:Nat) (cs:Array Value) (w:World) (h:Rdr w g p) (hp:p≤1000000) (hk:Blk w x tI cs) (hcs:cs=(encI xs).toArray) (hg:g<x) (hn:n=xs.length) (h0:0<xs.length) (hl:xs.length≤100) :
  Calls Tryz.prog 45 #[.pointer (some ⟨g,0,none⟩),.slice (some ⟨x,0,none⟩) n n] w fun e w'=>∃ m∈xs,e=.returned (.int .i64 m)∧Rdr w' g (p+1)∧Fr g w w':=by
 subst hn
 refine c_num (lo:=x) (hi:=x+1) g p _ _ xs w h hp ⟨⟨by simp[encI],fun _=>⟨x,0,rfl,Nat.le_refl _,Nat.lt_succ_self _,fun j u hu=>?_⟩⟩,by unfold Lim;omega⟩ (Or.inl hg) h0
 rw[Nat.zero_add,hk.cell,hcs]
 simpa using hu
set_option maxRecDepth 100000 in
set_option maxHeartbeats 1600000 in
theorem c_l3Point (g p:Nat) (w:World) (h:Rdr w g p) (hp:p≤999990) :
  Calls Tryz.prog 93 #[.pointer (some ⟨g,0,none⟩)] w fun e w'=>∃ f:Atm,f.valid=true∧e=.returned f.val∧Rdr w' g (p+3)∧Fr g w w':=by
 have H:=Lib.hid h
 have hlt:=h.lt
 clear h
 go_enter Tryz.func93,Tryz.ntmps93
 have k0:Blk (w.alloc (.cells #[.int .i64 0,.int .i64 0,.int .i64 0] tA)) w.heap.size tA #[.int .i64 0,.int .i64 0,.int .i64 0]:=Blk.new _ _ _
 have HF0:Hid (Fr g w (w.alloc (.cells #[.int .i64 0,.int .i64 0,.int .i64 0] tA))):=(Fr.refl g w).alloc _
 go_wp2_with fail
 refine (c_numL g p [1,2,3,5,4,6] _ _ _ _ (H.out.below bel) (by omega) blks (by rfl) (by first|omega|(simp;omega)) (by rfl) (by decide) (by decide)).mono ?_
 rintro e w1 ⟨x,hx,rfl,hR,hF⟩
 replace k0:=(k0.alloc _).fr hF (by omega)
 have HF1:=Lib.hid ((HF0.out.alloc _).trans hF)
 have HR1:=Lib.hid hR
 have HX:=Lib.hid ((by decide:∀ m∈[(1:Int),2,3,5,4,6],isTermB m=true) x hx)
 have l1:=k0.lt
 clear hR hF hx
 go_wp2_with fail
 refine (c_numL g (p+1) [2,0,3,1,5,0,6] _ _ _ _ (HR1.out.below bel) (by omega) blks (by rfl) (by first|omega|(simp;omega)) (by rfl) (by decide) (by decide)).mono ?_
 rintro e w2 ⟨y,hy,rfl,hR,hF⟩
 replace k0:=(k0.alloc _).fr hF (by omega)
 have HF2:=Lib.hid ((HF1.out.alloc _).trans hF)
 have HR2:=Lib.hid hR
 have HY:=Lib.hid ((by decide:∀ m∈[(2:Int),0,3,1,5,0,6],isTermB m=true) y hy)
 have l2:=k0.lt
 clear hR hF hy
 have k1:Blk (w2.alloc (.cells #[.int .i64 1,.int .i64 x,.int .i64 y] tA)) w2.heap.size tA #[.int .i64 1,.int .i64 x,.int .i64 y]:=Blk.new _ _ _
 go_wp2_with fail
 refine (c_pick g (p+1+1) 2 _ (HR2.out.below bel) (by omega)).mono ?_
 rintro e w3 ⟨m,rfl,-,hR,hF⟩
 replace k0:=(k0.alloc (.cells #[.int .i64 1,.int .i64 x,.int .i64 y] tA)).fr hF (by omega)
 replace k1:=k1.fr hF (by omega)
 have HF3:=Lib.hid ((HF2.out.alloc _).trans hF)
 have HR3:=Lib.hid hR
 clear hR hF
 (replace qk0:=k0.cell;replace rk0:=k0.frozen;replace lk0:=k0.lt;replace qk1:=k1.cell;replace rk1:=k1.frozen;replace lk1:=k1.lt)
 have hsz:=HF2.out.size
 have hne:w.heap.size≠w2.heap.size:=by omega
 by_cases hm:(m:Int)=0
 ·have hm':((m:Int) == 0)=true:=by simpa using hm
  clear hm
  go_wp2_with fail
  refine bodyPost_ret (v:=(Atm.mk 2 x y).val) (by simp[results,Tryz.results93,go_sem,qk0]) rfl ⟨⟨2,x,y⟩,by simp[Atm.valid,HX.out,HY.out],rfl,?_,?_⟩
  ·repeat (first|exact HR3.out|refine Rdr.set_ ?_ (by simp only;omega) _)
  ·repeat (first|exact HF3.out|refine Fr.set_ ?_ (Or.inr (by simp only;omega)) _)
 ·have hm':((m:Int) == 0)=false:=by simpa using hm
  clear hm
  go_wp2_with fail
  refine bodyPost_ret (v:=(Atm.mk 1 x y).val) (by simp[results,Tryz.results93,go_sem,qk0]) rfl ⟨⟨1,x,y⟩,by simp[Atm.valid,HX.out,HY.out],rfl,?_,?_⟩
  ·repeat (first|exact HR3.out|refine Rdr.set_ ?_ (by simp only;omega) _)
  ·repeat (first|exact HF3.out|refine Fr.set_ ?_ (Or.inr (by simp only;omega)) _)
end Go.Proofs.YtjbboklnegfohaaGreatDoor
