/- What the reader draws: its beginning; chains of atoms. -/
import Derived.Test.YtjbboklnegfohaaGreatDoorDrawD
import Derived.Test.YtjbboklnegfohaaGreatDoorMAlloc
set_option linter.unusedSimpArgs false
set_option linter.unusedVariables false
namespace Go.Proofs.YtjbboklnegfohaaGreatDoor
open Go Go.RowKit Go.Proofs
def BytesR (w:World) (A:Option Addr) (n c:Nat):Prop:=∃ bs:List Nat,n=bs.length∧Rw w 0 w.heap.size 1 A n (encU bs)∧(∀ b∈bs,b<256)∧n≤c∧n≤9223372036854775807
set_option maxRecDepth 100000 in
set_option maxHeartbeats 1600000 in
theorem c_l18Open (A:Option Addr) (n c:Nat) (w:World) (h:BytesR w A n c) :
  Calls Tryz.prog 21 #[.slice A n c] w fun e w'=>∃ g,e=.returned (.pointer (some ⟨g,0,none⟩))∧w.heap.size≤g∧Rdr w' g 0∧Below w.heap.size w w':=by
 obtain ⟨bs,rfl,hR,hU,hc,hm⟩:=h
 by_cases hl:2000<bs.length
 ·have hli:(2000:Int)<(bs.length:Int):=by omega
  have hci:(2000:Int)≤(c:Int):=by omega
  have hcn:2000≤c:=by omega
  obtain ⟨b,o,rfl,h1,h2,h3⟩:=hR.form (by omega)
  have HC:=Lib.hid h3
  have HU:=Lib.hid hU
  have hlz:=hR.1
  clear hR h3 hU
  go_enter Tryz.func21,Tryz.ntmps21
  go_wp2_with fail
  have e2:(bs.take 2000).length=2000:=by simp;omega
  have hRw:Rw w 0 w.heap.size 1 (some ⟨b,o,none⟩) (bs.take 2000).length (encU (bs.take 2000)):=by
   refine ⟨by simp[encU],fun _=>⟨b,o,rfl,Nat.zero_le _,h2,fun j u hu=>HC.out j u ?_⟩⟩
   unfold encU at hu ⊢
   rw[List.map_take,List.getElem?_take] at hu
   split at hu
   ·exact hu
   ·cases hu
  have HW:=Lib.hid hRw
  clear hRw
  go_ret
  exact ⟨w.heap.size,rfl,Nat.le_refl _,⟨some ⟨b,o,none⟩,c,bs.take 2000,by rw[e2];exact Blk.new _ _ _,HW.out.keep fun b _ hb=>Below.heap_alloc w _ b hb,fun x hx=>HU.out x (List.mem_of_mem_take hx),by omega⟩,bel⟩
 ·have hli:¬(2000:Int)<(bs.length:Int):=by omega
  have HR:=Lib.hid hR
  have HU:=Lib.hid hU
  clear hR hU
  go_enter Tryz.func21,Tryz.ntmps21
  go_wp2_with fail
  go_ret
  exact ⟨w.heap.size,rfl,Nat.le_refl _,⟨A,c,bs,Blk.new _ _ _,HR.out.keep fun b _ hb=>Below.heap_alloc w _ b hb,HU.out,by omega⟩,bel⟩
end Go.Proofs.YtjbboklnegfohaaGreatDoor
