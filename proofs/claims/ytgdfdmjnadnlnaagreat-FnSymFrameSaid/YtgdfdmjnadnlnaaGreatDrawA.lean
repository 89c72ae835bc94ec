/- What the reader draws: numbers, terms, facts, atoms, lists of terms. -/
import Derived.Test.YtgdfdmjnadnlnaaGreatDraw
import Derived.Test.YtgdfdmjnadnlnaaGreatMTlist
set_option linter.unusedSimpArgs false
set_option linter.unusedVariables false
set_option maxRecDepth 100000
set_option maxHeartbeats 25600000
namespace Go.Proofs.YtgdfdmjnadnlnaaGreat
section
open Go Go.RowKit Go.Proofs
theorem Fr.goB {g base:Nat} {a b c:World} (h:Fr g a b) (k:Below base b c) (hb:a.heap.size≤base):Fr g a c:=
 ⟨k.os.trans h.os,k.tape.trans h.tape,k.output.trans h.output,Nat.le_trans h.size k.size,fun i h1 h2=>(k.block i (by omega)).trans (h.block i h1 h2)⟩
theorem Rdr.belowB {w w':World} {g p base:Nat} (h:Rdr w g p) (hb:Below base w w') (hg:g<base):Rdr w' g p:=by
 obtain ⟨A,c,bs,h1,h2,h3⟩:=h;exact ⟨A,c,bs,h1.bz hb hg,h2.keep fun b _ hlt=>hb.block b (by omega),h3⟩
theorem c_num {lo hi:Nat} (g p:Nat) (A:Option Addr) (c:Nat) (xs:List Int) (w:World) (h:Rdr w g p) (hp:p≤1000000) (hx:IntsV w lo hi A xs) (hg:g<lo∨hi≤g) (hn:0<xs.length) :
  Calls Tryz.prog 146 #[.pointer (some ⟨g,0,none⟩),.slice A xs.length c] w fun e w'=>∃ m∈xs,e=.returned (.int .i64 m)∧Rdr w' g (p+1)∧Fr g w w':=by
 have H:=ax h;have HX:=ax hx;clear h hx;(go_enter Tryz.func146,Tryz.ntmps146);(go_wp2_with fail);refine (c_pick g p _ _ H.o hp).mono ?_;rintro e w1 ⟨m,rfl,hm,hR,hF⟩;have hlt:m<xs.length:=by omega
 obtain ⟨b,o,rfl,c0⟩:=IntsV.at (Rd.fr HX.o hF hg) hlt;have hmi:(m:Int)<(xs.length:Int):=by omega
 have HRF:=ax (And.intro hR hF);clear hm hR hF;(go_wp2_with fail);go_ret;exact ⟨xs[m],List.getElem_mem hlt,rfl,HRF.o.1,HRF.o.2⟩
theorem c_numL (g p:Nat) (xs:List Int) (x n:Nat) (cs:Array Value) (w:World) (h:Rdr w g p) (hp:p≤1000000) (hk:Blk w x tI cs) (hcs:cs=(encI xs).toArray) (hg:g<x) (hn:n=xs.length) (h0:0<xs.length) (hl:xs.length≤100) :
  Calls Tryz.prog 146 #[.pointer (some ⟨g,0,none⟩),.slice (some ⟨x,0,none⟩) n n] w fun e w'=>∃ m∈xs,e=.returned (.int .i64 m)∧Rdr w' g (p+1)∧Fr g w w':=by
 subst hn;refine c_num (lo:=x) (hi:=x+1) g p _ _ xs w h hp ⟨⟨by simp[encI],fun _=>⟨x,0,rfl,Nat.le_refl _,Nat.lt_succ_self _,fun j u hu=>?_⟩⟩,by unfold Lim;omega⟩ (Or.inl hg) h0;rw[Nat.zero_add,hk.cell,hcs];simpa using hu
end
end Go.Proofs.YtgdfdmjnadnlnaaGreat
