/- What the reader draws: assertions. -/
import Derived.Test.YtgdfdmjnadnlnaaGreatDrawA
import Derived.Test.YtgdfdmjnadnlnaaGreatMIntSS
set_option linter.unusedSimpArgs false
set_option linter.unusedVariables false
set_option maxRecDepth 100000
set_option maxHeartbeats 25600000
namespace Go.Proofs.YtgdfdmjnadnlnaaGreat
section
open Go Go.RowKit Go.Proofs
theorem IntsV.lit {w:World} {x:Nat} {cs:Array Value} {xs:List Int} (hk:Blk w x tI cs) (hcs:cs=(encI xs).toArray) (hl:xs.length≤100):IntsV w x (x+1) (some ⟨x,0,none⟩) xs:=
 ⟨⟨by simp[encI],fun _=>⟨x,0,rfl,Nat.le_refl _,Nat.lt_succ_self _,fun j u hu=>by rw[Nat.zero_add,hk.cell,hcs];simpa using hu⟩⟩,by unfold Lim;omega⟩
theorem FactsV.oneB {w:World} {g:Nat} {e:Bool} {x y:Int} (h:Blk w g tF #[.bool e,.int .i64 x,.int .i64 y]):FactsV w g (g+1) (some ⟨g,0,none⟩) [⟨e,x,y⟩]:=FactsV.one (f:=⟨e,x,y⟩) h
theorem AtomsV.oneB {w:World} {g:Nat} {e:Int} {x y:Int} (h:Blk w g tA #[.int .i64 e,.int .i64 x,.int .i64 y]):AtomsV w g (g+1) (some ⟨g,0,none⟩) [⟨e,x,y⟩]:=AtomsV.one (f:=⟨e,x,y⟩) h
theorem c_l10Keep (g p:Nat) (w:World) (h:Rdr w g p) (hp:p≤999990) :
  Calls Tryz.prog 93 #[.pointer (some ⟨g,0,none⟩)] w fun e w'=>∃ r xs q,e=.returned r∧IntsO w' w.heap.size r xs∧xs.length≤2∧Rdr w' g q∧q≤p+3∧Fr g w w':=by
 have H:=ax h;have hlt:=h.lt;clear h;(go_enter Tryz.func93,Tryz.ntmps93);(go_wp2_with fail);refine (c_numL g p [0,1,0,2] _ _ _ _ (H.o.bz bel) (by omega) blks (by rfl) (by first|omega|(simp;omega)) (by rfl) (by decide) (by decide)).mono ?_;rintro e w1 ⟨m,hm,rfl,hR,hF⟩;have o0:IntsO w1 w.heap.size (.slice (some ⟨w.heap.size,0,none⟩) 0 0) []:=((IntsO.empty w rfl).bz (bbox (Below.refl _ _) _)).fr hF hlt;have HF1:aJ (Fr g w w1):=(((Fr.refl g w).alloc _).alloc _).trans hF;obtain ⟨k0,rfl⟩:=Int.eq_ofNat_of_zero_le ((by decide:∀ m∈[(0:Int),1,0,2],0≤m) m hm);have hk2:k0≤2:=by have:=(by decide:∀ m∈[(0:Int),1,0,2],m≤2) _ hm;omega
 have HR1:=ax hR;clear hm hR hF;(go_wp2_with fail)
 go_loopw [3,4] (fun o i wr=>∃ (k:Nat) (xs:List Int) (A:Option Addr) (c q:Nat),i=.int .i64 k∧o=.slice A xs.length c∧k+xs.length≤2∧IntsO wr w.heap.size (.slice A xs.length c) xs∧Rdr wr g q∧q+k≤p+3∧aJ (Fr g w wr)) (fun _ i _=>(intOf i).toNat)
 case atStart=>exact ⟨k0,[],_,_,p+1,rfl,rfl,by simpa using hk2,o0,HR1.o,by omega,HF1⟩
 case round=>
  clear o0 HF1 HR1 hk2;obtain ⟨k,xs,A,c,q,rfl,rfl,hkx,hO,hR,hq,HF⟩:=hrel;have HO:=ax hO;have HRR:=ax hR;have hsz:=HF.o.size;clear hO hR;by_cases hk:0<k
  ·have hki:(0:Int)<(k:Int):=by omega
   (go_wp2_with fail);refine (c_numL g q [5,6,1,8,9,-1] _ _ _ _ (HRR.o.bz bel) (by omega) blks (by rfl) (by first|omega|(simp;omega)) (by rfl) (by decide) (by decide)).mono ?_;rintro e w2 ⟨x,-,rfl,hR,hF⟩;have hF2:=HF.o.alloc (.cells #[.int .i64 5,.int .i64 6,.int .i64 1,.int .i64 8,.int .i64 9,.int .i64 (-1)] tI) |>.trans hF;have HO2:=ax ((HO.o.bz (bbox (Below.refl _ _) (.cells #[.int .i64 5,.int .i64 6,.int .i64 1,.int .i64 8,.int .i64 9,.int .i64 (-1)] tI))).fr hF hlt);have HF2:=ax hF2;have HR2:=ax hR;have hsz2:=hF2.size;clear hR hF hF2;(go_wp2_with (at_builtin;refine appIL (ys:=[x]) (base:=w.heap.size) rfl _ _ rfl rfl (HO2.o.bz bel) rfl (IntsV.lit (Blk.newE rfl) rfl (by simp)) (by simp;omega) (by simp;omega) ?_;intro A' c' w3 o3 hg3 hB3));have hF3:Fr g w w3:=(HF2.o.alloc _).goB hB3 (Nat.le_refl _);have hR3:Rdr w3 g (q+1):=(HR2.o.bz (bbox (Below.refl _ _) _)).belowB hB3 hlt
   go_round
   case rel=>exact ⟨k - 1,xs++[x],A',c',q+1,by go_num,by simp,by simp;omega,by simpa using o3,hR3,by omega,hF3⟩
   case measure=>simp[intOf];omega
  ·obtain rfl:k=0:=by omega
   (go_wp2_with fail);go_ret;exact ⟨_,xs,q,rfl,HO.o,by omega,HRR.o,by omega,HF.o⟩
end
end Go.Proofs.YtgdfdmjnadnlnaaGreat
