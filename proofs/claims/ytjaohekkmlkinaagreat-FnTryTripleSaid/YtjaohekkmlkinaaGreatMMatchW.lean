/- What the reader draws: its beginning; chains of atoms. -/
import Derived.Test.YtjaohekkmlkinaaGreatMKit
import Derived.Deep.RegionHeld3
import Derived.Laws.CopyOwn
import Derived.RangeFuncWrites
import Derived.RangeFuncLeaves
import Derived.RangeFuncBound
import Derived.RangeFuncCalls
import Derived.WalkKit
import Derived.OwnWalkIn
import Derived.TacticsInMore
import Derived.LoopNIn
import Derived.LoopIn
import Derived.OrdersIn
import Derived.Shelf.Abstract
set_option linter.unusedSimpArgs false
set_option linter.unusedVariables false
set_option maxRecDepth 100000
set_option maxHeartbeats 25600000
namespace Go.Proofs.YtjaohekkmlkinaaGreat
section
open Go Go.RowKit Go.Proofs
theorem own_set_other {w:World} {base:Nat} {e:TypeId} {size:Nat} {v:Value} {n X:Nat} {xs:List Value} (h:w.ownsRow base e size v n xs) (hu:Und v X) {q:Addr} (hq:X≤q.block) (u:Value):(w.setCell q u).ownsRow base e size v n xs:=by
 obtain ⟨h1,h2⟩:=h;refine ⟨h1,?_⟩;rcases h2 with h2|⟨k,cap,cur,hv,hk,hh,r⟩
 ·exact Or.inl h2
 ·refine Or.inr ⟨k,cap,cur,hv,hk,(Below.heap_setCell w q u k ?_).trans hh,r⟩;have:=hu k (by rw[hv];rfl);omega
theorem AtomsO.set_other {w:World} {base X:Nat} {v:Value} {xs:List Atm} (h:AtomsO w base v xs) (hu:Und v X) {q:Addr} (hq:X≤q.block) (u:Value):AtomsO (w.setCell q u) base v xs:=⟨own_set_other h.1 hu hq u,h.2⟩
def BytesR (w:World) (A:Option Addr) (n c:Nat):Prop:=∃ bs:List Nat,n=bs.length∧Rw w 0 w.heap.size 1 A n (encU bs)∧(∀ b∈bs,b<256)∧n≤c∧n≤9223372036854775807
theorem c_l18Open (A:Option Addr) (n c:Nat) (w:World) (h:BytesR w A n c) :
  Calls Tryz.prog 77 #[.slice A n c] w fun e w'=>∃ g,e=.returned (.pointer (some ⟨g,0,none⟩))∧w.heap.size≤g∧Rdr w' g 0∧Below w.heap.size w w':=by
 obtain ⟨bs,rfl,hR,hU,hc,hm⟩:=h;by_cases hl:2000<bs.length
 ·have hli:(2000:Int)<(bs.length:Int):=by omega
  have hci:(2000:Int)≤(c:Int):=by omega
  have hcn:2000≤c:=by omega
  obtain ⟨b,o,rfl,h1,h2,h3⟩:=hR.form (by omega);have HC:=ax h3;have HU:=ax hU;have hlz:=hR.1;clear hR h3 hU;(go_enter Tryz.func77,Tryz.ntmps77);(go_wp2_with fail);have e2:(bs.take 2000).length=2000:=by simp;omega
  have hRw:Rw w 0 w.heap.size 1 (some ⟨b,o,none⟩) (bs.take 2000).length (encU (bs.take 2000)):=by
   refine ⟨by simp[encU],fun _=>⟨b,o,rfl,Nat.zero_le _,h2,fun j u hu=>HC.o j u ?_⟩⟩;unfold encU at hu ⊢;rw[List.map_take,List.getElem?_take] at hu
   split at hu
   ·exact hu
   ·cases hu
  have HW:=ax hRw;clear hRw;go_ret;exact ⟨w.heap.size,rfl,Nat.le_refl _,⟨some ⟨b,o,none⟩,c,bs.take 2000,by rw[e2];exact Blk.new _ _ _,HW.o.keep fun b _ hb=>Below.heap_alloc w _ b hb,fun x hx=>HU.o x (List.mem_of_mem_take hx),by omega⟩,bel⟩
 ·have hli:¬(2000:Int)<(bs.length:Int):=by omega
  have HR:=ax hR;have HU:=ax hU;clear hR hU;(go_enter Tryz.func77,Tryz.ntmps77);(go_wp2_with fail);go_ret;exact ⟨w.heap.size,rfl,Nat.le_refl _,⟨A,c,bs,Blk.new _ _ _,HR.o.keep fun b _ hb=>Below.heap_alloc w _ b hb,HU.o,by omega⟩,bel⟩
theorem c_l6Chains (g p:Nat) (w:World) (h:Rdr w g p) (hp:p≤999900) :
  Calls Tryz.prog 176 #[.pointer (some ⟨g,0,none⟩)] w fun e w'=>∃ r a q,e=.returned r∧AsnO w' w.heap.size r a∧a.valid=true∧a.facts.length≤1∧a.atoms.length≤4∧Rdr w' g q∧q≤p+30∧Fr g w w':=by
 have H:=ax h;have hlt:=h.lt;clear h;(go_enter Tryz.func176,Tryz.ntmps176);have kr:Blk ((w.alloc (.cells #[.slice none 0 0,.slice none 0 0] 37)).alloc (.cells #[.slice none 0 0,.slice none 0 0] 37)) w.heap.size 37 #[.slice none 0 0,.slice none 0 0]:=blks;have ka:Blk ((w.alloc (.cells #[.slice none 0 0,.slice none 0 0] 37)).alloc (.cells #[.slice none 0 0,.slice none 0 0] 37)) (w.heap.size+1) 37 #[.slice none 0 0,.slice none 0 0]:=blks;have HF0:aJ (Fr g w ((w.alloc (.cells #[.slice none 0 0,.slice none 0 0] 37)).alloc (.cells #[.slice none 0 0,.slice none 0 0] 37))):=((Fr.refl g w).alloc _).alloc _;have hltn:g≠w.heap.size+1:=by omega
 (go_wp2_with fail);refine (c_numL g p [1,2,5] _ _ _ _ (H.o.bz bel) (by omega) blks (by rfl) (by first|omega|(simp;omega)) (by rfl) (by decide) (by decide)).mono ?_;rintro e w1 ⟨t0,ht0,rfl,hR,hF⟩;replace kr:=(kr.alloc _).fr hF (by omega);replace ka:=(ka.alloc _).fr hF (by omega);have HF1:aJ (Fr g w w1):=(HF0.o.alloc _).trans hF;have HR1:=ax hR;have HT0:=ax ((by decide:∀ m∈[(1:Int),2,5],jq m=true) t0 ht0);have l1:=kr.lt;clear hR hF HF0 H ht0;(go_wp2_with fail);refine (c_numL g (p+1) [2,3,1,4] _ _ _ _ (HR1.o.bz bel) (by omega) blks (by rfl) (by first|omega|(simp;omega)) (by rfl) (by decide) (by decide)).mono ?_;rintro e w2 ⟨m,hm,rfl,hR,hF⟩;replace kr:=(kr.alloc _).fr hF (by omega);replace ka:=(ka.alloc _).fr hF (by omega);have HF2:aJ (Fr g w w2):=(HF1.o.alloc _).trans hF;have HR2:=ax hR;obtain ⟨k0,rfl⟩:=Int.eq_ofNat_of_zero_le ((by decide:∀ m∈[(2:Int),3,1,4],0≤m) m hm);have hk4:k0≤4:=by have:=(by decide:∀ m∈[(2:Int),3,1,4],m≤4) _ hm;omega
 clear hR hF HF1 HR1 hm l1;(go_wp2_with fail)
 go_loopw [4,5] (fun s i wr=>∃ (k:Nat) (t:Int) (xs:List Atm) (B:Option Addr) (d q:Nat),i=.int .i64 k∧s=.int .i64 t∧aJ (jq t=true)∧k+xs.length≤4∧AtomsO wr w.heap.size (.slice B xs.length d) xs∧aJ (∀ x∈xs,x.valid=true)∧Blk wr w.heap.size 37 #[.slice none 0 0,.slice none 0 0]∧Blk wr (w.heap.size+1) 37 #[.slice none 0 0,.slice B xs.length d]∧Rdr wr g q∧q+2 * k≤p+10∧aJ (Fr g w wr)) (fun _ i _=>(intOf i).toNat)
 case atStart=>exact ⟨k0,t0,[],none,0,p+1+1,rfl,rfl,HT0.o,by simpa using hk4,AtomsO.nil _ _,(fun f hf=>by cases hf),kr,ka,HR2.o,by omega,HF2⟩
 case round=>
  clear kr ka HF2 HR2 hk4;obtain ⟨k,t,xs,B,d,q,rfl,rfl,HT,hkx,hO,HV,kr,ka,hR,hq,HF⟩:=hrel;have HO:=ax hO;have HRR:=ax hR;have hsz:=HF.o.size;have la:=ka.lt;clear hO hR;by_cases hk:0<k
  ·have hki:(0:Int)<(k:Int):=by omega
   (go_wp2_with fail);refine (c_numL g q [2,5,0,3,6,1] _ _ _ _ (HRR.o.bz bel) (by omega) blks (by rfl) (by first|omega|(simp;omega)) (by rfl) (by decide) (by decide)).mono ?_;rintro e w3 ⟨y,hy,rfl,hR,hF⟩;replace kr:=(kr.alloc (.cells #[.int .i64 2,.int .i64 5,.int .i64 0,.int .i64 3,.int .i64 6,.int .i64 1] tI)).fr hF (by omega);replace ka:=(ka.alloc (.cells #[.int .i64 2,.int .i64 5,.int .i64 0,.int .i64 3,.int .i64 6,.int .i64 1] tI)).fr hF (by omega);have HF3:aJ (Fr g w w3):=(HF.o.alloc _).trans hF;have HR3:=ax hR;have HO3:=ax ((HO.o.bz (bbox (Below.refl _ _) (.cells #[.int .i64 2,.int .i64 5,.int .i64 0,.int .i64 3,.int .i64 6,.int .i64 1] tI))).fr hF hlt);have HY:=ax ((by decide:∀ m∈[(2:Int),5,0,3,6,1],jq m=true) y hy);have l3:=ka.lt;clear hR hF HF HRR HO hy la;obtain ⟨X,hX⟩:∃ X,X=w3.heap.size:=⟨_,rfl⟩;have kx:Blk (w3.alloc (.cells #[.int .i64 1,.int .i64 t,.int .i64 y] tA)) X tA #[.int .i64 1,.int .i64 t,.int .i64 y]:=by rw[hX];exact Blk.new _ _ _
   have HU:=ax (show Und (.slice B xs.length d) X by rw[hX];exact HO3.o.und);have lX:w.heap.size+2≤X:=by omega
   (go_wp2_with fail);refine (c_pick g (q+1) 2 _ (HR3.o.bz bel) (by omega)).mono ?_;rintro e w4 ⟨mm,rfl,-,hR,hF⟩;rw[←hX];replace kr:=(kr.alloc (.cells #[.int .i64 1,.int .i64 t,.int .i64 y] tA)).fr hF (by omega);replace ka:=(ka.alloc (.cells #[.int .i64 1,.int .i64 t,.int .i64 y] tA)).fr hF (by omega);replace kx:=kx.fr hF (by omega);have HF4:aJ (Fr g w w4):=(HF3.o.alloc _).trans hF;have HR4:=ax hR;have HO4:=ax ((HO3.o.bz (bbox (Below.refl _ _) (.cells #[.int .i64 1,.int .i64 t,.int .i64 y] tA))).fr hF hlt);have lx:=kx.lt;have hne:w.heap.size+1≠X:=by omega
   clear hR hF HF3 HR3 HO3 hX l3;(replace qkr:=kr.cell;replace rkr:=kr.frozen;replace lkr:=kr.lt;replace qka:=ka.z;replace qkx:=kx.z);by_cases hm:(mm:Int)=0
   ·have hm':((mm:Int) == 0)=true:=by simpa using hm
    clear hm;have HO5:=ax (HO4.o.set_other HU.o (q:=⟨X,0,none⟩) (Nat.le_refl _) (.int .i64 2));have ka5:=ka.far (p:=⟨X,0,none⟩) (by simp only;omega) (.int .i64 2);have kr5:=kr.far (p:=⟨X,0,none⟩) (by simp only;omega) (.int .i64 2);have kx5:Blk (w4.setCell ⟨X,0,none⟩ (.int .i64 2)) X tA #[.int .i64 2,.int .i64 t,.int .i64 y]:=by simpa using kx.set_ 0 (.int .i64 2)
    have HF5:aJ (Fr g w (w4.setCell ⟨X,0,none⟩ (.int .i64 2))):=HF4.o.set_ (Or.inr (by simp only;omega)) _;have HR5:aJ (Rdr (w4.setCell ⟨X,0,none⟩ (.int .i64 2)) g (q+1+1)):=HR4.o.set_ (by simp only;omega) _;(go_wp2_with (at_builtin;refine appAL (ys:=[⟨2,t,y⟩]) (base:=w.heap.size) rfl _ _ rfl rfl (HO5.o.bz bel) rfl (AtomsV.oneB (Blk.newE (by simp))) (by simp;omega) (by simp;omega) ?_;intro A6 d6 w6 o6 hg6 hB6;rw[List.length_append,List.length_singleton] at o6 ⊢;have ka6:=Blk.zm (g:=w.heap.size+1) (hg:=hg6) (ka5.alloc _) (HO5.o.bz (bbox (Below.refl _ _) _)).1 (by decide);have kr6:=Blk.zm (g:=w.heap.size) (hg:=hg6) (kr5.alloc _) (HO5.o.bz (bbox (Below.refl _ _) _)).1 (by decide);have kx6:=Blk.grown (kx5.alloc _) hg6 (fun e=>by have:=HU.o X e.symm;omega);(replace qka6:=ka6.z;replace qkr6:=kr6.z;replace qkx6:=kx6.z);clear hg6));have hF6:Fr g w w6:=(HF5.o.alloc _).goB hB6 (Nat.le_refl _);have hR6:Rdr w6 g (q+1+1):=(HR5.o.bz (bbox (Below.refl _ _) _)).belowB hB6 hlt
    go_round
    case rel=>exact ⟨k - 1,y,xs++[⟨2,t,y⟩],A6,d6,q+1+1,by go_num,rfl,HY.o,by simp;omega,by simpa using o6.setT ka6 (by decide) 1 (.slice A6 (xs.length+1) d6),(fun f hf=>by
     rcases List.mem_append.1 hf with hf|hf
     ·exact HV.o f hf
     ·rw[List.mem_singleton.1 hf];simp[Atm.valid,HT.o,HY.o]),kr6.far (by simp) _,by simpa using ka6.set_ 1 (.slice A6 (xs.length+1) d6),hR6.set_ (by simp only;omega) _,by omega,hF6.set_ (Or.inr (by simp only;omega)) _⟩
    case measure=>simp[intOf];omega
   ·have hm':((mm:Int) == 0)=false:=by simpa using hm
    clear hm;(go_wp2_with (at_builtin;refine appAL (ys:=[⟨1,t,y⟩]) (base:=w.heap.size) rfl _ _ rfl rfl (HO4.o.bz bel) rfl (AtomsV.oneB (Blk.newE rfl)) (by simp;omega) (by simp;omega) ?_;intro A6 d6 w6 o6 hg6 hB6;rw[List.length_append,List.length_singleton] at o6 ⊢;have ka6:=Blk.zm (g:=w.heap.size+1) (hg:=hg6) (ka.alloc _) (HO4.o.bz (bbox (Below.refl _ _) _)).1 (by decide);have kr6:=Blk.zm (g:=w.heap.size) (hg:=hg6) (kr.alloc _) (HO4.o.bz (bbox (Below.refl _ _) _)).1 (by decide);have kx6:=Blk.grown (kx.alloc _) hg6 (fun e=>by have:=HU.o X e.symm;omega);(replace qka6:=ka6.z;replace qkr6:=kr6.z;replace qkx6:=kx6.z);clear hg6));have hF6:Fr g w w6:=(HF4.o.alloc _).goB hB6 (Nat.le_refl _);have hR6:Rdr w6 g (q+1+1):=(HR4.o.bz (bbox (Below.refl _ _) _)).belowB hB6 hlt
    go_round
    case rel=>exact ⟨k - 1,y,xs++[⟨1,t,y⟩],A6,d6,q+1+1,by go_num,rfl,HY.o,by simp;omega,by simpa using o6.setT ka6 (by decide) 1 (.slice A6 (xs.length+1) d6),(fun f hf=>by
     rcases List.mem_append.1 hf with hf|hf
     ·exact HV.o f hf
     ·rw[List.mem_singleton.1 hf];simp[Atm.valid,HT.o,HY.o]),kr6.far (by simp) _,by simpa using ka6.set_ 1 (.slice A6 (xs.length+1) d6),hR6.set_ (by simp only;omega) _,by omega,hF6.set_ (Or.inr (by simp only;omega)) _⟩
    case measure=>simp[intOf];omega
  ·obtain rfl:k=0:=by omega
   (replace qka:=ka.z;replace qkr:=kr.cell;replace rkr:=kr.frozen;replace lkr:=kr.lt);have HX4:aJ (xs.length≤4):=by show _≤_;omega
   (go_wp2_with fail);refine (c_pick g q 3 _ HRR.o (by omega)).mono ?_;rintro e w5 ⟨mm,rfl,-,hR,hF⟩;replace kr:=kr.fr hF (by omega);replace ka:=ka.fr hF (by omega);have HF5:=ax (HF.o.trans hF);have HR5:=ax hR;have HO5:=ax (HO.o.fr hF hlt);have lr:=kr.lt;clear hR hF HF HRR HO qka qkr rkr lkr;(replace qka:=ka.z;replace qkr:=kr.cell;replace rkr:=kr.frozen;replace lkr:=kr.lt);have hne:w.heap.size≠w.heap.size+1:=by omega
   by_cases hm:(mm:Int)=0
   ·have hm':((mm:Int) == 0)=true:=by simpa using hm
    clear hm;(go_wp2_with fail);refine wp_region_noPanic ?_;refine wp_region_last' (S:=(fun w'=>∀ i,w'.cell? ⟨w.heap.size+1,i,none⟩=#[.slice none 0 0,.slice B xs.length d][i]?)) (by simp) (by kernel_rfl) (by kernel_rfl) (Blk.cell blks) (fun aH=>?_);simp only[List.dropLast,List.getLast,nopOf,List.cons_append,List.nil_append,List.length_cons,List.length_nil,Nat.zero_add,Nat.reduceAdd];refine tk2 0 rfl aH (h:=tk2 1 rfl aH (h:=tk2 2 rfl aH (h:=?_)));(try simp only[zz]);refine tk2 5 rfl aH (h:=?_);(try simp only[zz])
    refine wpAnyH_par [3,4,6,7] #[true,true,true,true,true,true,true,true,false,false,false,false,false] 4 (by kernel_rfl) aH
     (fun a0 D a w'=>Fr g w5 w'∧(∃ q',Rdr w' g q'∧q'≤(q+1)+(dn D 4).toNat+(dn D 7).toNat)∧∃ v41 v42 v44 v45,a=((((a0.put (some 41) v41).put (some 42) v42).put (some 44) v44).put (some 45) v45)∧
      (dn D 3=true→∃ x,v41=.slice (some ⟨x,0,none⟩) 3 3∧g<x∧Blk w' x tI #[.int .i64 1,.int .i64 2,.int .i64 5])∧
      (dn D 4=true→∃ m,m∈[(1:Int),2,5]∧v42=.int .i64 m)∧
      (dn D 6=true→∃ x,v44=.slice (some ⟨x,0,none⟩) 4 4∧g<x∧Blk w' x tI #[.int .i64 0,.int .i64 2,.int .i64 3,.int .i64 5])∧
      (dn D 7=true→∃ m,m∈[(0:Int),2,3,5]∧v45=.int .i64 m)) ?start ?steps ?fin
    case start=>
     refine ⟨(Fr.refl g w5).drew,⟨(q+1),HR5.o.bz bel,by omega⟩,undef,undef,undef,undef,rfl,?_,?_,?_,?_⟩
     all_goals exact fun h=>absurd h (by decide)
    case steps=>
     refine ParSteps.cons rfl (fun D a w' hu hd hI hS K' hK G hG=>?_) (ParSteps.cons rfl (fun D a w' hu hd hI hS K' hK G hG=>?_) (ParSteps.cons rfl (fun D a w' hu hd hI hS K' hK G hG=>?_) (ParSteps.cons rfl (fun D a w' hu hd hI hS K' hK G hG=>?_) (ParSteps.nil))))
     ·obtain ⟨hF,⟨q',hR,hq'⟩,v41,v42,v44,v45,ha,h3,h4,h6,h7⟩:=hI;rw[ha] at hG;clear ha a;replace hq':=ax hq';replace hR:=ax hR;replace hF:=ax hF;replace hS:=ax hS;replace h3:=ax h3;replace h4:=ax h4;replace h6:=ax h6;replace h7:=ax h7;refine hG ?_;clear hG;(try simp only[zz]);go_simp;have hF3:=hF.o.alloc (.cells #[.int .i64 1,.int .i64 2,.int .i64 5] tI);exact hK.out _ _ (fun i=>(ka.fr hF3 (by omega)).cell i) ⟨hF3,⟨q',hR.o.bz bel,(by rw[dn_ne (show 3≠4 by decide),dn_ne (show 3≠7 by decide)];exact hq'.o)⟩,(.slice (some ⟨w'.heap.size,0,none⟩) 3 3),v42,v44,v45,rfl,fun _=>⟨w'.heap.size,rfl,hR.o.lt,Blk.new _ _ _⟩,dn_keep (by decide) h4.o id,dn_keep (by decide) h6.o (fun ⟨x,e,hx,hb⟩=>⟨x,e,hx,hb.alloc _⟩),dn_keep (by decide) h7.o id⟩
     ·obtain ⟨hF,⟨q',hR,hq'⟩,v41,v42,v44,v45,ha,h3,h4,h6,h7⟩:=hI;rw[ha] at hG;clear ha a;replace hq':=ax hq';replace hR:=ax hR;replace hF:=ax hF;replace hS:=ax hS;replace h3:=ax h3;replace h4:=ax h4;replace h6:=ax h6;replace h7:=ax h7;have d3:dn D 3=true:=hd ⟨3,.data⟩ (by simp) (by decide);obtain ⟨x,rfl,hx,hb⟩:=h3.o d3;clear h3 hd;refine hG ?_;clear hG;(try simp only[zz]);go_simp;refine (c_numL g q' [(1:Int),2,5] x 3 _ _ hR.o (by have:=hq'.o;have:=Bool.toNat_le (dn D 4);have:=Bool.toNat_le (dn D 7);omega) hb (by rfl) hx (by rfl) (by decide) (by decide)).mono ?_;rintro e w2 ⟨m,hm,rfl,hR2,hF2⟩;have hF3:=hF.o.trans hF2;exact hK.out _ _ (fun i=>(ka.fr hF3 (by omega)).cell i) ⟨hF3,⟨q'+1,hR2,(by have z:=hq'.o;rw[dn_un hu] at z;rw[dn_self hu,dn_ne (show 4≠7 by decide)];simp only[Bool.toNat_true,Bool.toNat_false] at z ⊢;omega)⟩,(.slice (some ⟨x,0,none⟩) 3 3),(.int .i64 m),v44,v45,rfl,fun _=>⟨x,rfl,hx,hb.fr hF2 (by omega)⟩,fun _=>⟨m,hm,rfl⟩,dn_keep (by decide) h6.o (fun ⟨x,e,hx,hb⟩=>⟨x,e,hx,hb.fr hF2 (by omega)⟩),dn_keep (by decide) h7.o id⟩
     ·obtain ⟨hF,⟨q',hR,hq'⟩,v41,v42,v44,v45,ha,h3,h4,h6,h7⟩:=hI;rw[ha] at hG;clear ha a;replace hq':=ax hq';replace hR:=ax hR;replace hF:=ax hF;replace hS:=ax hS;replace h3:=ax h3;replace h4:=ax h4;replace h6:=ax h6;replace h7:=ax h7;refine hG ?_;clear hG;(try simp only[zz]);go_simp;have hF3:=hF.o.alloc (.cells #[.int .i64 0,.int .i64 2,.int .i64 3,.int .i64 5] tI);exact hK.out _ _ (fun i=>(ka.fr hF3 (by omega)).cell i) ⟨hF3,⟨q',hR.o.bz bel,(by rw[dn_ne (show 6≠4 by decide),dn_ne (show 6≠7 by decide)];exact hq'.o)⟩,v41,v42,(.slice (some ⟨w'.heap.size,0,none⟩) 4 4),v45,rfl,dn_keep (by decide) h3.o (fun ⟨x,e,hx,hb⟩=>⟨x,e,hx,hb.alloc _⟩),dn_keep (by decide) h4.o id,fun _=>⟨w'.heap.size,rfl,hR.o.lt,Blk.new _ _ _⟩,dn_keep (by decide) h7.o id⟩
     ·obtain ⟨hF,⟨q',hR,hq'⟩,v41,v42,v44,v45,ha,h3,h4,h6,h7⟩:=hI;rw[ha] at hG;clear ha a;replace hq':=ax hq';replace hR:=ax hR;replace hF:=ax hF;replace hS:=ax hS;replace h3:=ax h3;replace h4:=ax h4;replace h6:=ax h6;replace h7:=ax h7;have d6:dn D 6=true:=hd ⟨6,.data⟩ (by simp) (by decide);obtain ⟨x,rfl,hx,hb⟩:=h6.o d6;clear h6 hd;refine hG ?_;clear hG;(try simp only[zz]);go_simp;refine (c_numL g q' [(0:Int),2,3,5] x 4 _ _ hR.o (by have:=hq'.o;have:=Bool.toNat_le (dn D 4);have:=Bool.toNat_le (dn D 7);omega) hb (by rfl) hx (by rfl) (by decide) (by decide)).mono ?_;rintro e w2 ⟨m,hm,rfl,hR2,hF2⟩;have hF3:=hF.o.trans hF2;exact hK.out _ _ (fun i=>(ka.fr hF3 (by omega)).cell i) ⟨hF3,⟨q'+1,hR2,(by have z:=hq'.o;rw[dn_un hu] at z;rw[dn_self hu,dn_ne (show 7≠4 by decide)];simp only[Bool.toNat_true,Bool.toNat_false] at z ⊢;omega)⟩,v41,v42,(.slice (some ⟨x,0,none⟩) 4 4),(.int .i64 m),rfl,dn_keep (by decide) h3.o (fun ⟨x,e,hx,hb⟩=>⟨x,e,hx,hb.fr hF2 (by omega)⟩),dn_keep (by decide) h4.o id,fun _=>⟨x,rfl,hx,hb.fr hF2 (by omega)⟩,fun _=>⟨m,hm,rfl⟩⟩
    case fin=>
     rintro a w4 aH ⟨hF,⟨q',hR,hq'⟩,v41,v42,v44,v45,rfl,h3,h4,h6,h7⟩;obtain ⟨m4,hm4,rfl⟩:=h4 (by decide);obtain ⟨m7,hm7,rfl⟩:=h7 (by decide);replace hq':q'≤(q+1)+2:=hq';clear h3 h6;(try simp only[zz]);have ka6:=ka.fr hF (by omega);have kr6:=kr.fr hF (by omega);have HA6:=ax (HO5.o.fr hF hlt);have HF6:=ax (HF5.o.trans hF);have HR6:=ax hR;have hM4:=ax ((by decide:∀ m∈[(1:Int),2,5],jq m=true) m4 hm4);have hM7:=ax ((by decide:∀ m∈[(0:Int),2,3,5],jq m=true) m7 hm7);have hsz6:=HF6.o.size;clear hF hR hm4 hm7 ka kr qka qkr rkr lkr HF5 HR5 HO5;refine tk2 8 rfl aH (h:=?_);refine rdc 9 rfl fun K hK=>?_;(try simp only[zz]);go_simp;refine hK.out _ _ (Blk.cell blks) ?_;clear aH hK K;intro aH;(try simp only[zz]);refine rdc 10 rfl fun K hK=>?_;skip;(refine stepFL (xs:=[]) (ys:=[⟨false,m4,m7⟩]) (base:=w.heap.size) rfl _ _ rfl rfl (FactsO.nil _ _) rfl (FactsV.oneB (Blk.newE rfl)) (by simp) (by first|omega|(simp;omega)) ?_;intro A' c' w7 o7 hg7 hB7;have ka7:=Blk.zm (g:=w.heap.size+1) (hg:=hg7) blks (FactsO.nil _ w.heap.size).1 (by decide);have kr7:=Blk.zm (g:=w.heap.size) (hg:=hg7) blks (FactsO.nil _ w.heap.size).1 (by decide);have oa7:=AtomsO.grownF (HA6.o.bz (bbox (Below.refl _ _) _)) (FactsO.nil _ w.heap.size) hg7;rw[List.length_append,List.length_singleton] at o7 ⊢;clear hg7);refine hK.out _ _ (Blk.cell blks) ?_;clear aH hK K;intro aH;(try simp only[zz]);refine tk2 11 rfl aH (h:=?_);(try simp only[zz]);(replace qka7:=ka7.z;replace qkr7:=kr7.cell;replace rkr7:=kr7.frozen;replace lkr7:=kr7.lt);refine rdc 12 rfl fun K hK=>?_;go_simp;refine hK.out _ _ (Blk.cell blks) (fun aH=>?_);clear hK K;refine wpAnyH_done (by kernel_rfl) ?_ _;unfold lastQ;go_simp;refine NoPanic.normal ?_;have hF7:Fr g w w7:=(HF6.o.alloc _).goB hB7 (Nat.le_refl _);have hR7:Rdr w7 g q':=(HR6.o.bz (bbox (Below.refl _ _) _)).belowB hB7 hlt;have HH:=ax (And.intro hF7 (And.intro hR7 (And.intro o7 oa7)));have krx:=kr7.far (p:=⟨w.heap.size+1,0,none⟩) (by simp only;omega) (.slice A' 1 c')
     have HVAL:aJ ((⟨[⟨false,m4,m7⟩],xs⟩:Asn).valid=true):=by
      have:=HX4.o;show _=_;simp only[Asn.valid,factsValid,Bool.and_eq_true,decide_eq_true_eq,List.all_eq_true];refine ⟨⟨by simp,fun f hf=>?_⟩,by omega,HV.o⟩;rw[List.mem_singleton.1 hf];simp[Fct.valid,hM4.o,hM7.o]
     clear hF7 hR7 o7 oa7 hB7;(go_wp2_with fail);refine bodyPost_ret (v:=.agg #[.slice A' 1 c',.slice B xs.length d]) (by simp[results,Tryz.results176,go_sem,qkr7]) rfl ⟨_,⟨[⟨false,m4,m7⟩],xs⟩,q',rfl,⟨_,_,rfl,?_,?_⟩,HVAL.o,by simp,HX4.o,?_,by omega,?_⟩
     ·exact ((HH.o.2.2.1.setT ka7 (by decide) 0 _).setT krx (by decide) 0 _).setT (krx.set_ 0 _) (by decide) 1 _
     ·exact ((HH.o.2.2.2.setT ka7 (by decide) 0 _).setT krx (by decide) 0 _).setT (krx.set_ 0 _) (by decide) 1 _
     ·exact ((HH.o.2.1.set_ (by simp only;omega) _).set_ (by simp only;omega) _).set_ (by simp only;omega) _
     ·exact ((HH.o.1.set_ (Or.inr (by simp only;omega)) _).set_ (Or.inr (by simp only;omega)) _).set_ (Or.inr (by simp only;omega)) _
   ·have hm':((mm:Int) == 0)=false:=by simpa using hm
    clear hm
    have HVAL:aJ ((⟨[],xs⟩:Asn).valid=true):=by
     have:=HX4.o;show _=_;simp only[Asn.valid,factsValid,Bool.and_eq_true,decide_eq_true_eq,List.all_eq_true];exact ⟨⟨by simp,fun f hf=>by cases hf⟩,by omega,HV.o⟩
    (go_wp2_with fail);refine bodyPost_ret (v:=.agg #[.slice none 0 0,.slice B xs.length d]) (by simp[results,Tryz.results176,go_sem,qkr]) rfl ⟨_,⟨[],xs⟩,q+1,rfl,⟨_,_,rfl,FactsO.nil _ _,?_⟩,HVAL.o,by simp,HX4.o,?_,by omega,?_⟩
    ·exact (HO5.o.setT kr (by decide) 0 _).setT (kr.set_ 0 _) (by decide) 1 _
    ·exact (HR5.o.set_ (by simp only;omega) _).set_ (by simp only;omega) _
    ·exact (HF5.o.set_ (Or.inr (by simp only;omega)) _).set_ (Or.inr (by simp only;omega)) _
end
section
open Go Go.RowKit Go.Proofs Go.ChangeShapes Go.WideShapes Go.ChangeAt
theorem okWide_le {P:Program} {w:World} {r:Reach} {base:Nat} {t e:TypeId} {a:Option Addr} {len cap:Nat} (ht:P.underlying t=some (.slice e)) (h:Value.okWide P w r base t (.slice a len cap)):len≤cap:=by
 simp only[Value.okWide,ht,Cell.okWide] at h
 cases a with
 | none=>cases len<;>simp_all [Cell.ok]
 | some a=>simp_all [Cell.ok]
theorem cells_u8:Tryz.prog.cellsOf 5=1:=by kernel_rfl
theorem open_bytes {H:Type} {enc:TypeId×Value→H} {w:World} {v:Value} {d:DataW H} {p:List MemPlace} (hv:Value.okWide Tryz.prog w .any 0 54 v) (h:DataW.Trod enc Tryz.prog w 0 (fun _=>true) true 54 v d p):∃ A:Option Addr×Nat×Nat,v=.slice A.1 A.2.1 A.2.2∧BytesR w A.1 A.2.1 A.2.2:=by
 obtain ⟨a,n,c,rfl⟩:=okWide_slice Tryz.underlying54 hv;have hle:=okWide_le Tryz.underlying54 hv;obtain ⟨fuel,hf⟩:=h
 obtain ⟨A,c',xs,e,hl,hr⟩:=tr_slice (fun b:Fin 256=>[Value.int .u8 (b.val:Int)]) 1 (fun _=>rfl) (by omega) cells_u8 Tryz.underlying54 (fun n cs x h=>by
  obtain ⟨m,e,_,hw⟩:=DataW.trod_int Tryz.underlying5 h;simp[Lit.wf,IntKind.min,IntKind.max,IntKind.signed,IntKind.bits] at hw
  exact ⟨⟨m.toNat,by omega⟩,by rw[e];simp;omega⟩) hf
 have e':[Value.slice a n c]=[.slice A xs.length c']:=by simpa[Value.cells] using e
 injection e' with e';injection e' with e1 e2 e3;subst e1 e2 e3;refine ⟨(a,xs.length,c),rfl,xs.map Fin.val,by simp,?_,fun b hb=>?_,hle,hl⟩
 ·have:xs.flatMap (fun b:Fin 256=>[Value.int .u8 (b.val:Int)])=encU (xs.map Fin.val):=by
   clear hr hl e hle hv hf;unfold encU
   induction xs with
   | nil=>rfl
   | cons x xs ih=>rw[List.flatMap_cons,ih];rfl
  rwa [this] at hr
 ·obtain ⟨x,_,rfl⟩:=List.mem_map.1 hb;exact x.isLt
end
section
open Go
def cl (c:List Int) (t:Int):Int:=(c[t.toNat]?).getD 0
def Fct.fits (c:List Int) (f:Fct):Bool:=decide (cl c f.a=cl c f.b) == f.eq
def Atm.fill (c:List Int) (x:Atm):Bool:=decide (x.kind=1) || !decide (cl c x.a=cl c x.b)
def Atm.cls (c:List Int) (x:Atm):Atm:=⟨x.kind,cl c x.a,cl c x.b⟩
def filledL (xs:List Atm) (c:List Int):List Atm:=(xs.filter (Atm.fill c)).map (Atm.cls c)
def apartF:List Int→List Atm→Bool
 | _,[]=>true
 | seen,x :: xs=>!decide (x.a=0) && !decide (x.a∈seen)&&apartF (seen++[x.a]) xs
def full (a:Asn) (c:List Int):Bool:=a.facts.all (Fct.fits c)&&apartF [] (filledL a.atoms c)
def gen (S:Nat):Nat→List Int→List (List Int)
 | 0,c=>[c]
 | n+1,c=>if S.testBit (8 - n) then (List.range (9 - n)).flatMap fun k=>if k<8 - n∧cl c k≠k then [] else gen S n (c.set (8 - n) k) else gen S n (c.set (8 - n) (-1))
def zeros:List Int:=[0,0,0,0,0,0,0,0,0]
def opened:List Int:=[0,-1,-1,-1,-1,-1,-1,-1,-1]
def cases (a:Asn) (S:Nat):List (List Int):=(gen S 9 zeros).filter (full a)
def possF (c:List Int) (last:Int) (fs:List Fct):Bool:=fs.all fun f=>!(decide (f.a≤last)&&decide (f.b≤last) && !f.fits c)
def inLast (c:List Int) (last:Int) (x:Atm):Bool:=decide (x.a≤last)&&decide (x.b≤last)&&x.fill c
def possA (c:List Int) (last:Int):List Int→List Atm→Bool
 | _,[]=>true
 | seen,x :: xs=>if inLast c last x then !decide (cl c x.a=0) && !decide (cl c x.a∈seen)&&possA c last (seen++[cl c x.a]) xs else possA c last seen xs
def poss (a:Asn) (c:List Int) (last:Int):Bool:=possF c last a.facts&&possA c last [] a.atoms
def fitsS (c:List Int) (fs:List Fct):Bool:=fs.all fun f=>!(decide (0≤cl c f.a)&&decide (0≤cl c f.b) && !f.fits c)
def earlyF (c:List Int):List Int→List Atm→Bool
 | _,[]=>true
 | seen,x :: xs=>if decide (x.kind=1)&&decide (0≤cl c x.a) then !decide (cl c x.a=0) && !decide (cl c x.a∈seen)&&earlyF c (seen++[cl c x.a]) xs else earlyF c seen xs
def seek (a:Asn) (S:Nat):Nat→List Int→List (List Int)
 | 0,c=>if fitsS c a.facts&&earlyF c [] a.atoms then (if apartF [] (filledL a.atoms c) then [c] else []) else []
 | n+1,c=>if fitsS c a.facts&&earlyF c [] a.atoms then (if S.testBit (8 - n) then (List.range (9 - n)).flatMap fun k=>if k<8 - n∧cl c k≠k then [] else seek a S n (c.set (8 - n) k) else seek a S n c) else []
theorem flatMap_congr' {α β:Type} {l:List α} {f g:α→List β} (h:∀ x∈l,f x=g x):l.flatMap f=l.flatMap g:=by
 induction l with
 | nil=>rfl
 | cons x xs ih=>rw[List.flatMap_cons,List.flatMap_cons,h x List.mem_cons_self,ih fun y hy=>h y (List.mem_cons_of_mem _ hy)]
section
variable {c d:List Int}
theorem cl_set (h:c.length=9) {t:Nat} (ht:t<9) (v:Int) {j:Int} (hj:0≤j):cl (c.set t v) j=if j=t then v else cl c j:=by
 unfold cl;by_cases e:j=t
 ·subst e;rw[if_pos rfl,Int.toNat_natCast,List.getElem?_set_self (by omega)];rfl
 ·rw[if_neg e,List.getElem?_set_ne (by omega)]
def Agr (c d:List Int) (last:Int):Prop:=∀ j:Int,0≤j→j≤last→cl d j=cl c j
theorem Agr.fits {f:Fct} {last:Int} (h:Agr c d last) (ha:0≤f.a) (hb:0≤f.b) (h1:f.a≤last) (h2:f.b≤last):f.fits d=f.fits c:=by
 unfold Fct.fits;rw[h _ ha h1,h _ hb h2]
theorem Agr.fill {f:Atm} {last:Int} (h:Agr c d last) (ha:0≤f.a) (hb:0≤f.b) (h1:f.a≤last) (h2:f.b≤last):f.fill d=f.fill c:=by
 unfold Atm.fill;rw[h _ ha h1,h _ hb h2]
def FactsOk (fs:List Fct):Prop:=∀ f∈fs,(0≤f.a∧f.a≤8)∧(0≤f.b∧f.b≤8)
def AtomsOk (xs:List Atm):Prop:=∀ x∈xs,(0≤x.a∧x.a≤8)∧(0≤x.b∧x.b≤8)
theorem Agr.possF {fs:List Fct} {last:Int} (h:Agr c d last) (hf:FactsOk fs):possF d last fs=possF c last fs:=by
 unfold Go.Proofs.YtjaohekkmlkinaaGreat.possF;rw[Bool.eq_iff_iff,List.all_eq_true,List.all_eq_true];refine forall_congr' fun f=>forall_congr' fun hm=>?_;obtain ⟨⟨h1,-⟩,⟨h2,-⟩⟩:=hf f hm;by_cases e1:f.a≤last
 ·by_cases e2:f.b≤last
  ·rw[h.fits h1 h2 e1 e2]
  ·simp[e2]
 ·simp[e1]
theorem Agr.inLast {x:Atm} {last:Int} (h:Agr c d last) (ha:0≤x.a) (hb:0≤x.b):inLast d last x=inLast c last x:=by
 unfold Go.Proofs.YtjaohekkmlkinaaGreat.inLast;by_cases e1:x.a≤last
 ·by_cases e2:x.b≤last
  ·rw[h.fill ha hb e1 e2]
  ·simp[e2]
 ·simp[e1]
theorem inLast_le {x:Atm} {last:Int} (h:inLast c last x=true):x.a≤last∧x.b≤last∧x.fill c=true:=by
 simp[inLast] at h;exact ⟨h.1.1,h.1.2,h.2⟩
theorem Agr.possA {last:Int} (h:Agr c d last):∀ (xs:List Atm) (seen:List Int),AtomsOk xs→possA d last seen xs=possA c last seen xs:=by
 intro xs
 induction xs with
 | nil=>intro seen _;rfl
 | cons x xs ih=>
  intro seen hx;have hx':AtomsOk xs:=fun y hy=>hx y (List.mem_cons_of_mem _ hy);obtain ⟨⟨h1,-⟩,⟨h2,-⟩⟩:=hx x List.mem_cons_self;unfold Go.Proofs.YtjaohekkmlkinaaGreat.possA;rw[h.inLast h1 h2];cases e:Go.Proofs.YtjaohekkmlkinaaGreat.inLast c last x
  ·simp only[Bool.false_eq_true,if_false];exact ih _ hx'
  ·rw[if_pos rfl,if_pos rfl,h _ h1 (inLast_le e).1,ih _ hx']
theorem Agr.poss {a:Asn} {last:Int} (h:Agr c d last) (hf:FactsOk a.facts) (hx:AtomsOk a.atoms):poss a d last=poss a c last:=by
 unfold Go.Proofs.YtjaohekkmlkinaaGreat.poss;rw[h.possF hf,h.possA _ _ hx]
theorem possA_iff (c:List Int) (last:Int):∀ (xs:List Atm) (seen:List Int),possA c last seen xs=true↔
  ((∀ x∈xs,inLast c last x=true→cl c x.a≠0∧cl c x.a∉seen)∧((xs.filter (inLast c last)).map fun x=>cl c x.a).Nodup):=by
 intro xs
 induction xs with
 | nil=>intro seen;simp[possA]
 | cons x xs ih=>
  intro seen;unfold possA;cases e:inLast c last x
  ·simp only[Bool.false_eq_true,if_false,ih];rw[List.filter_cons_of_neg (by simp[e])];constructor
   ·rintro ⟨h1,h2⟩;refine ⟨fun y hy=>?_,h2⟩;rcases List.mem_cons.1 hy with rfl|hy
    ·intro h;rw[e] at h;cases h
    ·exact h1 y hy
   ·rintro ⟨h1,h2⟩;exact ⟨fun y hy=>h1 y (List.mem_cons_of_mem _ hy),h2⟩
  ·rw[if_pos rfl,List.filter_cons_of_pos e,List.map_cons,List.nodup_cons];simp only[Bool.and_eq_true,Bool.not_eq_true',decide_eq_false_iff_not,ih];constructor
   ·rintro ⟨⟨g1,g2⟩,g3,g4⟩;refine ⟨fun y hy hl=>?_,?_,g4⟩
    ·rcases List.mem_cons.1 hy with rfl|hy
     ·exact ⟨g1,g2⟩
     ·have:=g3 y hy hl;exact ⟨this.1,fun h=>this.2 (List.mem_append_left _ h)⟩
    ·intro hm;obtain ⟨y,hy,ey⟩:=List.mem_map.1 hm;rw[List.mem_filter] at hy;exact (g3 y hy.1 hy.2).2 (List.mem_append_right _ (by simp[ey]))
   ·rintro ⟨g1,g2,g3⟩;have:=g1 x List.mem_cons_self e;refine ⟨⟨this.1,this.2⟩,fun y hy hl=>?_,g3⟩;have h2:=g1 y (List.mem_cons_of_mem _ hy) hl;refine ⟨h2.1,fun h=>?_⟩;rcases List.mem_append.1 h with h|h
    ·exact h2.2 h
    ·exact g2 (List.mem_map.2 ⟨y,List.mem_filter.2 ⟨hy,hl⟩,by simpa using h⟩)
theorem apart_possA:∀ (xs:List Atm) (seen:List Int),AtomsOk xs→apartF seen (filledL xs c)=possA c 8 seen xs:=by
 intro xs
 induction xs with
 | nil=>intro seen _;rfl
 | cons x xs ih=>
  intro seen hx;have hx':AtomsOk xs:=fun y hy=>hx y (List.mem_cons_of_mem _ hy);obtain ⟨⟨-,h1⟩,⟨-,h2⟩⟩:=hx x List.mem_cons_self;have e:inLast c 8 x=x.fill c:=by simp[inLast,h1,h2]
  unfold possA filledL;rw[e];cases hf:x.fill c
  ·rw[List.filter_cons_of_neg (by simp[hf])];simp only[Bool.false_eq_true,if_false];exact ih _ hx'
  ·rw[List.filter_cons_of_pos hf,List.map_cons,if_pos rfl];unfold apartF;have:=ih (seen++[cl c x.a]) hx';unfold filledL at this;rw[show (Atm.cls c x).a=cl c x.a from rfl,this]
theorem full_poss {a:Asn} (hf:FactsOk a.facts) (hx:AtomsOk a.atoms):full a c=poss a c 8:=by
 unfold full poss;rw[apart_possA _ _ hx]
 congr 1
 unfold possF;rw[Bool.eq_iff_iff,List.all_eq_true,List.all_eq_true];refine forall_congr' fun f=>forall_congr' fun hm=>?_;obtain ⟨⟨-,h1⟩,⟨-,h2⟩⟩:=hf f hm;simp[h1,h2]
theorem gen_ok (S:Nat):∀ (n:Nat) (c d:List Int),n≤9→c.length=9→d∈gen S n c→d.length=9∧Agr c d (8 - n:Int)∧∀ j:Nat,9 - n≤j→j<9→(S.testBit j=true→0≤cl d j∧cl d j≤j)∧(S.testBit j=false→cl d j = -1):=by
 intro n
 induction n with
 | zero=>
  intro c d _ hc hd;simp only[gen,List.mem_singleton] at hd;subst hd;exact ⟨hc,fun j _ _=>rfl,fun j h1 h2=>by omega⟩
 | succ n ih=>
  intro c d hn hc hd
  have key:∀ v:Int,d∈gen S n (c.set (8 - n) v)→d.length=9∧Agr c d (8 - (n+1:Nat):Int)∧cl d ((8 - n:Nat):Int)=v∧∀ j:Nat,9 - n≤j→j<9→(S.testBit j=true→0≤cl d j∧cl d j≤j)∧(S.testBit j=false→cl d j = -1):=by
   intro v hd;obtain ⟨h1,h2,h3⟩:=ih _ _ (by omega) (by simpa using hc) hd;refine ⟨h1,fun j h0 hj=>?_,?_,h3⟩
   ·rw[h2 j h0 (by omega),cl_set hc (by omega) _ h0,if_neg (by omega)]
   ·rw[h2 _ (by omega) (by omega),cl_set hc (by omega) _ (by omega),if_pos rfl]
  unfold gen at hd;cases e:S.testBit (8 - n)
  ·rw[e] at hd;simp only[Bool.false_eq_true,if_false] at hd;obtain ⟨h1,h2,h3,h4⟩:=key _ hd;refine ⟨h1,h2,fun j hj hj'=>?_⟩;by_cases ej:j=8 - n
   ·subst ej;exact ⟨fun h=>(by rw[e] at h;cases h),fun _=>h3⟩
   ·exact h4 j (by omega) hj'
  ·rw[e,if_pos rfl,List.mem_flatMap] at hd;obtain ⟨k,hk,hd⟩:=hd;rw[List.mem_range] at hk
   split at hd
   ·cases hd
   ·obtain ⟨h1,h2,h3,h4⟩:=key _ hd;refine ⟨h1,h2,fun j hj hj'=>?_⟩;by_cases ej:j=8 - n
    ·subst ej;exact ⟨fun _=>by rw[h3];omega,fun h=>by rw[e] at h;cases h⟩
    ·exact h4 j (by omega) hj'
theorem gen_congr (S:Nat):∀ (n:Nat) (c d:List Int),n≤9→c.length=9→d.length=9→Agr c d (8 - n:Int)→gen S n d=gen S n c:=by
 intro n
 induction n with
 | zero=>
  intro c d _ hc hd h
  have:d=c:=by
   apply List.ext_getElem (by omega);intro j h1 h2;have:=h j (by omega) (by omega);simpa[cl,List.getElem?_eq_getElem h1,List.getElem?_eq_getElem h2] using this
  rw[this]
 | succ n ih=>
  intro c d hn hc hd h
  have key:∀ v:Int,gen S n (d.set (8 - n) v)=gen S n (c.set (8 - n) v):=by
   intro v;refine ih _ _ (by omega) (by simpa using hc) (by simpa using hd) fun j h0 hj=>?_;rw[cl_set hd (by omega) _ h0,cl_set hc (by omega) _ h0]
   split
   ·rfl
   ·exact h j h0 (by omega)
  unfold gen;rw[key]
  split
  ·apply flatMap_congr';intro k hk;rw[List.mem_range] at hk;rw[key];by_cases hlt:k<8 - n
   ·rw[h k (by omega) (by omega)]
   ·simp[hlt]
  ·rfl
theorem filter_none {α:Type} {p:α→Bool} {l:List α} (h:∀ x∈l,p x=false):l.filter p=[]:=by
 rw[List.filter_eq_nil_iff];intro x hx;simp[h x hx]
theorem earlyF_iff (c:List Int):∀ (xs:List Atm) (seen:List Int),earlyF c seen xs=true↔
  ((∀ x∈xs,(x.kind=1∧0≤cl c x.a)→cl c x.a≠0∧cl c x.a∉seen)∧((xs.filter fun x=>decide (x.kind=1)&&decide (0≤cl c x.a)).map fun x=>cl c x.a).Nodup):=by
 intro xs
 induction xs with
 | nil=>intro seen;simp[earlyF]
 | cons x xs ih=>
  intro seen;unfold earlyF;cases e:(decide (x.kind=1)&&decide (0≤cl c x.a))
  ·simp only[Bool.false_eq_true,if_false,ih];have e':¬(x.kind=1∧0≤cl c x.a):=by simpa using e
   rw[List.filter_cons_of_neg (by simp[e])];constructor
   ·rintro ⟨h1,h2⟩;refine ⟨fun y hy=>?_,h2⟩;rcases List.mem_cons.1 hy with rfl|hy
    ·exact fun h=>absurd h e'
    ·exact h1 y hy
   ·rintro ⟨h1,h2⟩;exact ⟨fun y hy=>h1 y (List.mem_cons_of_mem _ hy),h2⟩
  ·have e':x.kind=1∧0≤cl c x.a:=by simpa using e
   rw[if_pos rfl,List.filter_cons_of_pos (by simpa using e),List.map_cons,List.nodup_cons];simp only[Bool.and_eq_true,Bool.not_eq_true',decide_eq_false_iff_not,ih];constructor
   ·rintro ⟨⟨g1,g2⟩,g3,g4⟩;refine ⟨fun y hy hl=>?_,?_,g4⟩
    ·rcases List.mem_cons.1 hy with rfl|hy
     ·exact ⟨g1,g2⟩
     ·have:=g3 y hy hl;exact ⟨this.1,fun h=>this.2 (List.mem_append_left _ h)⟩
    ·intro hm;obtain ⟨y,hy,ey⟩:=List.mem_map.1 hm;rw[List.mem_filter] at hy;exact (g3 y hy.1 (by simpa using hy.2)).2 (List.mem_append_right _ (by simp[ey]))
   ·rintro ⟨g1,g2,g3⟩;have:=g1 x List.mem_cons_self e';refine ⟨⟨this.1,this.2⟩,fun y hy hl=>?_,g3⟩;have h2:=g1 y (List.mem_cons_of_mem _ hy) hl;refine ⟨h2.1,fun h=>?_⟩;rcases List.mem_append.1 h with h|h
    ·exact h2.2 h
    ·exact g2 (List.mem_map.2 ⟨y,List.mem_filter.2 ⟨hy,by simpa using hl⟩,by simpa using h⟩)
theorem full_early {a:Asn} (hf:FactsOk a.facts) (hx:AtomsOk a.atoms) (hA:∀ j:Int,0≤j→j≤8→0≤cl c j→cl d j=cl c j) (h:full a d=true):(fitsS c a.facts&&earlyF c [] a.atoms)=true:=by
 have hp:=h;rw[full_poss hf hx] at hp;unfold full at h;unfold poss at hp;rw[Bool.and_eq_true] at h hp ⊢;have hF:=List.all_eq_true.1 h.1;have hP:=(possA_iff _ _ _ _).1 hp.2;constructor
 ·unfold fitsS;rw[List.all_eq_true];intro f hm;obtain ⟨⟨a1,a2⟩,⟨b1,b2⟩⟩:=hf f hm;by_cases e1:0≤cl c f.a
  ·by_cases e2:0≤cl c f.b
   ·have h1:=hF f hm;unfold Fct.fits at h1 ⊢;rw[hA _ a1 a2 e1,hA _ b1 b2 e2] at h1;simp[h1]
   ·simp[e2]
  ·simp[e1]
 ·have him:∀ x∈a.atoms,x.kind=1∧0≤cl c x.a→inLast d 8 x=true∧cl d x.a=cl c x.a:=by
   rintro x hm ⟨h1,h2⟩;obtain ⟨⟨a1,a2⟩,⟨b1,b2⟩⟩:=hx x hm;exact ⟨by simp[inLast,a2,b2,Atm.fill,h1],hA _ a1 a2 h2⟩
  rw[earlyF_iff];refine ⟨fun x hm hk=>?_,?_⟩
  ·obtain ⟨g1,g2⟩:=him x hm hk;have:=(hP.1 x hm g1).1;rw[g2] at this;exact ⟨this,by simp⟩
  ·have e:((a.atoms.filter fun x=>decide (x.kind=1)&&decide (0≤cl c x.a)).map fun x=>cl c x.a)=((a.atoms.filter fun x=>decide (x.kind=1)&&decide (0≤cl c x.a)).map fun x=>cl d x.a):=by
    apply List.map_congr_left;intro x hm;rw[List.mem_filter] at hm;exact (him x hm.1 (by simpa using hm.2)).2.symm
   rw[e];refine List.Nodup.sublist ?_ hP.2;apply List.Sublist.map
   have e2:(a.atoms.filter fun x=>decide (x.kind=1)&&decide (0≤cl c x.a))=(a.atoms.filter (inLast d 8)).filter fun x=>decide (x.kind=1)&&decide (0≤cl c x.a):=by
    rw[List.filter_filter];apply List.filter_congr;intro x hm;cases e3:(decide (x.kind=1)&&decide (0≤cl c x.a))
    ·simp
    ·simp[(him x hm (by simpa using e3)).1]
   rw[e2];exact List.filter_sublist
theorem seek_eq {a:Asn} {S:Nat} (hf:FactsOk a.facts) (hx:AtomsOk a.atoms) (hS:∀ t:Nat,S.testBit t=false→(∀ f∈a.facts,f.a≠t∧f.b≠t)∧(∀ x∈a.atoms,x.a≠t∧x.b≠t)) :
  ∀ (n:Nat) (c:List Int),n≤9→c.length=9→(∀ j:Nat,9 - n≤j→j<9→cl c j = -1)→(∀ j:Nat,j<9 - n→S.testBit j=true→0≤cl c j)→seek a S n c=(gen S n c).filter (full a):=by
 intro n
 induction n with
 | zero=>
  intro c _ hc _ hp;simp only[seek,gen]
  have hF:fitsS c a.facts=a.facts.all (Fct.fits c):=by
   unfold fitsS;rw[Bool.eq_iff_iff,List.all_eq_true,List.all_eq_true];refine forall_congr' fun f=>forall_congr' fun hm=>?_;obtain ⟨⟨a1,a2⟩,⟨b1,b2⟩⟩:=hf f hm
   have k1:0≤cl c f.a:=by
    obtain ⟨t,e⟩:=Int.eq_ofNat_of_zero_le a1;rw[e];apply hp t (by omega);cases h:S.testBit t
    ·exact absurd e ((hS t h).1 f hm).1
    ·rfl
   have k2:0≤cl c f.b:=by
    obtain ⟨t,e⟩:=Int.eq_ofNat_of_zero_le b1;rw[e];apply hp t (by omega);cases h:S.testBit t
    ·exact absurd e ((hS t h).1 f hm).2
    ·rfl
   simp[k1,k2]
  cases hfu:full a c
  ·rw[filter_none (by simpa using hfu)]
   split
   ·rename_i h1;rw[Bool.and_eq_true,hF] at h1;rw[if_neg];intro h2;unfold full at hfu;rw[h1.1,h2] at hfu;cases hfu
   ·rfl
  ·rw[if_pos (full_early hf hx (fun _ _ _ _=>rfl) hfu),List.filter_cons_of_pos hfu,if_pos]
   ·rfl
   ·unfold full at hfu;rw[Bool.and_eq_true] at hfu;exact hfu.2
 | succ n ih=>
  intro c hn hc hop hp;unfold seek;cases hE:(fitsS c a.facts&&earlyF c [] a.atoms)
  ·simp only[Bool.false_eq_true,if_false]
   symm
   apply filter_none;intro d hd;obtain ⟨-,h2,-⟩:=gen_ok S (n+1) _ d hn hc hd;cases hfu:full a d
   ·rfl
   ·have:=full_early (c:=c) hf hx (fun j h0 h8 hj=>?_) hfu
    ·rw[hE] at this;cases this
    ·apply h2 j h0;by_cases hlt:(8 - (n+1:Nat):Int)<j
     ·obtain ⟨t,e⟩:=Int.eq_ofNat_of_zero_le h0;have:=hop t (by omega) (by omega);rw[e,this] at hj;omega
     ·omega
  ·rw[if_pos rfl];unfold gen;cases e:S.testBit (8 - n)
   ·simp only[Bool.false_eq_true,if_false]
    have e1:c.set (8 - n) (-1)=c:=by
     have:=hop (8 - n) (by omega) (by omega);have hl:8 - n<c.length:=by omega
     have h1:c[8 - n] = -1:=by simpa[cl,List.getElem?_eq_getElem hl] using this
     rw[←h1,List.set_getElem_self]
    rw[e1];refine ih _ (by omega) hc (fun j h1 h2=>hop j (by omega) h2) (fun j h1 h2=>?_);by_cases ej:j=8 - n
    ·subst ej;rw[e] at h2;cases h2
    ·exact hp j (by omega) h2
   ·rw[if_pos rfl,if_pos rfl,List.filter_flatMap];apply flatMap_congr';intro k hk;rw[List.mem_range] at hk
    split
    ·rfl
    ·refine ih _ (by omega) (by simpa using hc) (fun j h1 h2=>?_) (fun j h1 h2=>?_)
     ·rw[cl_set hc (by omega) _ (by omega),if_neg (by omega)];exact hop j (by omega) h2
     ·rw[cl_set hc (by omega) _ (by omega)]
      split
      ·omega
      ·exact hp j (by omega) h2
theorem seek_cases {a:Asn} {S:Nat} (hf:FactsOk a.facts) (hx:AtomsOk a.atoms) (h0:S.testBit 0=true) (hS:∀ t:Nat,S.testBit t=false→(∀ f∈a.facts,f.a≠t∧f.b≠t)∧(∀ x∈a.atoms,x.a≠t∧x.b≠t)):seek a S 8 opened=cases a S:=by
 have hop:∀ j:Nat,9 - 8≤j→j<9→cl opened j = -1:=by
  intro j h1 h2;obtain rfl|rfl|rfl|rfl|rfl|rfl|rfl|rfl:j=1∨j=2∨j=3∨j=4∨j=5∨j=6∨j=7∨j=8:=by omega
  all_goals rfl
 have hcl:∀ j:Nat,j<9 - 8→S.testBit j=true→0≤cl opened j:=by
  intro j h1 _;obtain rfl:j=0:=by omega
  decide
 rw[seek_eq hf hx hS 8 opened (by omega) rfl hop hcl];unfold cases
 congr 1
 show _=(if S.testBit 0 then _ else _);rw[if_pos h0];show _=(List.range 1).flatMap _;rw[show List.range 1=[0] from rfl];simp only[List.flatMap_cons,List.flatMap_nil,List.append_nil];rw[if_neg (by omega)];refine gen_congr S 8 (zeros.set 0 0) opened (by omega) rfl rfl fun j h1 h2=>?_;obtain rfl:j=0:=by omega
 rfl
end
theorem Asn.valid_ok {a:Asn} (h:a.valid=true):FactsOk a.facts∧AtomsOk a.atoms:=by
 simp only[Asn.valid,factsValid,Bool.and_eq_true,List.all_eq_true] at h;refine ⟨fun f hf=>?_,fun x hx=>?_⟩
 ·have:=h.1.2 f hf;simp[Fct.valid,jq] at this;omega
 ·have:=h.2.2 x hx;simp[Atm.valid,jq] at this;omega
def freeAt (atoms:List Atm) (used:List Bool) (c:Int) (k:Nat):Bool:=decide (((atoms[k]?).getD default).a=c) && !((used[k]?).getD true)
def findU (atoms:List Atm) (used:List Bool) (c:Int):Option Nat:=(List.range atoms.length).find? (freeAt atoms used c)
def closedB (atoms:List Atm) (b:Int):Bool:=decide (b=0) || atoms.any fun x=>decide (x.a=b)
def chainF (atoms:List Atm) (b:Int):Nat→List Bool→Int→Option (List Bool)
 | 0,_,_=>none
 | n+1,used,c=>(findU atoms used c).bind fun k=>
   if ((atoms[k]?).getD default).b=b then some (used.set k true)
   else if ((atoms[k]?).getD default).kind=2∧closedB atoms b=false then none
   else chainF atoms b n (used.set k true) ((atoms[k]?).getD default).b
def useOne (atoms:List Atm) (used:List Bool) (x:Atm):Option (List Bool):=
 if x.kind=1 then (findU atoms used x.a).bind fun k=>if (atoms[k]?).getD default=x then some (used.set k true) else none
 else chainF atoms x.b (atoms.length+1) used x.a
def matchF (atoms:List Atm):List Bool→List Atm→Option (List Bool)
 | used,[]=>some used
 | used,x :: xs=>(useOne atoms used x).bind fun u=>matchF atoms u xs
def matchB (atoms goal:List Atm):Bool:=match matchF atoms (List.replicate atoms.length false) goal with|some u=>u.all id|none=>false
def entB (a b:Asn) (c:List Int):Bool:=b.facts.all (Fct.fits c)&&matchB (filledL a.atoms c) (filledL b.atoms c)
theorem range_find_some {n k:Nat} {p:Nat→Bool} (hk:k<n) (hp:p k=true) (hb:∀ j,j<k→p j=false):(List.range n).find? p=some k:=by
 rw[List.find?_range_eq_some];refine ⟨hp,by simpa using hk,fun j hj=>by simp[hb j hj]⟩
theorem range_find_none {n:Nat} {p:Nat→Bool} (hb:∀ j,j<n→p j=false):(List.range n).find? p=none:=by
 rw[List.find?_eq_none];intro j hj;rw[List.mem_range] at hj;simp[hb j hj]
theorem findU_some {atoms:List Atm} {used:List Bool} {c:Int} {k:Nat} (h:findU atoms used c=some k):k<atoms.length∧freeAt atoms used c k=true:=by
 unfold findU at h;have h1:=List.mem_of_find?_eq_some h;exact ⟨by simpa using h1,List.find?_some h⟩
theorem freeAt_used {atoms:List Atm} {used:List Bool} {c:Int} {k:Nat} (h:freeAt atoms used c k=true):k<used.length∧used[k]? = some false:=by
 unfold freeAt at h
 cases e:used[k]? with
 | none=>rw[e] at h;simp at h
 | some u=>
  rw[e] at h;have:=(List.getElem?_eq_some_iff.1 e).1;cases u
  ·exact ⟨this,rfl⟩
  ·simp at h
theorem count_take {used:List Bool} {k:Nat} (h:used[k]? = some false):(used.set k true).count true=used.count true+1:=by
 induction used generalizing k with
 | nil=>simp at h
 | cons u us ih=>
  cases k with
  | zero=>simp at h;subst h;simp
  | succ k=>
   simp only[List.set_cons_succ,List.count_cons];rw[ih (by simpa using h)];omega
end
section
open Go Go.RowKit Go.Proofs
theorem c_impl_isAddr (n:Int) (w:World):Calls Tryz.prog 224 #[.int .i64 n] w fun e w'=>e=.returned (.bool (addrB n))∧w=w':=by
 by_cases h:1≤n
 ·by_cases h2:n≤8
  all_goals
   (go_enter Tryz.func224,Tryz.ntmps224);go_wp2;go_ret;exact ⟨by simp[addrB,h,h2],rfl⟩
 ·(go_enter Tryz.func224,Tryz.ntmps224);go_wp2;go_ret;exact ⟨by simp[addrB];omega,rfl⟩
theorem c_impl_isValue (n:Int) (w:World):Calls Tryz.prog 219 #[.int .i64 n] w fun e w'=>e=.returned (.bool (valB n))∧w=w':=by
 by_cases h:0≤n
 ·by_cases h2:n≤8
  all_goals
   (go_enter Tryz.func219,Tryz.ntmps219);go_wp2;go_ret;exact ⟨by simp[valB,h,h2],rfl⟩
 ·(go_enter Tryz.func219,Tryz.ntmps219);go_wp2;go_ret;exact ⟨by simp[valB];omega,rfl⟩
theorem c_spec_l2Addr (n:Int) (w:World):Calls Tryz.prog 213 #[.int .i64 n] w fun e w'=>e=.returned (.bool (valB n))∧w=w':=by
 by_cases h:0≤n
 ·by_cases h2:n≤8
  all_goals
   (go_enter Tryz.func213,Tryz.ntmps213);go_wp2;go_ret;exact ⟨by simp[valB,h,h2],rfl⟩
 ·(go_enter Tryz.func213,Tryz.ntmps213);go_wp2;go_ret;exact ⟨by simp[valB];omega,rfl⟩
theorem c_impl_content {lo hi:Nat} (v:Value) (s:Ste) (a:Int) (w:World) (h:StateV w lo hi v s) (h8:s.heap.length=8):Calls Tryz.prog 223 #[v,.int .i64 a] w fun e w'=>e=.returned (.int .i64 (cont s.heap a))∧Below w.heap.size w w':=by
 obtain ⟨A1,c1,A2,c2,rfl,h1,h2⟩:=h;cases ha:addrB a
 ·(go_enter Tryz.func223,Tryz.ntmps223);(go_wp2_with (go_at_call 224;refine (c_impl_isAddr _ _).mono ?_;rintro e w' ⟨rfl,rfl⟩));go_ret;exact ⟨ret_int (by simp[cont,ha]),bel⟩
 ·have ha':=ha;simp only[addrB,decide_eq_true_eq] at ha';obtain ⟨g1,g2⟩:=ha';obtain ⟨n,rfl⟩:∃ n:Nat,a=n+1:=⟨(a - 1).toNat,by omega⟩;have hn:n<s.heap.length:=by omega
  have h0:((n:Int)+1 - 1)=(n:Int):=by omega
  obtain ⟨b,off,rfl,c0⟩:=h2.at hn;have hbl:=block_lt_of_cell c0;have H8:=ax h8;have hlt:(n:Int)<(s.heap.length:Int):=by omega
  clear h8 g1;have hr:cont s.heap ((n:Int)+1)=s.heap[n]:=by simp[cont,ha,h0,List.getElem?_eq_getElem hn]
  have HR:=ax hr;clear hr;(go_enter Tryz.func223,Tryz.ntmps223);(go_wp2_with (go_at_call 224;refine (c_impl_isAddr _ _).mono ?_;rintro e w' ⟨rfl,rfl⟩));go_ret;exact ⟨ret_int HR.o.symm,bel⟩
theorem c_impl_allocated {lo hi:Nat} (v:Value) (s:Ste) (a:Int) (w:World) (h:StateV w lo hi v s) (h8:s.heap.length=8):Calls Tryz.prog 170 #[v,.int .i64 a] w fun e w'=>e=.returned (.bool (allocB s.heap a))∧Below w.heap.size w w':=by
 have h':=h;obtain ⟨A1,c1,A2,c2,rfl,h1,h2⟩:=h';have H8:=ax h8;clear h8;(go_enter Tryz.func170,Tryz.ntmps170);(go_wp2_with fail);refine (c_impl_content _ s a _ (h.bz bel) H8.o).mono ?_;rintro e w1 ⟨rfl,hB1⟩;(go_wp2_with fail);go_ret;exact ⟨zjD (by simp[allocB]),bgo (w:=w) bel hB1⟩
theorem c_impl_termValue {lo hi:Nat} (A:Option Addr) (c:Nat) (vs:List Int) (t:Int) (w:World) (h:IntsV w lo hi A vs) (h0:0≤t) (hl:t≤vs.length):Calls Tryz.prog 221 #[.slice A vs.length c,.int .i64 t] w fun e w'=>e=.returned (.int .i64 (tval vs t))∧w=w':=by
 have hL:=h.le;by_cases ht:t=0
 ·subst ht;(go_enter Tryz.func221,Tryz.ntmps221);go_wp2;go_ret;exact ⟨rfl,rfl⟩
 ·obtain ⟨n,rfl⟩:∃ n:Nat,t=n+1:=⟨(t - 1).toNat,by omega⟩;have hn:n<vs.length:=by omega
  have e0:((n:Int)+1 - 1)=(n:Int):=by omega
  obtain ⟨b,off,rfl,c0⟩:=h.at hn;have hlt:(n:Int)<(vs.length:Int):=by omega
  have HR:=ax (show tval vs ((n:Int)+1)=vs[n] by simp[tval,e0,List.getElem?_eq_getElem hn];omega);have ht':((n:Int)+1 == 0)=false:=by simpa using ht
  clear ht h0 hl;(go_enter Tryz.func221,Tryz.ntmps221);go_wp2;go_ret;exact ⟨ret_int HR.o.symm,rfl⟩
theorem c_spec_l1Value {lo hi:Nat} (A:Option Addr) (c:Nat) (vs:List Int) (t:Int) (w:World) (h:IntsV w lo hi A vs) (h0:0≤t) (hl:t≤vs.length):Calls Tryz.prog 211 #[.slice A vs.length c,.int .i64 t] w fun e w'=>e=.returned (.int .i64 (tval vs t))∧w=w':=by
 have hL:=h.le;by_cases ht:t=0
 ·subst ht;(go_enter Tryz.func211,Tryz.ntmps211);go_wp2;go_ret;exact ⟨rfl,rfl⟩
 ·obtain ⟨n,rfl⟩:∃ n:Nat,t=n+1:=⟨(t - 1).toNat,by omega⟩;have hn:n<vs.length:=by omega
  have e0:((n:Int)+1 - 1)=(n:Int):=by omega
  obtain ⟨b,off,rfl,c0⟩:=h.at hn;have hlt:(n:Int)<(vs.length:Int):=by omega
  have HR:=ax (show tval vs ((n:Int)+1)=vs[n] by simp[tval,e0,List.getElem?_eq_getElem hn];omega);have ht':((n:Int)+1 == 0)=false:=by simpa using ht
  clear ht h0 hl;(go_enter Tryz.func211,Tryz.ntmps211);go_wp2;go_ret;exact ⟨ret_int HR.o.symm,rfl⟩
theorem c_impl_StateValid {lo hi:Nat} (v:Value) (s:Ste) (w:World) (h:StateV w lo hi v s):Calls Tryz.prog 164 #[v] w fun e w'=>e=.returned (.bool s.valid)∧Below w.heap.size w w':=by
 obtain ⟨A1,c1,A2,c2,rfl,h1,h2⟩:=h;have hl1:=h1.le;have hl2:=h2.le;by_cases e1:s.values.length=8
 ·by_cases e2:s.heap.length=8
  ·have t1:((s.values.length:Int) != 8)=false:=by simp[e1]
   have t2:((s.heap.length:Int) != 8)=false:=by simp[e2]
   have HV:aJ (s.valid=(s.values.all valB&&s.heap.all cellB)):=by simp[aJ,Ste.valid,e1,e2]
   clear e1 e2;(go_enter Tryz.func164,Tryz.ntmps164);go_wp2;clear t1 t2
   go_loop [20] (fun i=>∃ k:Nat,k≤s.values.length∧i=.int .i64 k∧aJ (s.values.all valB=(s.values.drop k).all valB)) (fun i=>s.values.length - (intOf i).toNat)
   case atStart=>exact ⟨0,Nat.zero_le _,rfl,by simp[aJ]⟩
   case round=>
    obtain ⟨k,hk,rfl,HA⟩:=hrel;by_cases hlt:k<s.values.length
    ·obtain ⟨b,off,rfl,c0⟩:=h1.at hlt;have hbl:=block_lt_of_cell c0;have HD:=ax (all_drop valB s.values k hlt);cases hc:valB s.values[k]
     ·(go_wp2_with (go_at_call 219;refine (c_impl_isValue _ _).mono ?_;rintro e w' ⟨rfl,rfl⟩));go_ret;exact ⟨zjD (by rw[HV.o,HA.o,HD.o,hc];rfl),bel⟩
     ·go_wp2_with (go_at_call 219;refine (c_impl_isValue _ _).mono ?_;rintro e w' ⟨rfl,rfl⟩)
      go_round
      case rel=>exact ⟨k+1,by omega,by go_num,by show _=_;rw[HA.o,HD.o,hc];rfl⟩
      case measure=>simp[intOf];omega
    ·obtain rfl:k=s.values.length:=by omega
     have HA2:aJ (s.valid=s.heap.all cellB):=by show _=_;rw[HV.o,HA.o,List.drop_length];rfl
     go_wp2
     go_loop [31] (fun i=>∃ k:Nat,k≤s.heap.length∧i=.int .i64 k∧aJ (s.heap.all cellB=(s.heap.drop k).all cellB)) (fun i=>s.heap.length - (intOf i).toNat)
     case atStart=>exact ⟨0,Nat.zero_le _,rfl,by simp[aJ]⟩
     case round=>
      clear HA;obtain ⟨k,hk,rfl,HA⟩:=hrel;by_cases hlt:k<s.heap.length
      ·obtain ⟨b,off,rfl,c0⟩:=h2.at hlt;have hbl:=block_lt_of_cell c0;have HD:=ax (all_drop cellB s.heap k hlt);cases hm:(s.heap[k] != -1)
       ·have hc:cellB s.heap[k]=true:=by simp[cellB];left;simpa using hm
        have HC:=ax hc;clear hc;(go_wp2_with (go_at_call 219;refine (c_impl_isValue _ _).mono ?_;rintro e w' ⟨rfl,rfl⟩))
        go_round
        case rel=>exact ⟨k+1,by omega,by go_num,by show _=_;rw[HA.o,HD.o,HC.o];rfl⟩
        case measure=>simp[intOf];omega
       ·have hne:s.heap[k]≠-1:=by simpa using hm
        have HC:aJ (cellB s.heap[k]=valB s.heap[k]):=by simp[aJ,cellB,hne]
        clear hne;cases hc:valB s.heap[k]
        ·(go_wp2_with (go_at_call 219;refine (c_impl_isValue _ _).mono ?_;rintro e w' ⟨rfl,rfl⟩));go_ret;exact ⟨zjD (by rw[HA2.o,HA.o,HD.o,HC.o,hc];rfl),bel⟩
        ·go_wp2_with (go_at_call 219;refine (c_impl_isValue _ _).mono ?_;rintro e w' ⟨rfl,rfl⟩)
         go_round
         case rel=>exact ⟨k+1,by omega,by go_num,by show _=_;rw[HA.o,HD.o,HC.o,hc];rfl⟩
         case measure=>simp[intOf];omega
      ·obtain rfl:k=s.heap.length:=by omega
       go_wp2;go_ret;exact ⟨zjD (by rw[HA2.o,HA.o,List.drop_length];rfl),bel⟩
  ·have t2:((s.heap.length:Int) != 8)=true:=by simp;omega
   have HV:aJ (s.valid=false):=by simp[aJ,Ste.valid,e2]
   clear e2;have t1:((s.values.length:Int) != 8)=false:=by simp[e1]
   clear e1;(go_enter Tryz.func164,Tryz.ntmps164);go_wp2;go_ret;exact ⟨zjD HV.o.symm,bel⟩
 ·have t1:((s.values.length:Int) != 8)=true:=by simp;omega
  have HV:aJ (s.valid=false):=by simp[aJ,Ste.valid,e1]
  clear e1;(go_enter Tryz.func164,Tryz.ntmps164);go_wp2;go_ret;exact ⟨zjD HV.o.symm,bel⟩
theorem c_spec_l2Has {lo hi:Nat} (v:Value) (s:Ste) (a:Int) (w:World) (h:StateV w lo hi v s) (h8:s.heap.length=8):Calls Tryz.prog 218 #[v,.int .i64 a] w fun e w'=>e=.returned (.bool (allocB s.heap a))∧Below w.heap.size w w':=by
 obtain ⟨A1,c1,A2,c2,rfl,h1,h2⟩:=h;by_cases ha:1≤a
 ·by_cases ha2:a≤8
  ·obtain ⟨n,rfl⟩:∃ n:Nat,a=n+1:=⟨(a - 1).toNat,by omega⟩;have hn:n<s.heap.length:=by omega
   have h0:((n:Int)+1 - 1)=(n:Int):=by omega
   obtain ⟨b,off,rfl,c0⟩:=h2.at hn;have hbl:=block_lt_of_cell c0;have hlt:(n:Int)<(s.heap.length:Int):=by omega
   have HR:aJ (allocB s.heap ((n:Int)+1)=decide (0≤s.heap[n])):=by
    have:addrB ((n:Int)+1)=true:=by simp[addrB];omega
    simp[aJ,allocB,cont,this,h0,List.getElem?_eq_getElem hn]
   clear h8;(go_enter Tryz.func218,Tryz.ntmps218);go_wp2;go_ret;exact ⟨zjD HR.o.symm,bel⟩
  ·have HR:aJ (allocB s.heap a=false):=by
    have:addrB a=false:=by simp[addrB];omega
    simp[aJ,allocB,cont,this]
   clear h8;(go_enter Tryz.func218,Tryz.ntmps218);go_wp2;go_ret;exact ⟨zjD HR.o.symm,bel⟩
 ·have HR:aJ (allocB s.heap a=false):=by
   have:addrB a=false:=by simp[addrB];omega
   simp[aJ,allocB,cont,this]
  clear h8;(go_enter Tryz.func218,Tryz.ntmps218);go_wp2;go_ret;exact ⟨zjD HR.o.symm,bel⟩
theorem c_spec_l2Walk {lo hi:Nat} (v:Value) (s:Ste) (a tz0:Int) (w:World) (h:StateV w lo hi v s) (h8:s.heap.length=8) :
  Calls Tryz.prog 258 #[v,.int .i64 a,.int .i64 tz0] w fun e w'=>∃ r,e=.returned (.tuple #[r,.bool (walkF s.heap 8 a tz0).isSome])∧IntsO w' w.heap.size r ((walkF s.heap 8 a tz0).getD [])∧Below w.heap.size w w':=by
 have hV:=ax h;obtain ⟨A1,c1,A2,c2,rfl,h1,h2⟩:=h;have H8:=ax h8;clear h8;(go_enter Tryz.func258,Tryz.ntmps258);go_wp2
 go_loopw [1,8] (fun i o wr=>∃ (n:Nat) (x:Int) (way:List Int) (A:Option Addr) (c:Nat),i=.int .i64 x∧o=.slice A way.length c∧way.length+n=8∧IntsO wr (w.heap.size+1) (.slice A way.length c) way∧
   aJ (walkF s.heap 8 a tz0=(walkF s.heap n x tz0).map (way ++ ·))∧Blk wr w.heap.size 61 #[.slice A1 s.values.length c1,.slice A2 s.heap.length c2]∧Below w.heap.size w wr) (fun _ o _=>8 - (match o with | .slice _ n _=>n|_=>0))
 case atStart=>exact ⟨8,a,[],_,_,rfl,rfl,rfl,IntsO.empty _ (by simp),by simp[aJ],blks,bel⟩
 case round=>
  obtain ⟨n,x,way,A,c,rfl,rfl,hn,hO,HA,hK,hB⟩:=hrel;have HN:=ax hn;have hn8:way.length≤8:=by omega
  clear hn;have q:=hK.cell;by_cases hx:x=tz0
  ·subst hx;have hne:(x != x)=false:=by simp
   go_wp2;go_ret2;exact ⟨_,by rw[HA.o,walkF_here];rfl,by rw[HA.o,walkF_here];simpa using hO.bq (Nat.le_succ _),hB⟩
  ·have hne:(x != tz0)=true:=by simpa using hx
   have HX:=ax hx;clear hx;cases hs:allocB s.heap x
   ·(go_wp2_with fail);refine (c_spec_l2Has _ s x _ (hV.o.bz hB) H8.o).mono ?_;rintro e w1 ⟨rfl,hB1⟩;(go_wp2_with fail);go_ret2;have hB2:=bgo hB hB1;refine ⟨_,by rw[HA.o,walkF_stop _ _ HX.o (.inl hs)];rfl,?_,bel⟩;rw[HA.o,walkF_stop _ _ HX.o (.inl hs)];exact (IntsO.empty w1 rfl).bq (by have:=hB.size;have:=hB1.size;omega)
   ·cases n with
    | zero=>
     have hge:(8:Int)≤(way.length:Int):=by have:=HN.o;omega
     (go_wp2_with fail);refine (c_spec_l2Has _ s x _ (hV.o.bz hB) H8.o).mono ?_;rintro e w1 ⟨rfl,hB1⟩;have hB2:=bgo hB hB1;(go_wp2_with fail);go_ret2;refine ⟨_,by rw[HA.o,walkF_stop _ _ HX.o (.inr rfl)];rfl,?_,bel⟩;rw[HA.o,walkF_stop _ _ HX.o (.inr rfl)];exact (IntsO.empty w1 rfl).bq (by have:=hB.size;have:=hB1.size;omega)
    | succ n=>
     have hge:(way.length:Int)<8:=by have:=HN.o;omega
     have ha:=(cont_alloc hs).1;have ha2:=ha;simp only[addrB,decide_eq_true_eq] at ha2;obtain ⟨x1,x2⟩:=ha2;obtain ⟨m,rfl⟩:∃ m:Nat,x=m+1:=⟨(x - 1).toNat,by omega⟩;have hm:m<s.heap.length:=by have:=H8.o;omega
     have h0:((m:Int)+1 - 1)=(m:Int):=by omega
     have hlt:(m:Int)<(s.heap.length:Int):=by omega
     have HR:=ax (show cont s.heap ((m:Int)+1)=s.heap[m] by simp[cont,ha,h0,List.getElem?_eq_getElem hm]);obtain ⟨b,off,rfl,-⟩:=h2.at hm;clear ha x1;(go_wp2_with fail);refine (c_spec_l2Has _ s _ _ (hV.o.bz hB) H8.o).mono ?_;rintro e w1 ⟨rfl,hB1⟩;have hB2:=bgo hB hB1;have hK1:=hK.nz hB1;have hO1:=hO.bz hB1;clear q;have q:=hK1.cell;(go_wp2_with (at_builtin;refine appI rfl _ _ rfl (v:=.slice A way.length c) rfl (hO1.abv (Abv.alloc (Abv.refl 0 _) _) (Nat.zero_le _)) w1.heap.size _ rfl (cell_box w1 _ _) (by omega) (by simp;have:=hB2.size;have:=hK1.lt;omega) ?_;intro g' c' w2 hO2 hg2 hB3;have hK2:=(hK1.alloc _).bz hB3 (Nat.lt_succ_self _);have q2:=hK2.cell;have hB4:=Below.trans (bbox hB2 _) (hB3.mono (Nat.le_succ _));have c0:=(h2.bz hB4).cl hm))
     go_round
     case rel=>
      refine ⟨n,s.heap[m],way++[(m:Int)+1],some ⟨g',0,none⟩,c',rfl,by simp,by have:=HN.o;simp;omega,by simpa using hO2,?_,hK2,hB4⟩;show _=_;rw[HA.o,walkF_on _ _ HX.o hs,HR.o];simp[Option.map_map,Function.comp_def]
     case measure=>simp;omega
theorem c_impl_cellHas (S:Nat) (n:Int) (w:World) (hS:S<65536):Calls Tryz.prog 169 #[.int .u16 S,.int .i64 n] w fun e w'=>e=.returned (.bool (addrB n&&S.testBit n.toNat))∧w=w':=by
 cases ha:addrB n
 ·(go_enter Tryz.func169,Tryz.ntmps169);(go_wp2_with (go_at_call 224;refine (c_impl_isAddr _ _).mono ?_;rintro e w' ⟨rfl,rfl⟩));go_ret;exact ⟨rfl,rfl⟩
 ·have ha2:=ha;simp only[addrB,decide_eq_true_eq] at ha2;obtain ⟨m,rfl⟩:=Int.eq_ofNat_of_zero_le (show 0≤n by omega);obtain ⟨x1,x2⟩:=ha2;(go_enter Tryz.func169,Tryz.ntmps169);(go_wp2_with (go_at_call 224;refine (c_impl_isAddr _ _).mono ?_;rintro e w' ⟨rfl,rfl⟩));go_ret;exact ⟨zjD (by simp[bit_has _ _ hS]),rfl⟩
theorem used_succ (h:List Int) (k:Nat):((List.range' 1 (k+1)).filter fun n=>allocB h (n:Nat)).map (fun n:Nat=>(n:Int))=((List.range' 1 k).filter fun n=>allocB h (n:Nat)).map (fun n:Nat=>(n:Int))++if allocB h ((k:Int)+1) then [(k:Int)+1] else []:=by
 rw[List.range'_1_concat,List.filter_append,List.map_append,Nat.add_comm 1 k];have e:((k+1:Nat):Int)=(k:Int)+1:=by omega
 cases h':allocB h ((k:Int)+1)<;>simp[h']
def usedL (h:List Int) (k:Nat):List Int:=((List.range' 1 k).filter fun n=>allocB h (n:Nat)).map (fun n:Nat=>(n:Int))
theorem usedL_mem (h:List Int) (k:Nat) (x:Int):x∈usedL h k↔1≤x∧x≤k∧allocB h x=true:=by
 unfold usedL;simp only[List.mem_map,List.mem_filter,List.mem_range'_1];constructor
 ·rintro ⟨n,⟨h1,h2⟩,rfl⟩;exact ⟨by omega,by omega,h2⟩
 ·rintro ⟨h1,h2,h3⟩;obtain ⟨n,rfl⟩:=Int.eq_ofNat_of_zero_le (show 0≤x by omega);exact ⟨n,⟨by omega,h3⟩,rfl⟩
theorem usedL_lt (h:List Int) {k:Nat} (hk:k≤8):bitsOf (usedL h k)<512:=by
 have:=bitsOf_lt (l:=usedL h k) (k:=9) (fun x hx=>by have:=(usedL_mem h k x).1 hx;omega);simpa using this
theorem c_impl_usedIn {lo hi:Nat} (v:Value) (s:Ste) (w:World) (h:StateV w lo hi v s) (h8:s.heap.length=8):Calls Tryz.prog 99 #[v] w fun e w'=>e=.returned (.int .u16 (bitsOf (usedL s.heap 8)))∧Below w.heap.size w w':=by
 have hV:=ax h;obtain ⟨A1,c1,A2,c2,rfl,h1,h2⟩:=h;have H8:=ax h8;clear h8;(go_enter Tryz.func99,Tryz.ntmps99);go_wp2
 go_loopw [3,4] (fun S i wr=>∃ (k:Nat),k≤8∧i=.int .i64 (k+1)∧S=.int .u16 (bitsOf (usedL s.heap k))∧Blk wr w.heap.size 61 #[.slice A1 s.values.length c1,.slice A2 s.heap.length c2]∧Below w.heap.size w wr) (fun _ i _=>9 - (intOf i).toNat)
 case atStart=>exact ⟨0,by omega,rfl,rfl,blks,bel⟩
 case round=>
  obtain ⟨k,hk,rfl,rfl,hK,hB⟩:=hrel;have q:=hK.cell;by_cases hn:k<8
  ·have HU:=ax (used_succ s.heap k);cases hs:allocB s.heap ((k:Int)+1)
   ·(go_wp2_with fail);refine (c_impl_allocated _ s _ _ (hV.o.bz hB) H8.o).mono ?_;rintro e w1 ⟨rfl,hB1⟩;(go_wp2_with fail)
    go_round
    case rel=>exact ⟨k+1,by omega,by go_num,by rw[show usedL s.heap (k+1)=usedL s.heap k by (show _=_);unfold usedL;rw[HU.o,hs];simp],hK.nz hB1,bgo hB hB1⟩
    case measure=>simp[intOf];omega
   ·(go_wp2_with fail);refine (c_impl_allocated _ s _ _ (hV.o.bz hB) H8.o).mono ?_;rintro e w1 ⟨rfl,hB1⟩;(go_wp2_with fail)
    go_round
    case rel=>
     have e:usedL s.heap (k+1)=usedL s.heap k++[(k:Int)+1]:=by unfold usedL;rw[HU.o,hs];simp
     have hlt:=usedL_lt s.heap (k:=k) (by omega);refine ⟨k+1,by omega,by go_num,?_,hK.nz hB1,bgo hB hB1⟩;rw[e,bitsOf_snoc]
     congr 1
     rw[show ((k:Int)+1).toNat=k+1 from by omega];exact bit_or _ _ (by omega) (by omega)
    case measure=>simp[intOf];omega
  ·obtain rfl:k=8:=by omega
   go_wp2;go_ret;exact ⟨rfl,hB⟩
theorem valid_terms {fs:List Fct} (h:fs.all Fct.valid=true) {k:Nat} (hk:k<fs.length):0≤fs[k].a∧fs[k].a≤8∧0≤fs[k].b∧fs[k].b≤8:=by
 have:=List.all_eq_true.1 h fs[k] (List.getElem_mem hk);simp[Fct.valid,jq] at this;omega
theorem holds_no {vs:List Int} {f:Fct} (h:(!(tval vs f.a == tval vs f.b) == f.eq)=true):Fct.holds vs f=false:=by
 unfold Fct.holds;cases he:f.eq<;>by_cases hd:tval vs f.a=tval vs f.b<;>simp_all
theorem holds_yes {vs:List Int} {f:Fct} (h:(!(tval vs f.a == tval vs f.b) == f.eq)=false):Fct.holds vs f=true:=by
 unfold Fct.holds;cases he:f.eq<;>by_cases hd:tval vs f.a=tval vs f.b<;>simp_all
theorem c_impl_FactsHold {lo hi lo' hi':Nat} (A A':Option Addr) (c c':Nat) (fs:List Fct) (vs:List Int) (w:World) (h:FactsV w lo hi A fs) (h':IntsV w lo' hi' A' vs):Calls Tryz.prog 167 #[.slice A fs.length c,.slice A' vs.length c'] w fun e w'=>e=.returned (.bool (factsHold fs vs))∧Below w.heap.size w w':=by
 have hl:=h.le;have hl':=h'.le;cases hv:factsValid fs
 ·(go_enter Tryz.func167,Tryz.ntmps167);(go_wp2_with (go_at_call 87;refine (c_impl_FactsValid A c fs _ h).mono ?_;rintro e w1 ⟨rfl,hB1⟩));go_ret;exact ⟨zjD (by simp[factsHold,hv]),hB1⟩
 ·by_cases h8:vs.length=8
  ·have hall:fs.all Fct.valid=true:=by simp only[factsValid,Bool.and_eq_true] at hv;exact hv.2
   have HALL:=ax hall;have HF:aJ (factsHold fs vs=fs.all (Fct.holds vs)):=by simp[aJ,factsHold,hv,h8]
   have h8':((vs.length:Int) != 8)=false:=by simp[h8]
   have H8:=ax h8;clear hall h8;(go_enter Tryz.func167,Tryz.ntmps167);(go_wp2_with (go_at_call 87;refine (c_impl_FactsValid A c fs _ h).mono ?_;rintro e w1 ⟨rfl,hB1⟩));clear h8'
   go_loopw [17] (fun i wr=>∃ k:Nat,k≤fs.length∧i=.int .i64 k∧aJ (fs.all (Fct.holds vs)=(fs.drop k).all (Fct.holds vs))∧Below w.heap.size w wr) (fun i _=>fs.length - (intOf i).toNat)
   case atStart=>exact ⟨0,Nat.zero_le _,rfl,by simp[aJ],hB1⟩
   case round=>
    clear hB1;obtain ⟨k,hk,rfl,HA,hB⟩:=hrel;by_cases hlt:k<fs.length
    ·obtain ⟨b,off,rfl,c0,c1,c2⟩:=(h.bz hB).at hlt;have HD:=ax (all_drop (Fct.holds vs) fs k hlt);obtain ⟨g1,g2,g3,g4⟩:=valid_terms HALL.o hlt;have h8'':(vs.length:Int)≤8∧8≤(vs.length:Int):=by have:=H8.o;omega
     cases hh:(!(tval vs fs[k].a == tval vs fs[k].b) == fs[k].eq)
     all_goals
      have HH:=ax hh;(go_wp2_with fail);(go_quiet ((go_at_call 221;exact Calls.quiet_of_same ((c_impl_termValue A' c' vs _ _ ((h'.bz (bbox hB _)).dr _) (by omega) (by omega)).mono fun _ _ ⟨a,b⟩=>⟨a,b.symm⟩))));(go_wp2_with fail)
     ·go_round
      case rel=>
       refine ⟨k+1,by omega,by go_num,?_,below_drewN (bbox hB _) _⟩;show _=_;rw[HA.o,HD.o,holds_yes HH.o];rfl
      case measure=>simp[intOf];omega
     ·go_ret;refine ⟨zjD ?_,below_drewN (bbox hB _) _⟩;rw[HF.o,HA.o,HD.o,holds_no HH.o];rfl
    ·obtain rfl:k=fs.length:=by omega
     go_wp2;go_ret;exact ⟨zjD (by rw[HF.o,HA.o,List.drop_length];rfl),hB⟩
  ·have h8':((vs.length:Int) != 8)=true:=by simp;omega
   have HF:aJ (factsHold fs vs=false):=by simp[aJ,factsHold,h8]
   clear h8;(go_enter Tryz.func167,Tryz.ntmps167);(go_wp2_with (go_at_call 87;refine (c_impl_FactsValid A c fs _ h).mono ?_;rintro e w1 ⟨rfl,hB1⟩));go_ret;exact ⟨zjD HF.o.symm,hB1⟩
theorem c_spec_l1Hold {lo hi lo' hi':Nat} (A A':Option Addr) (c c':Nat) (fs:List Fct) (vs:List Int) (w:World) (h:FactsV w lo hi A fs) (h':IntsV w lo' hi' A' vs) (hall:fs.all Fct.valid=true) (h8:vs.length=8):Calls Tryz.prog 214 #[.slice A fs.length c,.slice A' vs.length c'] w fun e w'=>e=.returned (.bool (fs.all (Fct.holds vs)))∧Below w.heap.size w w':=by
 have hl:=h.le;have hl':=h'.le;have HALL:=ax hall;have H8:=ax h8;clear hall h8;(go_enter Tryz.func214,Tryz.ntmps214);go_wp2
 go_loopw [5] (fun i wr=>∃ k:Nat,k≤fs.length∧i=.int .i64 k∧aJ (fs.all (Fct.holds vs)=(fs.drop k).all (Fct.holds vs))∧Below w.heap.size w wr) (fun i _=>fs.length - (intOf i).toNat)
 case atStart=>exact ⟨0,Nat.zero_le _,rfl,by simp[aJ],bel⟩
 case round=>
  obtain ⟨k,hk,rfl,HA,hB⟩:=hrel;by_cases hlt:k<fs.length
  ·obtain ⟨b,off,rfl,c0,c1,c2⟩:=(h.bz hB).at hlt;have HD:=ax (all_drop (Fct.holds vs) fs k hlt);obtain ⟨g1,g2,g3,g4⟩:=valid_terms HALL.o hlt;have h8'':(vs.length:Int)≤8∧8≤(vs.length:Int):=by have:=H8.o;omega
   cases hh:(!(tval vs fs[k].a == tval vs fs[k].b) == fs[k].eq)
   all_goals
    have HH:=ax hh;(go_wp2_with fail);(go_quiet ((go_at_call 211;exact Calls.quiet_of_same ((c_spec_l1Value A' c' vs _ _ ((h'.bz hB).dr _) (by omega) (by omega)).mono fun _ _ ⟨a,b⟩=>⟨a,b.symm⟩))));(go_wp2_with fail)
   ·go_round
    case rel=>
     refine ⟨k+1,by omega,by go_num,?_,below_drewN hB _⟩;show _=_;rw[HA.o,HD.o,holds_yes HH.o];rfl
    case measure=>simp[intOf];omega
   ·go_ret;refine ⟨zjD ?_,below_drewN hB _⟩;rw[HA.o,HD.o,holds_no HH.o];rfl
  ·obtain rfl:k=fs.length:=by omega
   go_wp2;go_ret;exact ⟨zjD (by rw[HA.o,List.drop_length];rfl),hB⟩
theorem c_impl_WalkCells {lo hi:Nat} (v:Value) (s:Ste) (a tz0:Int) (w:World) (h:StateV w lo hi v s) (hs:s.valid=true) (ha:valB a=true) (hto:valB tz0=true) :
  Calls Tryz.prog 222 #[v,.int .i64 a,.int .i64 tz0] w fun e w'=>∃ r,e=.returned (.tuple #[r,.bool (walkF s.heap 8 a tz0).isSome])∧IntsO w' w.heap.size r ((walkF s.heap 8 a tz0).getD [])∧Below w.heap.size w w':=by
 have hV:=ax h;obtain ⟨A1,c1,A2,c2,rfl,h1,h2⟩:=h;have H8:=ax (Ste.valid_len hs).2;(go_enter Tryz.func222,Tryz.ntmps222);(go_wp2_with fail);refine (c_impl_StateValid _ s _ (hV.o.bz bel)).mono ?_;rintro e w1 ⟨rfl,hB1⟩;have hB:=bgo (w:=w) bel hB1;have hK:=Blk.nz (g:=w.heap.size) blks hB1;have q:=hK.cell;(go_wp2_with (go_at_call 219;refine (c_impl_isValue _ _).mono ?_;rintro e w' ⟨rfl,rfl⟩));clear q hs
 go_loopw [8,9] (fun o i wr=>∃ (n:Nat) (x:Int) (way:List Int) (A:Option Addr) (c:Nat),i=.int .i64 x∧o=.slice A way.length c∧way.length+n=8∧IntsO wr (w.heap.size+1) (.slice A way.length c) way∧
   aJ (walkF s.heap 8 a tz0=(walkF s.heap n x tz0).map (way ++ ·))∧Blk wr w.heap.size 61 #[.slice A1 s.values.length c1,.slice A2 s.heap.length c2]∧Below w.heap.size w wr) (fun o _ _=>8 - (match o with | .slice _ n _=>n|_=>0))
 case atStart=>exact ⟨8,a,[],none,0,rfl,rfl,rfl,IntsO.nil _ _,by simp[aJ],hK,hB⟩
 case round=>
  clear hB hK;obtain ⟨n,x,way,A,c,rfl,rfl,hn,hO,HA,hK,hB⟩:=hrel;have HN:=ax hn;have hn8:way.length≤8:=by omega
  clear hn;have q:=hK.cell;by_cases hx:x=tz0
  ·subst hx;have hne:(x != x)=false:=by simp
   go_wp2;go_ret2;exact ⟨_,by rw[HA.o,walkF_here];rfl,by rw[HA.o,walkF_here];simpa using hO.bq (Nat.le_succ _),hB⟩
  ·have hne:(x != tz0)=true:=by simpa using hx
   have HX:=ax hx;clear hx;cases hs:allocB s.heap x
   ·(go_wp2_with fail);refine (c_impl_allocated _ s x _ (hV.o.bz hB) H8.o).mono ?_;rintro e w1 ⟨rfl,hB1⟩;(go_wp2_with fail);go_ret2;have hB2:=bgo hB hB1;refine ⟨_,by rw[HA.o,walkF_stop _ _ HX.o (.inl hs)];rfl,?_,hB2⟩;rw[HA.o,walkF_stop _ _ HX.o (.inl hs)];exact IntsO.nil _ _
   ·cases n with
    | zero=>
     have hge:((way.length:Int) == 8)=true:=by have:=HN.o;simp;omega
     (go_wp2_with fail);refine (c_impl_allocated _ s x _ (hV.o.bz hB) H8.o).mono ?_;rintro e w1 ⟨rfl,hB1⟩;have hB2:=bgo hB hB1;(go_wp2_with fail);go_ret2;refine ⟨_,by rw[HA.o,walkF_stop _ _ HX.o (.inr rfl)];rfl,?_,hB2⟩;rw[HA.o,walkF_stop _ _ HX.o (.inr rfl)];exact IntsO.nil _ _
    | succ n=>
     have hge:((way.length:Int) == 8)=false:=by have:=HN.o;simp;omega
     have hge2:way.length<8:=by have:=HN.o;omega
     (go_wp2_with fail);refine (c_impl_allocated _ s _ _ (hV.o.bz hB) H8.o).mono ?_;rintro e w1 ⟨rfl,hB1⟩;have hB2:=bgo hB hB1;have hK1:=hK.nz hB1;have hO1:=hO.bz hB1;clear q;have q:=hK1.cell
     go_wp2_with (first
      | (at_builtin;refine appI rfl _ _ rfl (v:=.slice A way.length c) rfl (hO1.abv (Abv.alloc (Abv.refl 0 _) _) (Nat.zero_le _)) w1.heap.size _ rfl (cell_box w1 _ _) (by omega) (by simp;have:=hB2.size;have:=hK1.lt;omega) ?_;intro g' c' w2 hO2 hg2 hB3;have hK2:=(hK1.alloc _).bz hB3 (Nat.lt_succ_self _);have q2:=hK2.cell;have hB4:=Below.trans (bbox hB2 _) (hB3.mono (Nat.le_succ _)))
      | (go_at_call 223;refine (c_impl_content _ s _ _ (hV.o.bz hB4) H8.o).mono ?_;rintro e w3 ⟨rfl,hB5⟩))
     go_round
     case rel=>
      refine ⟨n,cont s.heap x,way++[x],some ⟨g',0,none⟩,c',rfl,by simp,by have:=HN.o;simp;omega,by simpa using hO2.bz hB5,?_,hK2.nz hB5,bgo hB4 hB5⟩;show _=_;rw[HA.o,walkF_on _ _ HX.o hs];simp[Option.map_map,Function.comp_def]
     case measure=>simp;omega
theorem c_spec_StateValid {lo hi:Nat} (v:Value) (s:Ste) (w:World) (h:StateV w lo hi v s):Calls Tryz.prog 158 #[v] w fun e w'=>e=.returned (.bool s.valid)∧Below w.heap.size w w':=by
 obtain ⟨A1,c1,A2,c2,rfl,h1,h2⟩:=h;have hl1:=h1.le;have hl2:=h2.le;(go_enter Tryz.func158,Tryz.ntmps158);go_wp2
 go_loop [3] (fun i=>∃ k:Nat,k≤s.values.length∧i=.int .i64 k∧aJ (s.values.all valB=(s.values.drop k).all valB)) (fun i=>s.values.length - (intOf i).toNat)
 case atStart=>exact ⟨0,Nat.zero_le _,rfl,by simp[aJ]⟩
 case round=>
  obtain ⟨k,hk,rfl,HA⟩:=hrel;by_cases hlt:k<s.values.length
  ·obtain ⟨b,off,rfl,c0⟩:=h1.at hlt;have hbl:=block_lt_of_cell c0;have HD:=ax (all_drop valB s.values k hlt);cases hc:valB s.values[k]
   ·(go_wp2_with (go_at_call 213;refine (c_spec_l2Addr _ _).mono ?_;rintro e w' ⟨rfl,rfl⟩));go_ret;exact ⟨zjD (by rw[Ste.valid,HA.o,HD.o,hc];simp),bel⟩
   ·go_wp2_with (go_at_call 213;refine (c_spec_l2Addr _ _).mono ?_;rintro e w' ⟨rfl,rfl⟩)
    go_round
    case rel=>exact ⟨k+1,by omega,by go_num,by show _=_;rw[HA.o,HD.o,hc];rfl⟩
    case measure=>simp[intOf];omega
  ·obtain rfl:k=s.values.length:=by omega
   have HA2:aJ (s.values.all valB=true):=by show _=_;rw[HA.o,List.drop_length];rfl
   go_wp2
   go_loop [4] (fun i=>∃ k:Nat,k≤s.heap.length∧i=.int .i64 k∧aJ (s.heap.all cellB=(s.heap.drop k).all cellB)) (fun i=>s.heap.length - (intOf i).toNat)
   case atStart=>exact ⟨0,Nat.zero_le _,rfl,by simp[aJ]⟩
   case round=>
    clear HA;obtain ⟨k,hk,rfl,HA⟩:=hrel;by_cases hlt:k<s.heap.length
    ·obtain ⟨b,off,rfl,c0⟩:=h2.at hlt;have hbl:=block_lt_of_cell c0;have HD:=ax (all_drop cellB s.heap k hlt);cases hm:(s.heap[k] != -1)
     ·have hc:cellB s.heap[k]=true:=by simp[cellB];left;simpa using hm
      have HC:=ax hc;clear hc;(go_wp2_with (go_at_call 213;refine (c_spec_l2Addr _ _).mono ?_;rintro e w' ⟨rfl,rfl⟩))
      go_round
      case rel=>exact ⟨k+1,by omega,by go_num,by show _=_;rw[HA.o,HD.o,HC.o];rfl⟩
      case measure=>simp[intOf];omega
     ·have hne:s.heap[k]≠-1:=by simpa using hm
      have HC:aJ (cellB s.heap[k]=valB s.heap[k]):=by simp[aJ,cellB,hne]
      clear hne;cases hc:valB s.heap[k]
      ·(go_wp2_with (go_at_call 213;refine (c_spec_l2Addr _ _).mono ?_;rintro e w' ⟨rfl,rfl⟩));go_ret;exact ⟨zjD (by rw[Ste.valid,HA2.o,HA.o,HD.o,HC.o,hc];simp),bel⟩
      ·go_wp2_with (go_at_call 213;refine (c_spec_l2Addr _ _).mono ?_;rintro e w' ⟨rfl,rfl⟩)
       go_round
       case rel=>exact ⟨k+1,by omega,by go_num,by show _=_;rw[HA.o,HD.o,HC.o,hc];rfl⟩
       case measure=>simp[intOf];omega
    ·obtain rfl:k=s.heap.length:=by omega
     have HV:aJ (s.valid=(decide (s.values.length=8)&&decide (s.heap.length=8))):=by show _=_;rw[Ste.valid,HA2.o,HA.o,List.drop_length];simp
     by_cases e1:s.values.length=8
     ·have t1:((s.values.length:Int) == 8)=true:=by simp[e1]
      have E1:=ax e1;clear e1;by_cases e2:s.heap.length=8
      ·have t2:((s.heap.length:Int) == 8)=true:=by simp[e2]
       have E2:=ax e2;clear e2;go_wp2;go_ret;exact ⟨zjD (by rw[HV.o];simp[E1.o,E2.o]),bel⟩
      ·have t2:((s.heap.length:Int) == 8)=false:=by simp;omega
       have E2:=ax e2;clear e2;go_wp2;go_ret;exact ⟨zjD (by rw[HV.o];simp[E1.o,E2.o]),bel⟩
     ·have t1:((s.values.length:Int) == 8)=false:=by simp;omega
      have E1:=ax e1;clear e1;go_wp2;go_ret;exact ⟨zjD (by rw[HV.o];simp[E1.o]),bel⟩
theorem c_impl_AtomCells {lo hi:Nat} (v:Value) (s:Ste) (x:Atm) (w:World) (h:StateV w lo hi v s) (hs:s.valid=true) (hx:x.valid=true) :
  Calls Tryz.prog 168 #[v,x.val] w fun e w'=>∃ r,e=.returned (.tuple #[r,.bool (atomCells s x).isSome])∧IntsO w' w.heap.size r ((atomCells s x).getD [])∧Below w.heap.size w w':=by
 have hV:=ax h;obtain ⟨A1,c1,A2,c2,rfl,h1,h2⟩:=h;have HS:=ax hs;have HX:=ax hx;have H8:=ax (Ste.valid_len hs);have hvals:s.values.all valB=true:=by simp only[Ste.valid,Bool.and_eq_true] at hs;exact hs.2.1
 have hb1:=tval_le hvals x.a;have hb2:=tval_le hvals x.b
 have ha:0≤x.a∧x.a≤8∧0≤x.b∧x.b≤8∧(x.kind=1∨x.kind=2):=by
  have hx':=hx;simp[Atm.valid,jq] at hx';omega
 have hk:=ax ha.2.2.2.2;obtain ⟨p1,p2,p3,p4,-⟩:=ha;clear hvals;have HE:aJ (atomCells s x=if x.kind=2 then walkF s.heap 8 (tval s.values x.a) (tval s.values x.b) else if cont s.heap (tval s.values x.a)=tval s.values x.b then some [tval s.values x.a] else none):=rfl;(go_enter Tryz.func168,Tryz.ntmps168);(go_wp2_with fail);refine (c_impl_StateValid _ s _ (hV.o.bz bel)).mono ?_;rintro e w1 ⟨rfl,hB1⟩;have hB:=bgo (w:=w) bel hB1;have hK:=Blk.nz (g:=w.heap.size) blks hB1;have hK2:=Blk.nz (g:=w.heap.size+1) (by rw[←World.size_alloc];exact Blk.new (w.alloc _) _ _) hB1;have q:=hK.cell;have q2:=hK2.cell;(go_wp2_with fail);refine (c_impl_atomValid x _).mono ?_;rintro e w2 ⟨rfl,hB2⟩;have hBw2:=bgo hB hB2;have hL:=hK.nz hB2;have hL2:=hK2.nz hB2;clear q q2 hK hK2;have q:=hL.cell;have q2:=hL2.cell;have l8:(s.values.length:Int)≤8∧8≤(s.values.length:Int):=by have:=H8.o;omega
 (go_wp2_with fail);clear hs hx;(go_quiet ((go_at_call 221;exact Calls.quiet_of_same ((c_impl_termValue A1 c1 s.values _ _ ((h1.bz hBw2).dr _) (by omega) (by omega)).mono fun _ _ ⟨a,b⟩=>⟨a,b.symm⟩))));have hBd:=below_drewN hBw2 nq;have hD:=hL.drewN nq;have hD2:=hL2.drewN nq;clear q q2 hL hL2;have q:=hD.cell;have q2:=hD2.cell;generalize w2.drewN nq=w3 at *;by_cases hk2:x.kind=2
 ·have t:(x.kind == 2)=true:=by simpa using hk2
  have HK2:=ax hk2;clear hk2;(go_wp2_with fail);refine (c_impl_WalkCells _ s _ _ _ (hV.o.bz hBd) HS.o (by simp[valB];omega) (by simp[valB];omega)).mono ?_;rintro e w4 ⟨r,rfl,hO,hB4⟩;(go_wp2_with fail);go_ret2;have e:atomCells s x=walkF s.heap 8 (tval s.values x.a) (tval s.values x.b):=by rw[HE.o,if_pos HK2.o]
  exact ⟨_,by rw[e];rfl,by rw[e];exact hO.bq hBd.size,bgo hBd hB4⟩
 ·have t:(x.kind == 2)=false:=by simpa using hk2
  have HK2:=ax hk2;clear hk2;by_cases hc:cont s.heap (tval s.values x.a)=tval s.values x.b
  ·have t2:(cont s.heap (tval s.values x.a) != tval s.values x.b)=false:=by simpa using hc
   have HC:=ax hc;clear hc;(go_wp2_with (go_at_call 223;refine (c_impl_content _ s _ _ (hV.o.bz hBd) H8.o.2).mono ?_;rintro e w4 ⟨rfl,hB4⟩));go_ret2;have e:atomCells s x=some [tval s.values x.a]:=by rw[HE.o,if_neg HK2.o,if_pos HC.o]
   refine ⟨_,by rw[e];rfl,?_,bbox (bgo hBd hB4) _⟩;rw[e];exact IntsO.one _ _ (Nat.le_trans hBd.size hB4.size)
  ·have t2:(cont s.heap (tval s.values x.a) != tval s.values x.b)=true:=by simpa using hc
   have HC:=ax hc;clear hc;(go_wp2_with (go_at_call 223;refine (c_impl_content _ s _ _ (hV.o.bz hBd) H8.o.2).mono ?_;rintro e w4 ⟨rfl,hB4⟩));go_ret2;have e:atomCells s x=none:=by rw[HE.o,if_neg HK2.o,if_neg HC.o]
   exact ⟨_,by rw[e];rfl,by rw[e];exact IntsO.nil _ _,bgo hBd hB4⟩
theorem c_spec_l4Cells {lo hi:Nat} (v:Value) (s:Ste) (x:Atm) (w:World) (h:StateV w lo hi v s) (hs:s.valid=true) (hx:x.valid=true) :
  Calls Tryz.prog 217 #[v,x.val] w fun e w'=>∃ r,e=.returned (.tuple #[r,.bool (atomCells s x).isSome])∧IntsO w' w.heap.size r ((atomCells s x).getD [])∧Below w.heap.size w w':=by
 have hV:=ax h;obtain ⟨A1,c1,A2,c2,rfl,h1,h2⟩:=h;have H8:=ax (Ste.valid_len hs);have hvals:s.values.all valB=true:=by simp only[Ste.valid,Bool.and_eq_true] at hs;exact hs.2.1
 have hb1:=tval_le hvals x.a;have hb2:=tval_le hvals x.b
 have ha:0≤x.a∧x.a≤8∧0≤x.b∧x.b≤8∧(x.kind=1∨x.kind=2):=by
  have hx':=hx;simp[Atm.valid,jq] at hx';omega
 have hk:=ax ha.2.2.2.2;obtain ⟨p1,p2,p3,p4,-⟩:=ha;have l8:(s.values.length:Int)≤8∧8≤(s.values.length:Int):=by have:=H8.o;omega
 clear hvals hs hx;have HE:aJ (atomCells s x=if x.kind=2 then walkF s.heap 8 (tval s.values x.a) (tval s.values x.b) else if cont s.heap (tval s.values x.a)=tval s.values x.b then some [tval s.values x.a] else none):=rfl;have l81:0≤x.a∧x.a≤s.values.length:=by omega
 have l82:0≤x.b∧x.b≤s.values.length:=by omega
 have hB:Below w.heap.size w ((w.alloc (.cells #[.slice A1 s.values.length c1,.slice A2 s.heap.length c2] 61)).alloc (.cells #[.int .i64 x.kind,.int .i64 x.a,.int .i64 x.b] 128)):=bel;by_cases hk2:x.kind=2
 ·have t:(x.kind == 2)=true:=by simpa using hk2
  have HK2:=ax hk2;clear hk2;(go_enter Tryz.func217,Tryz.ntmps217);(go_wp2_with (go_at_call 211;refine (c_spec_l1Value A1 c1 s.values _ _ (h1.bz hB) (by omega) (by omega)).mono ?_;rintro e w' ⟨rfl,rfl⟩));refine (c_spec_l2Walk _ s _ _ _ (hV.o.bz hB) H8.o.2).mono ?_;rintro e w4 ⟨r,rfl,hO,hB4⟩;(go_wp2_with fail);go_ret2;have e:atomCells s x=walkF s.heap 8 (tval s.values x.a) (tval s.values x.b):=by rw[HE.o,if_pos HK2.o]
  exact ⟨_,by rw[e];rfl,by rw[e];exact hO.bq hB.size,bgo hB hB4⟩
 ·have t:(x.kind == 2)=false:=by simpa using hk2
  have HK2:=ax hk2;clear hk2;cases hal:allocB s.heap (tval s.values x.a)
  ·have hcn:cont s.heap (tval s.values x.a)≠tval s.values x.b:=by simp[allocB] at hal;omega
   have HC:=ax hcn;clear hcn;(go_enter Tryz.func217,Tryz.ntmps217)
   go_wp2_with (first
    | (go_at_call 211;refine (c_spec_l1Value A1 c1 s.values _ _ (h1.bz hB) (by omega) (by omega)).mono ?_;rintro e w' ⟨rfl,rfl⟩)
    | (go_at_call 218;refine (c_spec_l2Has _ s _ _ (hV.o.bz hB) H8.o.2).mono ?_;rintro e w4 ⟨rfl,hB4⟩))
   go_ret2;have e:atomCells s x=none:=by rw[HE.o,if_neg HK2.o,if_neg HC.o]
   exact ⟨_,by rw[e];rfl,by rw[e];exact (IntsO.empty w4 rfl).bq (Nat.le_trans hB.size hB4.size),bbox (bgo hB hB4) _⟩
  ·have hcad:=cont_alloc hal;have hcad2:=hcad.1;simp only[addrB,decide_eq_true_eq] at hcad2;obtain ⟨m,hm⟩:∃ m:Nat,tval s.values x.a=(m:Int)+1:=⟨(tval s.values x.a - 1).toNat,by omega⟩;have hml:m<s.heap.length:=by have:=H8.o;omega
   have h0:((m:Int)+1 - 1)=(m:Int):=by omega
   obtain ⟨b,off,rfl,-⟩:=h2.at hml;have hlt:(m:Int)<(s.heap.length:Int):=by omega
   have hr:cont s.heap (tval s.values x.a)=s.heap[m]:=by rw[hm];simp[cont,addrB,h0,List.getElem?_eq_getElem hml];omega
   have HR:=ax hr;have HM:=ax hm;have hAx:allocB s.heap ((m:Int)+1)=true:=by rw[←hm];exact hal
   have hm8:(m:Int)+1≤8:=by omega
   clear hr hal hcad hcad2 hb1;(go_enter Tryz.func217,Tryz.ntmps217)
   go_wp2_with (first
    | (go_at_call 211;refine (c_spec_l1Value A1 c1 s.values _ _ (h1.bz hB) (by omega) (by omega)).mono ?_;rintro e w' ⟨rfl,rfl⟩)
    | (go_at_call 218;refine (c_spec_l2Has _ s _ _ (hV.o.bz hB) H8.o.2).mono ?_;rintro e w4 ⟨rfl,hB4⟩;have hB5:=bgo hB hB4;have hK4:=(Blk.nz (g:=w.heap.size) blks hB4).cell;have c0:=(h2.bz hB5).cl hml))
   ·have hc:¬s.heap[m]=tval s.values x.b:=by
     have:(s.heap[m] != tval s.values x.b)=true:=by assumption
     simpa using this
    go_ret2;have e:atomCells s x=none:=by rw[HE.o,if_neg HK2.o,HR.o,if_neg hc]
    exact ⟨_,by rw[e];rfl,by rw[e];exact (IntsO.empty w4 rfl).bq hB5.size,bbox hB5 _⟩
   ·have hc:s.heap[m]=tval s.values x.b:=by
     have:(s.heap[m] != tval s.values x.b)=false:=by assumption
     simpa using this
    go_ret2;have e:atomCells s x=some [(m:Int)+1]:=by rw[HE.o,if_neg HK2.o,HR.o,if_pos hc,HM.o]
    exact ⟨_,by rw[e];rfl,by rw[e];exact IntsO.one _ _ hB5.size,bbox hB5 _⟩
theorem partAtoms_step (s:Ste) (seen:List Int) (xs:List Atm) (k:Nat) (hk:k<xs.length):partAtoms s seen (xs.drop k)=(atomCells s xs[k]).bind fun cs=>(addAll seen cs).bind fun seen'=>partAtoms s seen' (xs.drop (k+1)):=by
 rw[List.drop_eq_getElem_cons hk];rfl
theorem addAll_step (seen cs:List Int) (k:Nat) (hk:k<cs.length):addAll seen (cs.drop k)=if cs[k]∈seen then none else addAll (seen++[cs[k]]) (cs.drop (k+1)):=by
 rw[List.drop_eq_getElem_cons hk];rfl
theorem addrB_iff {x:Int}:addrB x=true↔1≤x∧x≤8:=by simp[addrB]
theorem seen_lt {seen:List Int} (h:∀ c∈seen,addrB c=true):bitsOf seen<512:=by
 have:=bitsOf_lt (l:=seen) (k:=9) (fun x hx=>by have:=addrB_iff.1 (h x hx);omega);simpa using this
theorem seen_bit {seen:List Int} (h:∀ c∈seen,addrB c=true) {x:Int} (hx:0≤x):(bitsOf seen).testBit x.toNat=decide (x∈seen):=by
 rw[testBit_bitsOf (fun y hy=>by have:=addrB_iff.1 (h y hy);omega),Int.toNat_of_nonneg hx]
theorem atoms_valid {a:Asn} (h:a.valid=true) {k:Nat} (hk:k<a.atoms.length):a.atoms[k].valid=true:=by
 simp only[Asn.valid,Bool.and_eq_true] at h;exact List.all_eq_true.1 h.2.2 _ (List.getElem_mem hk)
theorem c_impl_partOf {lo hi lo' hi':Nat} (v v':Value) (s:Ste) (a:Asn) (w:World) (h:StateV w lo hi v s) (h':AsnV w lo' hi' v' a) :
  Calls Tryz.prog 98 #[v,v'] w fun e w'=>e=.returned (.tuple #[.int .u16 (bitsOf ((partOf s a).getD [])),.bool (partOf s a).isSome])∧Below w.heap.size w w':=by
 have hV:=ax h;have hV':=ax h';obtain ⟨A1,c1,A2,c2,rfl,h1,h2⟩:=h;obtain ⟨A3,c3,A4,c4,rfl,h3,h4⟩:=h';have hl4:=h4.le;have HP:aJ (partOf s a=if s.valid&&a.valid&&factsHold a.facts s.values then partAtoms s [] a.atoms else none):=rfl;(go_enter Tryz.func98,Tryz.ntmps98);(go_wp2_with fail);refine (c_impl_StateValid _ s _ (hV.o.bz bel)).mono ?_;rintro e w1 ⟨rfl,hB1⟩;have hB:=bgo (w:=w) bel hB1;have hK:=Blk.nz (g:=w.heap.size) blks hB1;have hK2:=Blk.nz (g:=w.heap.size+1) (by rw[←World.size_alloc];exact Blk.new (w.alloc _) _ _) hB1;have q:=hK.cell;have q2:=hK2.cell;cases hs:s.valid
 ·(go_wp2_with fail);go_ret2;exact ⟨by rw[HP.o,hs];rfl,hB⟩
 (go_wp2_with fail);refine (jz _ a _ (hV'.o.bz hB)).mono ?_;rintro e w2 ⟨rfl,hB2⟩;have hBw2:=bgo hB hB2;have hL:=hK.nz hB2;have hL2:=hK2.nz hB2;clear q q2 hK hK2;have q:=hL.cell;have q2:=hL2.cell;cases ha:a.valid
 ·(go_wp2_with fail);go_ret2;exact ⟨by rw[HP.o,hs,ha];rfl,hBw2⟩
 (go_wp2_with fail);refine (c_impl_FactsHold A3 A1 c3 c1 a.facts s.values _ (h3.bz hBw2) (h1.bz hBw2)).mono ?_;rintro e w3 ⟨rfl,hB3⟩;have hBw3:=bgo hBw2 hB3;have hM:=hL.nz hB3;have hM2:=hL2.nz hB3;clear q q2 hL hL2;have q:=hM.cell;have q2:=hM2.cell;cases hf:factsHold a.facts s.values
 ·(go_wp2_with fail);go_ret2;exact ⟨by rw[HP.o,hs,ha,hf];rfl,hBw3⟩
 (go_wp2_with fail);have HP2:aJ (partOf s a=partAtoms s [] a.atoms):=by show _=_;rw[HP.o,hs,ha,hf];rfl
 have HS:=ax hs;have HV:=ax ha;clear hs ha hf q q2 HP hB1 hB2 hB3 hB hBw2
 go_loopw [6,32] (fun S i wr=>∃ (k:Nat) (seen:List Int),k≤a.atoms.length∧i=.int .i64 k∧S=.int .u16 (bitsOf seen)∧aJ (∀ c∈seen,addrB c=true)∧aJ (partOf s a=partAtoms s seen (a.atoms.drop k))∧
   Blk wr w.heap.size 61 #[.slice A1 s.values.length c1,.slice A2 s.heap.length c2]∧Below w.heap.size w wr) (fun _ i _=>a.atoms.length - (intOf i).toNat)
 case atStart=>exact ⟨0,[],Nat.zero_le _,rfl,rfl,(by intro c hc;cases hc),HP2.o,hM,hBw3⟩
 case round=>
  clear hM hM2 hBw3;obtain ⟨k,seen,hk,rfl,rfl,HSN,HA,hK,hB⟩:=hrel;have q:=hK.cell;by_cases hlt:k<a.atoms.length
  ·obtain ⟨b,off,rfl,g0,g1,g2⟩:=(h4.bz hB).at hlt;have HST:=ax (partAtoms_step s seen a.atoms k hlt);have hKl:=hK.lt;(go_wp2_with fail);refine (c_impl_AtomCells _ s a.atoms[k] _ (hV.o.bz (bbox hB _)) HS.o (atoms_valid HV.o hlt)).mono ?_;rintro e w4 ⟨r,rfl,hO,hB4⟩;have hBw4:=bgo (bbox hB _) hB4;have hK4:=(hK.alloc _).nz hB4;obtain ⟨B,d,rfl,hR⟩:=hO.rj;clear q
   cases hac:atomCells s a.atoms[k] with
   | none=>
    have HAC:=ax hac;clear hac;(go_wp2_with fail);go_ret2;exact ⟨by rw[HA.o,HST.o,HAC.o];rfl,hBw4⟩
   | some cs=>
    have hcs:=atomCells_addr HS.o hac;have HCS:=ax hcs.2;have hcl:=hcs.1;have HAC:=ax hac;rw[HAC.o] at hR;simp only[Option.getD_some] at hR;simp only[Option.getD_some,Option.isSome_some];clear hac hcs hO;(go_wp2_with fail);obtain ⟨wo,hwo⟩:∃ wo:World,wo=w4:=⟨_,rfl⟩
    go_loop [6,46] (fun S i=>∃ (j:Nat) (sn:List Int),j≤cs.length∧i=.int .i64 j∧S=.int .u16 (bitsOf sn)∧aJ (∀ c∈sn,addrB c=true)∧aJ (addAll seen cs=addAll sn (cs.drop j))) (fun _ i=>cs.length - (intOf i).toNat)
    case atStart=>exact ⟨0,seen,Nat.zero_le _,rfl,rfl,HSN,by simp[aJ]⟩
    case round=>
     obtain ⟨j,sn,hj,rfl,rfl,HN2,HA2⟩:=hrel;by_cases hjl:j<cs.length
     ·obtain ⟨b2,off2,rfl,c0⟩:=hR.at hjl;have HD:=ax (addAll_step sn cs j hjl);have had:=(HCS.o _ (List.getElem_mem hjl)).1;have hab:=addrB_iff.1 had;obtain ⟨m,hm⟩:=Int.eq_ofNat_of_zero_le (show 0≤cs[j] by omega);have hbit:=ax (seen_bit HN2.o (show 0≤cs[j] by omega));have HAD:=ax had;have hs5:=seen_lt HN2.o;have HM:=ax hm;clear had hm hab;by_cases hmem:cs[j]∈sn
      ·have HMM:=ax hmem;clear hmem;(go_wp2_with fail);refine (c_impl_cellHas (bitsOf sn) _ _ (by omega)).mono ?_;rintro e w' ⟨rfl,rfl⟩;rw[HAD.o,hbit.o,decide_eq_true HMM.o];(go_wp2_with fail);go_ret2;exact ⟨by rw[HA.o,HST.o,HAC.o];simp[HA2.o,HD.o,HMM.o];rfl,hBw4⟩
      ·have HMM:=ax hmem;clear hmem;(go_wp2_with fail);refine (c_impl_cellHas (bitsOf sn) _ _ (by omega)).mono ?_;rintro e w' ⟨rfl,rfl⟩;rw[HAD.o,hbit.o,decide_eq_false HMM.o];have hm8:cs[j]≤8:=(addrB_iff.1 HAD.o).2;have hm1:1≤cs[j]:=(addrB_iff.1 HAD.o).1;(go_wp2_with fail)
       go_round
       case rel=>
        refine ⟨j+1,sn++[cs[j]],by omega,by go_num,?_,?_,?_⟩
        ·rw[bitsOf_snoc]
         congr 1
         exact bit_or _ _ (by omega) (by omega)
        ·intro c hc;rcases List.mem_append.1 hc with hc|hc
         ·exact HN2.o c hc
         ·obtain rfl:c=cs[j]:=by simpa using hc
          exact HAD.o
        ·show _=_;rw[HA2.o,HD.o,if_neg HMM.o]
       case measure=>simp[intOf];omega
     ·obtain rfl:j=cs.length:=by omega
      go_wp2_with fail
      go_round
      case rel=>
       refine ⟨k+1,sn,by omega,by go_num,rfl,HN2,?_,hK4,hBw4⟩;show _=_;rw[HA.o,HST.o,HAC.o];simp only[Option.bind_some,HA2.o,List.drop_length,addAll]
      case measure=>simp[intOf];omega
  ·obtain rfl:k=a.atoms.length:=by omega
   go_wp2;go_ret2;exact ⟨by rw[HA.o,List.drop_length];rfl,hB⟩
theorem partAtoms_addr {s:Ste} (hs:s.valid=true):∀ (xs:List Atm) (seen out:List Int),(∀ c∈seen,addrB c=true)→partAtoms s seen xs=some out→∀ c∈out,addrB c=true:=by
 intro xs
 induction xs with
 | nil=>intro seen out h he;simp only[partAtoms,Option.some.injEq] at he;subst he;exact h
 | cons x xs ih=>
  intro seen out h he;simp only[partAtoms] at he
  cases hc:atomCells s x with
  | none=>simp[hc] at he
  | some cs=>
   rw[hc] at he;simp only[Option.bind_some] at he
   cases hd:addAll seen cs with
   | none=>simp[hd] at he
   | some sn=>
    rw[hd] at he;simp only[Option.bind_some] at he;refine ih sn out ?_ he;rw[addAll_mem _ _ _ hd];intro c hcc;rcases List.mem_append.1 hcc with hcc|hcc
    ·exact h c hcc
    ·exact ((atomCells_addr hs hc).2 c hcc).1
theorem partOf_addr {s:Ste} {a:Asn} {seen:List Int} (h:partOf s a=some seen):∀ c∈seen,addrB c=true:=by
 unfold partOf at h
 split at h
 ·rename_i hv;simp only[Bool.and_eq_true] at hv;exact partAtoms_addr hv.1.1 _ _ _ (by intro c hc;cases hc) h
 ·cases h
def idxL (fl:List Bool) (k:Nat):List Int:=((List.range k).filter fun n=>fl.getD n false).map fun n:Nat=>(n:Int)
theorem idxL_succ (fl:List Bool) (k:Nat):idxL fl (k+1)=idxL fl k++if fl.getD k false then [(k:Int)] else []:=by
 unfold idxL;rw[List.range_succ,List.filter_append,List.map_append,List.filter_cons,List.filter_nil];cases fl.getD k false<;>rfl
theorem idxL_length (fl:List Bool) (k:Nat):(idxL fl k).length≤k:=by
 unfold idxL;rw[List.length_map];exact Nat.le_trans (List.length_filter_le _ _) (by simp)
theorem c_spec_l3List {lo hi:Nat} (A:Option Addr) (c:Nat) (fl:List Bool) (w:World) (h:BoolsV w lo hi A fl) (hl9:fl.length≤9):Calls Tryz.prog 84 #[.slice A fl.length c] w fun e w'=>∃ r,e=.returned r∧IntsO w' w.heap.size r (idxL fl fl.length)∧Below w.heap.size w w':=by
 (go_enter Tryz.func84,Tryz.ntmps84);go_wp2
 go_loopw [3,4] (fun o i wr=>∃ (k:Nat) (A:Option Addr) (c:Nat),k≤fl.length∧i=.int .i64 k∧o=.slice A (idxL fl k).length c∧IntsO wr w.heap.size (.slice A (idxL fl k).length c) (idxL fl k)∧Below w.heap.size w wr) (fun _ i _=>fl.length - (intOf i).toNat)
 case atStart=>exact ⟨0,_,_,by omega,rfl,rfl,IntsO.empty w rfl,bel⟩
 case round=>
  obtain ⟨k,A,c,hk,rfl,rfl,hO,hB⟩:=hrel;have hlen:=idxL_length fl k;by_cases h8:k<fl.length
  ·obtain ⟨b,off,rfl,c0⟩:=(h.bz hB).at h8;have HC:=ax (idxL_succ fl k);have hg:fl.getD k false=fl[k]:=by simp[h8]
   cases ht:fl[k]
   ·have HG:=ax (hg.trans ht);rw[ht] at c0;clear ht hg;(go_wp2_with fail)
    go_round
    case rel=>
     have e:idxL fl (k+1)=idxL fl k:=by rw[HC.o,HG.o];simp
     exact ⟨k+1,A,c,by omega,by go_num,by rw[e],by rw[e];exact hO,hB⟩
    case measure=>simp[intOf];omega
   ·have HG:=ax (hg.trans ht);rw[ht] at c0;clear ht hg;(go_wp2_with (at_builtin;refine appI rfl _ _ rfl (v:=.slice A (idxL fl k).length c) rfl (hO.abv (Abv.alloc (Abv.refl 0 _) _) (Nat.zero_le _)) wr.heap.size _ rfl (cell_box wr _ _) (by omega) (by simp;have:=hB.size;omega) ?_;intro g' c' w2 hO2 hg2 hB3))
    go_round
    case rel=>
     have e:idxL fl (k+1)=idxL fl k++[(k:Int)]:=by rw[HC.o,HG.o];simp
     exact ⟨k+1,some ⟨g',0,none⟩,c',by omega,by go_num,by rw[e,List.length_append];rfl,by rw[e];simpa using hO2,Below.trans (bbox hB _) hB3⟩
    case measure=>simp[intOf];omega
  ·obtain rfl:k=fl.length:=by omega
   go_wp2;go_ret;exact ⟨_,rfl,hO,hB⟩
def zj (S:Nat):List Bool:=(List.range 9).map fun i=>S.testBit i
theorem zjB (S:Nat):(zj S).length=9:=by simp[zj]
theorem flagsOf_get (S k:Nat) (hk:k<9):(zj S)[k]? = some (S.testBit k):=by simp[zj,hk]
theorem flagsOf_set (S n:Nat):(zj S).set n true=zj (S|||1 <<< n):=by
 apply List.ext_getElem?;intro j;simp only[zj,List.getElem?_set,List.getElem?_map,List.length_map,List.length_range];by_cases hj:j<9
 ·rw[List.getElem?_range hj];simp only[Option.map_some,Nat.testBit_or,Nat.one_shiftLeft,Nat.testBit_two_pow];by_cases e:n=j
  ·subst e;simp[hj]
  ·simp[e]
 ·rw[List.getElem?_eq_none (by simp;omega)];by_cases e:n=j
  ·subst e;simp[hj]
  ·simp[e]
theorem idxL_flagsOf (S:Nat) (h0:S.testBit 0=false):idxL (zj S) (zj S).length=cellsL S 8:=by
 rw[zjB];unfold idxL cellsL
 have e:∀ n∈List.range 9,(zj S).getD n false=S.testBit n:=by
  intro n hn;rw[List.getD_eq_getElem?_getD,flagsOf_get S n (by simpa using hn)];rfl
 rw[List.filter_congr e];have r:List.range 9=0 :: List.range' 1 8:=by decide
 rw[r,List.filter_cons,h0];simp
theorem flags_cell (S:Nat) (cs:Array Value) (he:cs=(encB (zj S)).toArray) {k:Nat} (hk:k<9):cs[k]? = some (.bool (S.testBit k)):=by
 subst he;simp[encB,flagsOf_get S k hk]
theorem flags_upd (S n:Nat):((encB (zj S)).toArray).setIfInBounds n (.bool true)=(encB (zj (S|||1 <<< n))).toArray:=by
 rw[←flagsOf_set,encB,encB,List.map_set];simp
theorem partOf_valid {s:Ste} {a:Asn} (hs:s.valid=true) (ha:a.valid=true):partOf s a=if a.facts.all (Fct.holds s.values) then partAtoms s [] a.atoms else none:=by
 have h8:=(Ste.valid_len hs).1;have hf:factsValid a.facts=true:=by simp only[Asn.valid,Bool.and_eq_true] at ha;exact ha.1
 unfold partOf factsHold;rw[hs,ha,hf,h8];simp
theorem c_spec_l4Part {lo hi lo' hi':Nat} (v v':Value) (s:Ste) (a:Asn) (w:World) (h:StateV w lo hi v s) (h':AsnV w lo' hi' v' a) (hs:s.valid=true) (ha:a.valid=true) :
  Calls Tryz.prog 162 #[v,v'] w fun e w'=>∃ r,e=.returned (.tuple #[r,.bool (partOf s a).isSome])∧(∀ seen,partOf s a=some seen→BoolsO w' w.heap.size r (zj (bitsOf seen)))∧Below w.heap.size w w':=by
 have hV:=ax h;obtain ⟨A1,c1,A2,c2,rfl,h1,h2⟩:=h;obtain ⟨A3,c3,A4,c4,rfl,h3,h4⟩:=h';have hl4:=h4.le;have HP:aJ (partOf s a=if a.facts.all (Fct.holds s.values) then partAtoms s [] a.atoms else none):=partOf_valid hs ha;have HS:=ax hs;have HV:=ax ha
 have hfv:a.facts.all Fct.valid=true:=by
  simp only[Asn.valid,factsValid,Bool.and_eq_true] at ha;exact ha.1.2
 have HF:=ax hfv;have H8:=ax (Ste.valid_len hs);have hmk:∀ w:World,(Instr.makeSlice 124 (.int .i64 9) (.int .i64 9)).run Tryz.prog w=.ok (.slice (some ⟨w.heap.size,0,none⟩) 9 9) (w.alloc (.cells (encB (zj 0)).toArray tB)):=fun w=>(mkB 9 (by decide) w).trans (by rw[show (madeCells #[.bool false] (9 * 1))=(encB (zj 0)).toArray from by kernel_rfl]);clear hs ha hfv;(go_enter Tryz.func162,Tryz.ntmps162);(go_wp2_with fail);refine (c_spec_l1Hold A3 A1 c3 c1 a.facts s.values _ (h3.bz bel) (h1.bz bel) HF.o H8.o.1).mono ?_;rintro e w1 ⟨rfl,hB1⟩;clear hmk;have hB:=bgo (w:=w) bel hB1;have hK:=Blk.nz (g:=w.heap.size) blks hB1;have hK2:=Blk.nz (g:=w.heap.size+1) (((by rw[←World.size_alloc];exact Blk.new (w.alloc _) _ _:Blk ((w.alloc _).alloc _) (w.heap.size+1) _ _)).alloc _) hB1
 have hK3:Blk w1 (w.heap.size+1+1) tB (encB (zj 0)).toArray:=Blk.nz (by
  have e:w.heap.size+1+1=((w.alloc (.cells #[.slice A1 s.values.length c1,.slice A2 s.heap.length c2] 61)).alloc (.cells #[.slice A3 a.facts.length c3,.slice A4 a.atoms.length c4] 37)).heap.size:=by simp
  rw[e];exact Blk.new _ _ _) hB1
 cases hf:a.facts.all (Fct.holds s.values)
 ·have e:partOf s a=none:=by rw[HP.o,hf];rfl
  have E:=ax e;clear e hf;(go_wp2_with fail);go_ret2;exact ⟨_,by rw[E.o];rfl,(by intro seen h;rw[E.o] at h;cases h),hB⟩
 have e:partOf s a=partAtoms s [] a.atoms:=by rw[HP.o,hf];rfl
 have E:=ax e;clear e hf HP;(go_wp2_with fail)
 go_loopw [7] (fun i wr=>∃ (k:Nat) (seen:List Int),k≤a.atoms.length∧i=.int .i64 k∧aJ (∀ c∈seen,addrB c=true)∧aJ (partOf s a=partAtoms s seen (a.atoms.drop k))∧
   Blk wr w.heap.size 61 #[.slice A1 s.values.length c1,.slice A2 s.heap.length c2]∧Blk wr (w.heap.size+1) 37 #[.slice A3 a.facts.length c3,.slice A4 a.atoms.length c4]∧Blk wr (w.heap.size+1+1) tB (encB (zj (bitsOf seen))).toArray∧Below w.heap.size w wr) (fun i _=>a.atoms.length - (intOf i).toNat)
 case atStart=>exact ⟨0,[],Nat.zero_le _,rfl,(by intro c hc;cases hc),E.o,hK,hK2,hK3,hB⟩
 case round=>
  clear hK hK2 hK3 hB hB1;obtain ⟨k,seen,hk,rfl,HSN,HA,hK,hK2,hK3,hB⟩:=hrel;have q:=hK.cell;have q2:=hK2.cell;by_cases hlt:k<a.atoms.length
  ·obtain ⟨b,off,rfl,g0,g1,g2⟩:=(h4.bz hB).at hlt;have HST:=ax (partAtoms_step s seen a.atoms k hlt);(go_wp2_with fail)
   go_region_held3 (fun w'=>(∀ i,w'.cell? ⟨w.heap.size,i,none⟩=#[.slice A1 s.values.length c1,.slice A2 s.heap.length c2][i]?)∧(∀ i,w'.cell? ⟨w.heap.size+1,i,none⟩=#[.slice A3 a.facts.length c3,.slice (some ⟨b,off,none⟩) a.atoms.length c4][i]?)∧w'.cell? ⟨b,off+k * 3,none⟩=some (.int .i64 a.atoms[k].kind)∧w'.cell? ⟨b,off+k * 3+1,none⟩=some (.int .i64 a.atoms[k].a)∧w'.cell? ⟨b,off+k * 3+2,none⟩=some (.int .i64 a.atoms[k].b))
    (first|exact ⟨hK.drew.cell,hK2.drew.cell,g0,g1,g2⟩|exact ⟨hL.cell,hL2.cell,e0,e1,e2⟩)
    (first
     | (go_at_call 217;refine (c_spec_l4Cells _ s a.atoms[k] _ (hV.o.bz hB.drew) HS.o (atoms_valid HV.o hlt)).mono ?_;rintro e w4 ⟨r,rfl,hO,hB4⟩;have hBw4:=bgo hB.drew hB4;have hL:=hK.drew.nz hB4;have hL2:=hK2.drew.nz hB4;have hL3:=hK3.drew.nz hB4;have e0:=((bcell hB4).1 b (off+k * 3) (block_lt_of_cell g0)).trans g0;have e1:=((bcell hB4).1 b (off+k * 3+1) (block_lt_of_cell g0)).trans g1;have e2:=((bcell hB4).1 b (off+k * 3+2) (block_lt_of_cell g0)).trans g2))
   have hbase:w.heap.size+1+1<wr.drew.heap.size:=hK3.lt;obtain ⟨B,d,rfl,hR⟩:=hO.rj;clear q q2 hL hL2 hL3 e0 e1 e2 g0 g1 g2;have hL:=hK.drew.nz hB4;have hL2:=hK2.drew.nz hB4;have hL3:=hK3.drew.nz hB4
   cases hac:atomCells s a.atoms[k] with
   | none=>
    have HAC:=ax hac;clear hac;(go_wp2_with fail);go_ret2;have e:partOf s a=none:=by rw[HA.o,HST.o,HAC.o];rfl
    exact ⟨_,by rw[e];rfl,(by intro seen h;rw[e] at h;cases h),hBw4⟩
   | some cs=>
    have hcs:=atomCells_addr HS.o hac;have HCS:=ax hcs.2;have hcl:=hcs.1;have HAC:=ax hac;rw[HAC.o] at hR;simp only[Option.getD_some] at hR;simp only[Option.getD_some,Option.isSome_some];clear hac hcs hO;(go_wp2_with fail)
    go_loopw [10] (fun i wx=>∃ (j:Nat) (sn:List Int),j≤cs.length∧i=.int .i64 j∧aJ (∀ c∈sn,addrB c=true)∧aJ (addAll seen cs=addAll sn (cs.drop j))∧
      Blk wx w.heap.size 61 #[.slice A1 s.values.length c1,.slice A2 s.heap.length c2]∧Blk wx (w.heap.size+1) 37 #[.slice A3 a.facts.length c3,.slice (some ⟨b,off,none⟩) a.atoms.length c4]∧Blk wx (w.heap.size+1+1) tB (encB (zj (bitsOf sn))).toArray∧Below w.heap.size w wx∧Abv (w.heap.size+1+1+1) w4 wx) (fun i _=>cs.length - (intOf i).toNat)
    case atStart=>exact ⟨0,seen,Nat.zero_le _,rfl,HSN,by simp[aJ],hL,hL2,hL3,hBw4,Abv.refl _ _⟩
    case round=>
     clear hL hL2 hL3;obtain ⟨j,sn,hj,rfl,HN2,HA2,hL,hL2,hL3,hBx,hAx⟩:=hrel;by_cases hjl:j<cs.length
     ·have hRx:IntsV _ _ _ _ _:=Rd.abv hR hAx (by omega);obtain ⟨b2,off2,rfl,c0⟩:=hRx.at hjl;have HD:=ax (addAll_step sn cs j hjl);have had:=(HCS.o _ (List.getElem_mem hjl)).1;have hab:=addrB_iff.1 had;obtain ⟨m,hm⟩:=Int.eq_ofNat_of_zero_le (show 0≤cs[j] by omega);have hm9:m<9:=by omega
      have hbit:=seen_bit HN2.o (show 0≤cs[j] by omega);have HAD:=ax had;have HM:=ax hm;have hft:cs[j].toNat=m:=by omega
      rw[hft] at hbit;rw[hm] at c0;have q3:=hL3.cell;have r3:=hL3.frozen;have qf:∀ w':World,w'=w'→((encB (zj (bitsOf sn))).toArray)[m]? = some (.bool (decide (cs[j]∈sn))):=fun _ _=>by rw[flags_cell _ _ rfl hm9,hbit]
      have hq3:=q3 m;rw[qf wr rfl] at hq3;clear q3 hm had hft hbit qf;by_cases hmem:cs[j]∈sn
      ·have HMM:=ax hmem;rw[decide_eq_true hmem] at hq3;clear hmem;(go_wp2_with fail);go_ret2;have e:partOf s a=none:=by rw[HA.o,HST.o,HAC.o];simp[HA2.o,HD.o,HMM.o]
       exact ⟨_,by rw[e];rfl,(by intro seen h;rw[e] at h;cases h),hBx⟩
      ·have HMM:=ax hmem;rw[decide_eq_false hmem] at hq3;clear hmem;(go_wp2_with fail)
       go_round
       case rel=>
        have eU:((encB (zj (bitsOf sn))).toArray).setIfInBounds m (.bool true)=(encB (zj (bitsOf (sn++[cs[j]])))).toArray:=by
         rw[flags_upd,bitsOf_snoc,HM.o];rfl
        refine ⟨j+1,sn++[cs[j]],by omega,by go_num,?_,?_,hL.far (by simp only[];omega) _,hL2.far (by simp only[];omega) _,by rw[←eU];exact hL3.set_ _ _,hBx.setCell (by simp only[];omega) _,hAx.setCell (by simp only[];omega) _⟩
        ·intro c hc;rcases List.mem_append.1 hc with hc|hc
         ·exact HN2.o c hc
         ·obtain rfl:c=cs[j]:=by simpa using hc
          exact HAD.o
        ·show _=_;rw[HA2.o,HD.o,if_neg HMM.o]
       case measure=>simp[intOf];omega
     ·obtain rfl:j=cs.length:=by omega
      go_wp2_with fail
      go_round
      case rel=>
       refine ⟨k+1,sn,by omega,by go_num,HN2,?_,hL,hL2,hL3,hBx⟩;show _=_;rw[HA.o,HST.o,HAC.o];simp only[Option.bind_some,HA2.o,List.drop_length,addAll]
      case measure=>simp[intOf];omega
  ·obtain rfl:k=a.atoms.length:=by omega
   go_wp2;go_ret2;have e:partOf s a=some seen:=by rw[HA.o,List.drop_length];rfl
   refine ⟨_,by rw[e];rfl,?_,hB⟩;intro sn h;rw[e] at h;obtain rfl:seen=sn:=by simpa using h
   exact ⟨own_of_blk (n:=9) (cap:=9) hK3 (by omega) (by simp[zj]) (by intro j hj;simp) (Nat.le_refl _) (by decide) (by simp[zj]),by simp[zj,Lim]⟩
end
section
open Go Go.RowKit
def swp (x y t:Int):Int:=if t=x then y else t
def Fct.sub (x y:Int) (f:Fct):Fct:=⟨f.eq,swp x y f.a,swp x y f.b⟩
def Atm.sub (x y:Int) (f:Atm):Atm:=⟨f.kind,swp x y f.a,swp x y f.b⟩
def substA (x y:Int) (a:Asn):Asn:=⟨a.facts.map (Fct.sub x y),a.atoms.map (Atm.sub x y)⟩
def logB (t:Int):Bool:=decide (4<t∧t≤8)
def free (K:Nat) (t:Int):Bool:=logB t && !K.testBit t.toNat
def left (K:Nat) (a:Asn):List Nat:=(List.range 9).filter fun n=>free K (n:Int)&&decide ((n:Int)∈mz a)
theorem termsL_facts {a:Asn} {f:Fct} (h:f∈a.facts):f.a∈mz a∧f.b∈mz a:=by
 simp only[mz,List.mem_append,List.mem_flatMap];exact ⟨Or.inl ⟨f,h,by simp[factT]⟩,Or.inl ⟨f,h,by simp[factT]⟩⟩
def nfF (f:Fct):Fct:=if f.b<f.a then ⟨f.eq,f.b,f.a⟩ else f
def nfStep (acc:List Fct) (f:Fct):List Fct:=if f.eq&&(f.a == f.b) then acc else if acc.contains (nfF f) then acc else acc++[nfF f]
def nfA (x:Atm):Bool:=x.kind != 2 || x.a != x.b
def normalF (a:Asn):Asn:=⟨a.facts.foldl nfStep [],a.atoms.filter nfA⟩
end
section
open Go Go.RowKit Go.Proofs
attribute [local go_sem ↓] Go.wp_at_zero Go.wp_at_succ
theorem termsL_ok {a:Asn} (h:a.valid=true):∀ t∈mz a,jq t=true:=by
 simp only[Asn.valid,factsValid,Bool.and_eq_true,List.all_eq_true] at h;intro t ht;simp only[mz,List.mem_append,List.mem_flatMap] at ht;rcases ht with ⟨f,hf,ht⟩|⟨f,hf,ht⟩
 ·have:=h.1.2 f hf;simp only[Fct.valid,Bool.and_eq_true] at this;simp only[factT,List.mem_cons,List.not_mem_nil,or_false] at ht;rcases ht with rfl|rfl
  ·exact this.1
  ·exact this.2
 ·have:=h.2.2 f hf;simp only[Atm.valid,Bool.and_eq_true] at this;simp only[atomT,List.mem_cons,List.not_mem_nil,or_false] at ht;rcases ht with rfl|rfl
  ·exact this.1.2
  ·exact this.2
theorem termsL_atoms {a:Asn} {k:Nat} (h:k<a.atoms.length):a.atoms[k].a∈mz a∧a.atoms[k].b∈mz a:=by
 simp only[mz,List.mem_append,List.mem_flatMap];exact ⟨Or.inr ⟨_,List.getElem_mem h,by simp[atomT]⟩,Or.inr ⟨_,List.getElem_mem h,by simp[atomT]⟩⟩
theorem tins_flags (S m:Nat) (hm:m≤8):((encB (zj S)).toArray).setIfInBounds m (.bool true)=(encB (zj (tins S (m:Int)))).toArray:=by
 rw[flags_upd,tins,if_pos (zjA.2 (by omega)),Int.toNat_natCast]
theorem BoolsO.ofBlk {w:World} {g base S:Nat} (h:Blk w g tB (encB (zj S)).toArray) (hb:base≤g):BoolsO w base (.slice (some ⟨g,0,none⟩) 9 9) (zj S):=
 ⟨own_of_blk (n:=9) (cap:=9) h hb (by simp[zj]) (by intro j hj;simp) (Nat.le_refl _) (by decide) (by simp[zj]),by simp[zj,Lim]⟩
theorem mkB9 (w:World):(Instr.makeSlice 124 (.int .i64 9) (.int .i64 9)).run Tryz.prog w=.ok (.slice (some ⟨w.heap.size,0,none⟩) 9 9) (w.alloc (.cells (encB (zj 0)).toArray tB)):=
 (mkB 9 (by decide) w).trans (by rw[show (madeCells #[.bool false] (9 * 1))=(encB (zj 0)).toArray from by kernel_rfl])
theorem flags_at {w:World} {lo hi b o K m:Nat} (h:BoolsV w lo hi (some ⟨b,o,none⟩) (zj K)) (hm:m≤8):w.cell? ⟨b,o+m,none⟩=some (.bool (K.testBit m)):=by
 have:=h.cl (k:=m) (by rw[zjB];omega);rw[this];have e:=flagsOf_get K m (by omega);rw[List.getElem?_eq_getElem (by rw[zjB];omega)] at e;rw[Option.some.inj e]
theorem flags_addr {w:World} {lo hi K:Nat} {A:Option Addr} (h:BoolsV w lo hi A (zj K)):∃ b o,A=some ⟨b,o,none⟩∧b<w.heap.size:=h.blt (k:=0) (by rw[zjB];omega)
theorem flags2 (T m1 m2:Nat) (h1:m1≤8) (h2:m2≤8):(((encB (zj T)).toArray).setIfInBounds m1 (.bool true)).setIfInBounds m2 (.bool true)=(encB (zj (tins (tins T (m1:Int)) (m2:Int)))).toArray:=by
 rw[tins_flags _ _ h1,tins_flags _ _ h2]
theorem Blk.two {w:World} {g T m1 m2:Nat} (h:Blk w g tB (encB (zj T)).toArray) (h1:m1≤8) (h2:m2≤8):Blk ((w.setCell ⟨g,m1,none⟩ (.bool true)).setCell ⟨g,m2,none⟩ (.bool true)) g tB (encB (zj (tins (tins T (m1:Int)) (m2:Int)))).toArray:=by
 rw[←flags2 _ _ _ h1 h2];exact (h.set_ _ _).set_ _ _
theorem Blk.twice {w:World} {g T m1:Nat} (h:Blk w g tB (encB (zj T)).toArray) (h1:m1≤8):Blk (w.setCell ⟨g,m1,none⟩ (.bool true)) g tB (encB (zj (tins (tins T (m1:Int)) (m1:Int)))).toArray:=by
 rw[←tins_flags _ _ h1,←tins_flags _ _ h1]
 have e:∀ (a:Array Value) (i:Nat) (u:Value),(a.setIfInBounds i u).setIfInBounds i u=a.setIfInBounds i u:=by
  intro a i u;apply Array.ext_getElem?;intro j;by_cases e:i=j
  ·subst e;rw[Array.getElem?_setIfInBounds_self,Array.size_setIfInBounds,Array.getElem?_setIfInBounds_self]
  ·rw[Array.getElem?_setIfInBounds_ne e]
 rw[e];exact h.set_ _ _
theorem c_spec_l3Terms {lo hi:Nat} (v:Value) (a:Asn) (w:World) (h:AsnV w lo hi v a) (hv:∀ t∈mz a,jq t=true):Calls Tryz.prog 85 #[v] w fun e w'=>∃ r,e=.returned r∧BoolsO w' w.heap.size r (zj (tset (mz a)))∧Below w.heap.size w w':=by
 obtain ⟨A1,c1,A2,c2,rfl,h1,h2⟩:=h;have hl1:=h1.le;have hl2:=h2.le;have hmk:=mkB9;have HV:=ax hv;have HT:=ax (tset_terms a);clear hv;(go_enter Tryz.func85,Tryz.ntmps85);go_wp2;clear hmk
 go_loopw [4] (fun i wr=>∃ (k T:Nat),k≤a.facts.length∧i=.int .i64 k∧aJ (a.facts.foldl (fun S f=>tins (tins S f.a) f.b) 0=(a.facts.drop k).foldl (fun S f=>tins (tins S f.a) f.b) T)∧Blk wr w.heap.size 37 #[.slice A1 a.facts.length c1,.slice A2 a.atoms.length c2]∧Blk wr (w.heap.size+1) tB (encB (zj T)).toArray∧Below w.heap.size w wr) (fun i _=>a.facts.length - (intOf i).toNat)
 case atStart=>exact ⟨0,0,Nat.zero_le _,rfl,rfl,blks,blks,bel⟩
 case round=>
  obtain ⟨k,T,hk,rfl,HA,k0,k1,hB⟩:=hrel;have qk0:=k0.cell;by_cases hlt:k<a.facts.length
  ·obtain ⟨b,off,rfl,hbl⟩:=h1.blt hlt;obtain ⟨g0,g1,g2⟩:=(h1.bz hB).cl hlt;have HD:=ax (foldl_step (fun S (f:Fct)=>tins (tins S f.a) f.b) T a.facts k hlt);have hm:=termsL_facts (List.getElem_mem hlt);have b1:=zjA.1 (HV.o _ hm.1);have b2:=zjA.1 (HV.o _ hm.2);obtain ⟨m1,e1⟩:=Int.eq_ofNat_of_zero_le b1.1;obtain ⟨m2,e2⟩:=Int.eq_ofNat_of_zero_le b2.1;have E1:=ax e1;have E2:=ax e2;rw[e1] at g1;rw[e2] at g2;have m18:(m1:Int)<9:=by omega
   have m28:(m2:Int)<9:=by omega
   have q1:wr.cell? ⟨w.heap.size+1,m1,none⟩=some (.bool (T.testBit m1)):=(k1.cell m1).trans (flags_cell T _ rfl (by omega));have q2:wr.cell? ⟨w.heap.size+1,m2,none⟩=some (.bool (T.testBit m2)):=(k1.cell m2).trans (flags_cell T _ rfl (by omega));have r3:=k1.frozen;clear e1 e2 hm b1 b2;by_cases he:m1=m2
   ·subst he;(go_wp2_with fail)
    go_round
    case rel=>
     refine ⟨k+1,tins (tins T (m1:Int)) (m1:Int),by omega,by go_num,by show _=_;rw[HA.o,HD.o,E1.o,E2.o],?_,?_,bel⟩
     ·first|exact k0.far (by simp) _|exact (k0.far (by simp) _).far (by simp) _
     ·first|exact k1.twice (by omega)|exact k1.two (by omega) (by omega)
    case measure=>simp[intOf];omega
   ·have he2:=Ne.symm he;(go_wp2_with fail)
    go_round
    case rel=>
     refine ⟨k+1,tins (tins T (m1:Int)) (m2:Int),by omega,by go_num,by show _=_;rw[HA.o,HD.o,E1.o,E2.o],(k0.far (by simp) _).far (by simp) _,k1.two (by omega) (by omega),bel⟩
    case measure=>simp[intOf];omega
  ·obtain rfl:k=a.facts.length:=by omega
   have HA2:=ax (show a.facts.foldl (fun S f=>tins (tins S f.a) f.b) 0=T by rw[HA.o,List.drop_length];rfl);(go_wp2_with fail)
   go_loopw [5] (fun i wx=>∃ (k T':Nat),k≤a.atoms.length∧i=.int .i64 k∧aJ (a.atoms.foldl (fun S f=>tins (tins S f.a) f.b) T=(a.atoms.drop k).foldl (fun S f=>tins (tins S f.a) f.b) T')∧Blk wx w.heap.size 37 #[.slice A1 a.facts.length c1,.slice A2 a.atoms.length c2]∧Blk wx (w.heap.size+1) tB (encB (zj T')).toArray∧Below w.heap.size w wx) (fun i _=>a.atoms.length - (intOf i).toNat)
   case atStart=>exact ⟨0,T,Nat.zero_le _,rfl,rfl,k0,k1,hB⟩
   case round=>
    clear k0 qk0 k1 hB;obtain ⟨k,T',hk,rfl,HB,k0,k1,hB⟩:=hrel;have qk0:=k0.cell;by_cases hlt2:k<a.atoms.length
    ·obtain ⟨b,off,rfl,hbl⟩:=h2.blt hlt2;obtain ⟨g0,g1,g2⟩:=(h2.bz hB).cl hlt2;have HD:=ax (foldl_step (fun S (f:Atm)=>tins (tins S f.a) f.b) T' a.atoms k hlt2);have hm:=termsL_atoms hlt2;have b1:=zjA.1 (HV.o _ hm.1);have b2:=zjA.1 (HV.o _ hm.2);obtain ⟨m1,e1⟩:=Int.eq_ofNat_of_zero_le b1.1;obtain ⟨m2,e2⟩:=Int.eq_ofNat_of_zero_le b2.1;have E1:=ax e1;have E2:=ax e2;rw[e1] at g1;rw[e2] at g2;have m18:(m1:Int)<9:=by omega
     have m28:(m2:Int)<9:=by omega
     have q1:wr.cell? ⟨w.heap.size+1,m1,none⟩=some (.bool (T'.testBit m1)):=(k1.cell m1).trans (flags_cell T' _ rfl (by omega));have q2:wr.cell? ⟨w.heap.size+1,m2,none⟩=some (.bool (T'.testBit m2)):=(k1.cell m2).trans (flags_cell T' _ rfl (by omega));have r3:=k1.frozen;clear e1 e2 hm b1 b2;by_cases he:m1=m2
     ·subst he;(go_wp2_with fail)
      go_round
      case rel=>
       refine ⟨k+1,tins (tins T' (m1:Int)) (m1:Int),by omega,by go_num,by show _=_;rw[HB.o,HD.o,E1.o,E2.o],?_,?_,bel⟩
       ·first|exact k0.far (by simp) _|exact (k0.far (by simp) _).far (by simp) _
       ·first|exact k1.twice (by omega)|exact k1.two (by omega) (by omega)
      case measure=>simp[intOf];omega
     ·have he2:=Ne.symm he;(go_wp2_with fail)
      go_round
      case rel=>
       refine ⟨k+1,tins (tins T' (m1:Int)) (m2:Int),by omega,by go_num,by show _=_;rw[HB.o,HD.o,E1.o,E2.o],(k0.far (by simp) _).far (by simp) _,k1.two (by omega) (by omega),bel⟩
      case measure=>simp[intOf];omega
    ·obtain rfl:k=a.atoms.length:=by omega
     (go_wp2_with fail);go_ret;refine ⟨_,rfl,?_,hB⟩;rw[HT.o,HA2.o,HB.o,List.drop_length];exact BoolsO.ofBlk k1 (by omega)
theorem c_impl_copyInts {lo hi:Nat} (A:Option Addr) (c:Nat) (xs:List Int) (w:World) (h:IntsV w lo hi A xs):Calls Tryz.prog 107 #[.slice A xs.length c] w fun e w'=>∃ r,e=.returned r∧IntsO w' w.heap.size r xs∧Below w.heap.size w w':=by
 have hl:=h.le;have hmk:=mkI xs.length h.lim;have hb0:Below w.heap.size w (w.alloc (.cells (madeCells #[.int .i64 0] (xs.length)) tI)):=bel;have hV:=ax (h.bz hb0);(go_enter Tryz.func107,Tryz.ntmps107);(go_wp2_with (with_reducible refine wpList_copy_splice rfl _ _ 31 31 rfl tI Tryz.underlying31 (by kernel_rfl) (some ⟨w.heap.size,0,none⟩) A xs.length xs.length xs.length c rfl rfl w.heap.size 0 (madeCells #[.int .i64 0] (xs.length)).toList tI ?c1 (encI xs) ?c2 ?c3 ?c4 (encI_one _) w.heap.size w hb0 (Nat.le_refl _) ?_))
 case c1=>simpa using heap_alloc_new w (.cells (madeCells #[.int .i64 0] xs.length) tI)
 case c2=>simp
 case c3=>
  intro h0;obtain ⟨b,o,rfl,_,_,hc⟩:=hV.o.raw.2 (by simpa using h0)
  exact ⟨_,rfl,fun j u hu=>by
   rw[show (⟨b,o,none⟩:Addr).add j=⟨b,o+j,none⟩ from by unfold Addr.add;split<;>simp_all]
   exact hc j _ (by rw[List.getElem?_map,hu];rfl)⟩
 case c4=>simp[size_madeCells]
 intro w' hH hB;clear hmk;go_wp2;go_ret;have hs:=hH.out;rw[show splice (madeCells #[Value.int .i64 0] (xs.length)).toList 0 (encI xs)=encI xs from by simp[splice,size_madeCells]] at hs;exact ⟨_,rfl,⟨own_of_blk (cap:=xs.length) hs (Nat.le_refl _) (by simp) (by intro j hj;simp) (Nat.le_refl _) (by unfold maxLen;omega) (by simp),h.lim⟩,hB⟩
theorem FactsV.one' {w:World} {g:Nat} {e:Bool} {x y:Int} (h:Blk w g tF #[.bool e,.int .i64 x,.int .i64 y]):FactsV w g (g+1) (some ⟨g,0,none⟩) [⟨e,x,y⟩]:=FactsV.one (f:=⟨e,x,y⟩) h
theorem AtomsV.one' {w:World} {g:Nat} {e:Int} {x y:Int} (h:Blk w g tA #[.int .i64 e,.int .i64 x,.int .i64 y]):AtomsV w g (g+1) (some ⟨g,0,none⟩) [⟨e,x,y⟩]:=AtomsV.one (f:=⟨e,x,y⟩) h
theorem map_take {α β:Type} (f:α→β) (xs:List α) (k:Nat) (hk:k<xs.length):(xs.take (k+1)).map f=(xs.take k).map f++[f xs[k]]:=by
 rw[List.take_succ_eq_append_getElem hk,List.map_append];rfl
theorem filledL_take (xs:List Atm) (c:List Int) (k:Nat) (hk:k<xs.length):filledL (xs.take (k+1)) c=filledL (xs.take k) c++if xs[k].fill c then [xs[k].cls c] else []:=by
 unfold filledL;rw[List.take_succ_eq_append_getElem hk,List.filter_append,List.map_append];cases h:xs[k].fill c<;>simp[h]
theorem filledL_len (xs:List Atm) (c:List Int):(filledL xs c).length≤xs.length:=by
 unfold filledL;rw[List.length_map];exact List.length_filter_le _ _
theorem tset_snoc (l:List Int) (t:Int):tset (l++[t])=tins (tset l) t:=by unfold tset;simp[List.foldl_append]
theorem ints_cl {w : World} {lo hi b o : Nat} {c : List Int} (h : IntsV w lo hi (some ⟨b, o, none⟩) c) {m : Nat} (hm : m < c.length) : w.cell? ⟨b, o + m, none⟩ = some (.int .i64 (cl c m)) := by
  rw [h.cl hm]; simp [cl, List.getElem?_eq_getElem hm]

--@ spec.l5Fits
theorem fitsS_drop (c : List Int) (fs : List Fct) (k : Nat) (hk : k < fs.length) : fitsS c (fs.drop k) = (!(decide (0 ≤ cl c fs[k].a) && decide (0 ≤ cl c fs[k].b) && !fs[k].fits c) && fitsS c (fs.drop (k + 1))) := by
  unfold fitsS; rw [all_drop _ fs k hk]
theorem c_spec_l5Fits {lo hi lo' hi' : Nat} (A B : Option Addr) (c0 c1 : Nat) (fs : List Fct) (c : List Int) (w : World) (h : FactsV w lo hi A fs) (h' : IntsV w lo' hi' B c) (hc : c.length = 9) (hf : FactsOk fs) :
    Calls Tryz.prog 244 #[.slice A fs.length c0, .slice B c.length c1] w fun e w' => e = .returned (.bool (fitsS c fs)) ∧ w = w' := by
  have hl := h.le;obtain ⟨pb, ob, rfl, lpb⟩ := h'.blt (k := 0) (by omega);have HC := ax hc;have HF := ax hf;have H' := ax h';clear hf h';rw [hc];clear hc;(go_enter Tryz.func244, Tryz.ntmps244);(go_wp2_with fail)
  go_loop [5] (fun i => ∃ k : Nat, k ≤ fs.length ∧ i = .int .i64 k ∧ aJ (fitsS c fs = fitsS c (fs.drop k))) (fun i => fs.length - (intOf i).toNat)
  case atStart => exact ⟨0, Nat.zero_le _, rfl, rfl⟩
  case round =>
    obtain ⟨k, hk, rfl, HA⟩ := hrel;by_cases hlt : k < fs.length
    · obtain ⟨b, off, rfl, hbl⟩ := h.blt hlt
      obtain ⟨g0, g1, g2⟩ := h.cl hlt;have HD := ax (fitsS_drop c fs k hlt);have hfk := HF.o _ (List.getElem_mem hlt);obtain ⟨f, hfe⟩ : ∃ f, f = fs[k] := ⟨_, rfl⟩;rw [← hfe] at g0 g1 g2 HD hfk;clear hfe;obtain ⟨q, fa, fb⟩ := f;dsimp only at g0 g1 g2 hfk;obtain ⟨⟨a1, a2⟩, ⟨b1, b2⟩⟩ := hfk;obtain ⟨fa, rfl⟩ := Int.eq_ofNat_of_zero_le a1;obtain ⟨fb, rfl⟩ := Int.eq_ofNat_of_zero_le b1;have ha9 : (fa : Int) < 9 := by omega
      have hb9 : (fb : Int) < 9 := by omega
      have e1 := ints_cl H'.o (m := fa) (by rw [HC.o]; omega);have e2 := ints_cl H'.o (m := fb) (by rw [HC.o]; omega)
      have HQ : aJ (∀ u v : Int, u = cl c fa → v = cl c fb → fitsS c fs = (!(decide (0 ≤ u) && decide (0 ≤ v) && !((u == v) == q)) && fitsS c (fs.drop (k + 1)))) := by
        intro u v hu hv;rw [HA.o, HD.o, hu, hv]; rfl
      obtain ⟨u, hu⟩ : ∃ u, u = cl c fa := ⟨_, rfl⟩;obtain ⟨v, hv⟩ : ∃ v, v = cl c fb := ⟨_, rfl⟩;have HR := ax (HQ.o u v hu hv);rw [← hu] at e1;rw [← hv] at e2;clear hu hv HQ a1 a2 b1 b2;by_cases hu0 : 0 ≤ u
      · by_cases hv0 : 0 ≤ v
        · have HUV : aJ (∀ t : Bool, (u == v) = t → fitsS c fs = (!(!(t == q)) && fitsS c (fs.drop (k + 1)))) := by
            intro t ht;rw [HR.o, ht, decide_eq_true hu0, decide_eq_true hv0]; rfl
          cases huv : (u == v)
          case' false => have HZ := ax (HUV.o false huv)
          case' true => have HZ := ax (HUV.o true huv)
          all_goals
            cases q
            all_goals
              clear HUV HR;(go_wp2_with fail)
              first
                | (go_ret
                   exact ⟨zjD HZ.o.symm, rfl⟩)
                | (go_round
                   case rel => exact ⟨k + 1, by omega, by go_num, HZ.o⟩
                   case measure => simp [intOf]; omega)
        · have HZ : aJ (fitsS c fs = fitsS c (fs.drop (k + 1))) := by show _ = _; rw [HR.o, decide_eq_false hv0]; simp
          go_wp2_with fail
          go_round
          case rel => exact ⟨k + 1, by omega, by go_num, HZ⟩
          case measure => simp [intOf]; omega
      · have HZ : aJ (fitsS c fs = fitsS c (fs.drop (k + 1))) := by show _ = _; rw [HR.o, decide_eq_false hu0]; simp
        go_wp2_with fail
        go_round
        case rel => exact ⟨k + 1, by omega, by go_num, HZ⟩
        case measure => simp [intOf]; omega
    · obtain rfl : k = fs.length := by omega
      (go_wp2_with fail);go_ret;exact ⟨zjD (by rw [HA.o, List.drop_length]; rfl), rfl⟩

--@ spec.l5Early
theorem earlyF_drop (c : List Int) (seen : List Int) (xs : List Atm) (k : Nat) (hk : k < xs.length) : earlyF c seen (xs.drop k) = if decide (xs[k].kind = 1) && decide (0 ≤ cl c xs[k].a) then !decide (cl c xs[k].a = 0) && !decide (cl c xs[k].a ∈ seen) && earlyF c (seen ++ [cl c xs[k].a]) (xs.drop (k + 1)) else earlyF c seen (xs.drop (k + 1)) := by
  rw [List.drop_eq_getElem_cons hk]; rfl
theorem c_spec_l5Early {lo hi lo' hi' : Nat} (A B : Option Addr) (c0 c1 : Nat) (xs : List Atm) (c : List Int) (w : World) (h : AtomsV w lo hi A xs) (h' : IntsV w lo' hi' B c) (hc : c.length = 9) (hx : AtomsOk xs) (hcl : ∀ x ∈ xs, cl c x.a ≤ 8) :
    Calls Tryz.prog 245 #[.slice A xs.length c0, .slice B c.length c1] w fun e w' => e = .returned (.bool (earlyF c [] xs)) ∧ Below w.heap.size w w' := by
  have hl := h.le;obtain ⟨pb, ob, rfl, lpb⟩ := h'.blt (k := 0) (by omega);have HC := ax hc;have HX := ax hx;have HCL := ax hcl;have H' := ax h';have hmk := mkB9;clear hx h' hcl;rw [hc];clear hc;(go_enter Tryz.func245, Tryz.ntmps245);(go_wp2_with fail);clear hmk
  go_loopw [6] (fun i wr => ∃ (k : Nat) (seen : List Int), k ≤ xs.length ∧ i = .int .i64 k ∧ aJ (earlyF c [] xs = earlyF c seen (xs.drop k)) ∧ Blk wr w.heap.size tB (encB (zj (tset seen))).toArray ∧ Below w.heap.size w wr) (fun i _ => xs.length - (intOf i).toNat)
  case atStart => exact ⟨0, [], Nat.zero_le _, rfl, rfl, by rw [show tset [] = 0 from by unfold tset; rfl]; exact blks, bel⟩
  case round =>
    obtain ⟨k, seen, hk, rfl, HA, k0, hB⟩ := hrel;by_cases hlt : k < xs.length
    · obtain ⟨b, off, rfl, hbl⟩ := h.blt hlt
      obtain ⟨g0, g1, g2⟩ := (h.bz hB).cl hlt;have HD := ax (earlyF_drop c seen xs k hlt);have hxk := HX.o _ (List.getElem_mem hlt);have hck := HCL.o _ (List.getElem_mem hlt);obtain ⟨x, hxe⟩ : ∃ x, x = xs[k] := ⟨_, rfl⟩;rw [← hxe] at g0 g1 g2 HD hxk hck;clear hxe;obtain ⟨q, xa, xb⟩ := x;dsimp only at g0 g1 g2 hxk hck;obtain ⟨⟨a1, a2⟩, -⟩ := hxk;obtain ⟨xa, rfl⟩ := Int.eq_ofNat_of_zero_le a1;have ha9 : (xa : Int) < 9 := by omega
      have e1 := ints_cl (H'.o.bz hB) (m := xa) (by rw [HC.o]; omega);have HR : aJ (earlyF c [] xs = if decide (q = 1) && decide (0 ≤ cl c xa) then !decide (cl c xa = 0) && !decide (cl c xa ∈ seen) && earlyF c (seen ++ [cl c xa]) (xs.drop (k + 1)) else earlyF c seen (xs.drop (k + 1))) := by show _ = _; rw [HA.o, HD.o]
      obtain ⟨u, hu⟩ : ∃ u, u = cl c xa := ⟨_, rfl⟩;rw [← hu] at e1 HR hck;clear hu a1 a2 HD HA;cases hq : (q != 1)
      · have hq1 : q = 1 := by simpa using hq
        by_cases hu0 : 0 ≤ u
        · have HR2 : aJ (earlyF c [] xs = (!decide (u = 0) && !decide (u ∈ seen) && earlyF c (seen ++ [u]) (xs.drop (k + 1)))) := by show _ = _; rw [HR.o, hq1, decide_eq_true hu0]; rfl
          obtain ⟨m, rfl⟩ := Int.eq_ofNat_of_zero_le hu0;have m8 : m ≤ 8 := by omega
          have m8' : (m : Int) < 9 := by omega
          have hst : jq (m : Int) = true := by rw [zjA]; omega
          have hbt : (tset seen).testBit m = decide ((m : Int) ∈ seen) := by
            rw [tset_bit, decide_eq_decide]; exact ⟨fun h => h.2, fun h => ⟨hst, h⟩⟩
          have q3 : wr.cell? ⟨w.heap.size, m, none⟩ = some (.bool (decide ((m : Int) ∈ seen))) := (k0.cell m).trans ((flags_cell _ _ rfl (by omega)).trans (by rw [hbt]));have r3 := k0.frozen;have l3 := k0.lt;clear hst hbt;by_cases hz : (m : Int) = 0
          · have HZ := ax (show earlyF c [] xs = false by rw [HR2.o, decide_eq_true hz]; rfl)
            have hzb : ((m : Int) == 0) = true := by simpa using hz
            clear hq1 hz;(go_wp2_with fail);go_ret;exact ⟨zjD HZ.o.symm, hB⟩
          · have hzb : ((m : Int) == 0) = false := by simpa using hz
            by_cases hs : (m : Int) ∈ seen
            · have HZ := ax (show earlyF c [] xs = false by rw [HR2.o, decide_eq_true hs]; simp)
              rw [decide_eq_true hs] at q3;clear hq1 hz hs;(go_wp2_with fail);go_ret;exact ⟨zjD HZ.o.symm, hB⟩
            · have HZ := ax (show earlyF c [] xs = earlyF c (seen ++ [(m : Int)]) (xs.drop (k + 1)) by rw [HR2.o, decide_eq_false hs, decide_eq_false hz]; simp)
              rw [decide_eq_false hs] at q3;clear hq1 hz hs;(go_wp2_with fail)
              go_round
              case rel =>
                refine ⟨k + 1, seen ++ [(m : Int)], by omega, by go_num, HZ, ?_, bel⟩;rw [tset_snoc, ← tins_flags _ _ m8];exact k0.set_ _ _
              case measure => simp [intOf]; omega
        · have HZ := ax (show earlyF c [] xs = earlyF c seen (xs.drop (k + 1)) by rw [HR.o, decide_eq_false hu0]; simp)
          clear hq1;(go_wp2_with fail)
          go_round
          case rel => exact ⟨k + 1, seen, by omega, by go_num, HZ, k0, hB⟩
          case measure => simp [intOf]; omega
      · have hq1 : ¬ q = 1 := by simpa using hq
        have HZ := ax (show earlyF c [] xs = earlyF c seen (xs.drop (k + 1)) by rw [HR.o, decide_eq_false hq1]; simp);clear hq1;(go_wp2_with fail)
        go_round
        case rel => exact ⟨k + 1, seen, by omega, by go_num, HZ, k0, hB⟩
        case measure => simp [intOf]; omega
    · obtain rfl : k = xs.length := by omega
      (go_wp2_with fail);go_ret;exact ⟨zjD (by rw [HA.o, List.drop_length]; rfl), hB⟩

--@ spec.l5Apart
theorem apartF_at (xs : List Atm) (k : Nat) (hk : k < xs.length) : apartF ((xs.take k).map Atm.a) (xs.drop k) = (!decide (xs[k].a = 0) && !decide (xs[k].a ∈ (xs.take k).map Atm.a) && apartF ((xs.take (k + 1)).map Atm.a) (xs.drop (k + 1))) := by
  rw [List.drop_eq_getElem_cons hk, List.take_succ_eq_append_getElem hk, List.map_append]; rfl
theorem c_spec_l5Apart {lo hi : Nat} (A : Option Addr) (c0 : Nat) (xs : List Atm) (w : World) (h : AtomsV w lo hi A xs) :
    Calls Tryz.prog 246 #[.slice A xs.length c0] w fun e w' => e = .returned (.bool (apartF [] xs)) ∧ Below w.heap.size w w' := by
  have hl := h.le;(go_enter Tryz.func246, Tryz.ntmps246);(go_wp2_with fail)
  go_loopw [3] (fun i wr => ∃ k : Nat, k ≤ xs.length ∧ i = .int .i64 k ∧ aJ (apartF [] xs = apartF ((xs.take k).map Atm.a) (xs.drop k)) ∧ Below w.heap.size w wr) (fun i _ => xs.length - (intOf i).toNat)
  case atStart => exact ⟨0, Nat.zero_le _, rfl, rfl, bel⟩
  case round =>
    obtain ⟨k, hk, rfl, HA, hB⟩ := hrel;by_cases hlt : k < xs.length
    · obtain ⟨b, off, rfl, hbl⟩ := h.blt hlt
      obtain ⟨g0, g1, g2⟩ := (h.bz hB).cl hlt;have HD := ax (apartF_at xs k hlt);by_cases hz : xs[k].a = 0
      · have HZ := ax (show apartF [] xs = false by rw [HA.o, HD.o, decide_eq_true hz]; rfl)
        have hzb : (xs[k].a == 0) = true := by simpa using hz
        clear hz;(go_wp2_with fail);go_ret;exact ⟨zjD HZ.o.symm, hB⟩
      · have hzb : (xs[k].a == 0) = false := by simpa using hz
        have HNZ := ax hz;clear hz;(go_wp2_with fail)
        go_loopw [4] (fun i wr => ∃ j : Nat, j ≤ k ∧ i = .int .i64 j ∧ aJ (∀ n, n < j → ∀ hn : n < xs.length, xs[n].a ≠ xs[k].a) ∧ Below w.heap.size w wr) (fun i _ => k - (intOf i).toNat)
        case atStart => exact ⟨0, Nat.zero_le _, rfl, fun n hn => absurd hn (by omega), hB⟩
        case round =>
          clear hB g0 g1 g2;obtain ⟨j, hj, rfl, HJ, hB⟩ := hrel;by_cases hjl : j < k
          · have hjx : j < xs.length := by omega
            obtain ⟨g0, g1, g2⟩ := (h.bz hB).cl hlt;obtain ⟨e0, e1, e2⟩ := (h.bz hB).cl hjx;cases he : (xs[j].a == xs[k].a)
            all_goals
              have hjx2 : (j : Int) < (xs.length : Int) := by omega
              have hkx2 : (k : Int) < (xs.length : Int) := by omega
              (go_wp2_with fail);(go_quiet (fail));have hBq := below_drewN hB nq;generalize wr.drewN nq = w2 at hBq ⊢;(go_wp2_with fail)
            · go_round
              case rel =>
                refine ⟨j + 1, by omega, by go_num, fun n hn hx => ?_, hBq⟩;by_cases e : n = j
                · subst e; simpa using he
                · exact HJ.o n (by omega) hx
              case measure => simp [intOf]; omega
            · go_ret
              refine ⟨zjD ?_, hBq⟩;have hm : xs[k].a ∈ (xs.take k).map Atm.a := List.mem_map.2 ⟨xs[j], by rw [List.mem_take_iff_getElem]; exact ⟨j, by omega, rfl⟩, by simpa using he⟩;rw [HA.o, HD.o, decide_eq_true hm]; simp
          · obtain rfl : j = k := by omega
            have hm : xs[j].a ∉ (xs.take j).map Atm.a := fun hm => by
              obtain ⟨y, hy, ey⟩ := List.mem_map.1 hm;rw [List.mem_take_iff_getElem] at hy;obtain ⟨n, hn, en⟩ := hy;have hn' : n < j := by omega
              exact HJ.o n hn' (by omega) (by rw [en]; exact ey)
            have HZ := ax (show apartF [] xs = apartF ((xs.take (j + 1)).map Atm.a) (xs.drop (j + 1)) by rw [HA.o, HD.o, decide_eq_false hm, decide_eq_false HNZ.o]; simp);clear hm;(go_wp2_with fail)
            go_round
            case rel => exact ⟨j + 1, by omega, by go_num, HZ, hB⟩
            case measure => simp [intOf]; omega
    · obtain rfl : k = xs.length := by omega
      (go_wp2_with fail);go_ret;exact ⟨zjD (by rw [HA.o, List.drop_length]; rfl), hB⟩
theorem c_spec_l5Filled {lo hi lo' hi':Nat} (A B:Option Addr) (c0 c1:Nat) (xs:List Atm) (c:List Int) (w:World) (h:AtomsV w lo hi A xs) (h':IntsV w lo' hi' B c) (hc:c.length=9) (hx:AtomsOk xs) :
  Calls Tryz.prog 209 #[.slice A xs.length c0,.slice B c.length c1] w fun e w'=>∃ r,e=.returned r∧AtomsO w' w.heap.size r (filledL xs c)∧Below w.heap.size w w':=by
 have hl:=h.le;obtain ⟨pb,ob,rfl,lpb⟩:=h'.blt (k:=0) (by omega);have HC:=ax hc;have HX:=ax hx;have H':=ax h';clear hx h';rw[hc];clear hc;(go_enter Tryz.func209,Tryz.ntmps209);(go_wp2_with fail)
 go_loopw [5,6] (fun r i wr=>∃ (k:Nat) (D:Option Addr) (n e:Nat),k≤xs.length∧i=.int .i64 k∧n=(filledL (xs.take k) c).length∧r=.slice D n e∧AtomsO wr w.heap.size (.slice D n e) (filledL (xs.take k) c)∧Below w.heap.size w wr) (fun _ i _=>xs.length - (intOf i).toNat)
 case atStart=>exact ⟨0,some ⟨w.heap.size,0,none⟩,0,0,Nat.zero_le _,rfl,rfl,rfl,AtomsO.empty w,bel⟩
 case round=>
  obtain ⟨k,D,n,e,hkk,rfl,hn,rfl,of,hB⟩:=hrel;have HN:=ax hn
  have hnl:n≤k:=by
   rw[hn];exact Nat.le_trans (filledL_len _ _) (by simp;omega)
  clear hn;by_cases hlt:k<xs.length
  ·obtain ⟨b,off,rfl,hbl⟩:=h.blt hlt;have HH:=ax h;have HT:=ax (filledL_take xs c k hlt);have hxk:=HX.o _ (List.getElem_mem hlt);obtain ⟨x,hxe⟩:∃ x,x=xs[k]:=⟨_,rfl⟩;have HCL:aJ (∀ w':World,Below w.heap.size w w'→w'.cell? ⟨b,off+k*3,none⟩=some (.int .i64 x.kind)∧w'.cell? ⟨b,off+k*3+1,none⟩=some (.int .i64 x.a)∧w'.cell? ⟨b,off+k*3+2,none⟩=some (.int .i64 x.b)):=fun w' hw'=>by rw[hxe];exact (HH.o.bz hw').cl hlt
   rw[←hxe] at HT hxk;clear hxe;obtain ⟨q,xa,xb⟩:=x;dsimp only at hxk HCL;obtain ⟨⟨a1,a2⟩,⟨b1,b2⟩⟩:=hxk;obtain ⟨xa,rfl⟩:=Int.eq_ofNat_of_zero_le a1;obtain ⟨xb,rfl⟩:=Int.eq_ofNat_of_zero_le b1;have ha9:(xa:Int)<9:=by omega
   have hb9:(xb:Int)<9:=by omega
   have HCI:aJ (∀ w':World,Below w.heap.size w w'→w'.cell? ⟨pb,ob+xa,none⟩=some (.int .i64 (cl c xa))∧w'.cell? ⟨pb,ob+xb,none⟩=some (.int .i64 (cl c xb))):=fun w' hw'=>⟨ints_cl (H'.o.bz hw') (by rw[HC.o];omega),ints_cl (H'.o.bz hw') (by rw[HC.o];omega)⟩;have hwz:=hB.size;have hlx:(k:Int)<(xs.length:Int):=by omega
   clear a1 a2 b1 b2 h;have HS:aJ (∀ w':World,Below w.heap.size w w'→(w'.cell? ⟨b,off+k*3,none⟩=some (.int .i64 q)∧w'.cell? ⟨b,off+k*3+1,none⟩=some (.int .i64 xa)∧w'.cell? ⟨b,off+k*3+2,none⟩=some (.int .i64 xb))∧w'.cell? ⟨pb,ob+xa,none⟩=some (.int .i64 (cl c xa))∧w'.cell? ⟨pb,ob+xb,none⟩=some (.int .i64 (cl c xb))):=fun w' hw'=>⟨HCL.o w' hw',HCI.o w' hw'⟩;(go_wp2_with fail);refine wp_region_noPanic ?_;refine wp_region_held_drew (S:=(fun w'=>(w'.cell? ⟨b,off+k*3,none⟩=some (.int .i64 q)∧w'.cell? ⟨b,off+k*3+1,none⟩=some (.int .i64 xa)∧w'.cell? ⟨b,off+k*3+2,none⟩=some (.int .i64 xb))∧w'.cell? ⟨pb,ob+xa,none⟩=some (.int .i64 (cl c xa))∧w'.cell? ⟨pb,ob+xb,none⟩=some (.int .i64 (cl c xb)))) (by kernel_rfl) (HS.o _ bel) (fun aH=>?_);refine tk2 0 rfl aH (h:=tk2 1 rfl aH (h:=tk2 2 rfl aH (h:=?_)));(try simp only[zz]);refine tk2 3 rfl aH (h:=tk2 4 rfl aH (h:=tk2 5 rfl aH (h:=?_)));(try simp only[zz]);refine tk2 6 rfl aH (h:=tk2 7 rfl aH (h:=tk2 8 rfl aH (h:=?_)));(try simp only[zz]);refine tk2 9 rfl aH (h:=tk2 10 rfl aH (h:=tk2 11 rfl aH (h:=?_)));(try simp only[zz]);refine tk2 12 rfl aH (h:=tk2 13 rfl aH (h:=tk2 14 rfl aH (h:=?_)));(try simp only[zz]);refine tk2 15 rfl aH (h:=tk2 16 rfl aH (h:=tk2 17 rfl aH (h:=?_)));(try simp only[zz]);refine tk2 18 rfl aH (h:=tk2 19 rfl aH (h:=tk2 20 rfl aH (h:=?_)));(try simp only[zz]);refine tk2 21 rfl aH (h:=?_);refine rdc 22 rfl fun K hK=>?_;(try simp only[zz]);go_simp;refine hK.out _ _ (HS.o _ bel) ?_;clear aH hK K;intro aH;refine rdc 23 rfl fun K hK=>?_;(try simp only[zz]);go_simp;refine hK.out _ _ (HS.o _ bel) ?_;clear aH hK K;intro aH;(try simp only[zz]);refine dn1 ?_;clear aH;have kx:Blk (wr.alloc (.cells #[.int .i64 q,.int .i64 (cl c xa),.int .i64 (cl c xb)] tA)).drew wr.heap.size tA #[.int .i64 q,.int .i64 (cl c xa),.int .i64 (cl c xb)]:=blks;have hB2:Below w.heap.size w (wr.alloc (.cells #[.int .i64 q,.int .i64 (cl c xa),.int .i64 (cl c xb)] tA)).drew:=bel;have of2:=of.bz (w':=(wr.alloc (.cells #[.int .i64 q,.int .i64 (cl c xa),.int .i64 (cl c xb)] tA)).drew) bel;have hz2:wr.heap.size<(wr.alloc (.cells #[.int .i64 q,.int .i64 (cl c xa),.int .i64 (cl c xb)] tA)).drew.heap.size:=kx.lt;generalize (wr.alloc (.cells #[.int .i64 q,.int .i64 (cl c xa),.int .i64 (cl c xb)] tA)).drew=W2 at kx hB2 of2 hz2 ⊢
   have HF:aJ (∀ s t:Bool,(q == 1)=s→(cl c xa == cl c xb)=t→filledL (xs.take (k+1)) c=filledL (xs.take k) c++if (s || !t) then [⟨q,cl c xa,cl c xb⟩] else []):=by
    intro s t hs ht;rw[HT.o];have:Atm.fill c ⟨q,xa,xb⟩=(s || !t):=by rw[←hs,←ht];rfl
    rw[this];rfl
   have qx:=kx.cell;obtain ⟨u,hu⟩:∃ u,u=cl c xa:=⟨_,rfl⟩;obtain ⟨v,hv⟩:∃ v,v=cl c xb:=⟨_,rfl⟩;rw[←hu,←hv] at kx qx HF ⊢;clear hu hv HT HS HCI HCL of hB;cases hq:(q == 1)
   ·cases hab:(u == v)
    ·have HZ:aJ (filledL (xs.take (k+1)) c=filledL (xs.take k) c++[⟨q,u,v⟩]):=HF.o _ _ hq hab;(go_wp2_with (at_builtin;refine appAL rfl _ _ rfl (v:=.slice D n e) rfl (of2.bz (w':=W2.alloc (.cells #[.int .i64 q,.int .i64 u,.int .i64 v] tA)) bel) rfl (AtomsV.one' (Blk.newE rfl)) (by simp only[List.length_cons,List.length_nil];rw[←HN.o];omega) (by simp;omega) ?_;intro A' c' w2 of3 hg2 hB3))
     go_round
     case rel=>exact ⟨k+1,A',_,c',by omega,by go_num,rfl,by rw[HZ.o];simp,by rw[HZ.o];exact of3,Below.trans (bbox hB2 _) (hB3.mono (Nat.le_refl _))⟩
     case measure=>simp[intOf];omega
    ·have HZ:aJ (filledL (xs.take (k+1)) c=filledL (xs.take k) c++[]):=HF.o _ _ hq hab;(go_wp2_with fail)
     go_round
     case rel=>exact ⟨k+1,D,n,e,by omega,by go_num,by rw[HZ.o,List.append_nil];exact HN.o,rfl,by rw[HZ.o,List.append_nil];exact of2,hB2⟩
     case measure=>simp[intOf];omega
   ·have HZ:aJ (filledL (xs.take (k+1)) c=filledL (xs.take k) c++[⟨q,u,v⟩]):=HF.o _ _ hq rfl;(go_wp2_with (at_builtin;refine appAL rfl _ _ rfl (v:=.slice D n e) rfl (of2.bz (w':=W2.alloc (.cells #[.int .i64 q,.int .i64 u,.int .i64 v] tA)) bel) rfl (AtomsV.one' (Blk.newE rfl)) (by simp only[List.length_cons,List.length_nil];rw[←HN.o];omega) (by simp;omega) ?_;intro A' c' w2 of3 hg2 hB3))
    go_round
    case rel=>exact ⟨k+1,A',_,c',by omega,by go_num,rfl,by rw[HZ.o];simp,by rw[HZ.o];exact of3,Below.trans (bbox hB2 _) (hB3.mono (Nat.le_refl _))⟩
    case measure=>simp[intOf];omega
  ·obtain rfl:k=xs.length:=by omega
   (go_wp2_with fail);go_ret;refine ⟨_,rfl,?_,hB⟩;rw[List.take_length] at of;exact of
theorem opened_take (n:Nat) (h1:1≤n) (h9:n<9):opened.take (n+1)=opened.take n++[-1]:=by
 obtain rfl|rfl|rfl|rfl|rfl|rfl|rfl|rfl:n=1∨n=2∨n=3∨n=4∨n=5∨n=6∨n=7∨n=8:=by omega
 all_goals rfl
theorem c_spec_l5Open (w:World) :
  Calls Tryz.prog 200 #[] w fun e w'=>∃ r,e=.returned r∧IntsO w' w.heap.size r opened∧Below w.heap.size w w':=by
 (go_enter Tryz.func200,Tryz.ntmps200);(go_wp2_with fail)
 go_loopw [1] (fun r wr=>∃ (n:Nat) (D:Option Addr) (e:Nat),1≤n∧n≤9∧r=.slice D n e∧IntsO wr w.heap.size (.slice D n e) (opened.take n)∧Below w.heap.size w wr) (fun r _=>match r with | .slice _ n _=>9 - n|_=>0)
 case atStart=>exact ⟨1,some ⟨w.heap.size,0,none⟩,1,by omega,by omega,rfl,IntsO.one w 0 (Nat.le_refl _),bel⟩
 case round=>
  obtain ⟨n,D,e,h1,h9,rfl,o,hB⟩:=hrel;have hwz:=hB.size;by_cases hlt:n<9
  ·have hn8:(n:Int)≤8:=by omega
   have HT:=ax (opened_take n h1 hlt);have hll:aJ ((opened.take n).length=n):=by show _=_;rw[List.length_take];show min n 9=n;omega
   have o1:=o.bz (w':=wr.alloc (.cells #[.int .i64 (-1)] tI)) bel;(go_wp2_with (at_builtin;refine appI rfl _ _ rfl (v:=.slice D n e) rfl o1 wr.heap.size (-1) rfl (cell_box _ _ _) (by rw[hll.o];omega) (by simp;omega) ?_;intro g cc w2 o2 hg2 hB3;rw[hll.o,←HT.o] at o2;rw[hll.o]))
   go_round
   case rel=>exact ⟨n+1,_,_,by omega,by omega,rfl,o2,Below.trans bel hB3⟩
   case measure=>simp;omega
  ·obtain rfl:n=9:=by omega
   (go_wp2_with fail);go_ret;exact ⟨_,rfl,o,hB⟩
end
section
open Go Go.RowKit
structure Kept (T1 T2 : TypeId) (n₀ : Nat) (W W' : World) : Prop where
  bz : Below n₀ W W'
  keep : ∀ (g : Nat) (t : TypeId) (cs : Array Value), (t = T1 ∨ t = T2) → Blk W g t cs → Blk W' g t cs
section
variable {T1 T2 T : TypeId} {n₀ B : Nat} {A W W' W2 : World}
theorem Kept.refl (W : World) : Kept T1 T2 n₀ W W := ⟨Below.refl _ _, fun _ _ _ _ h => h⟩
theorem Kept.trans (h : Kept T1 T2 n₀ A W) (k : Kept T1 T2 n₀ W W') : Kept T1 T2 n₀ A W' := ⟨h.bz.trans k.bz, fun g t cs ht hb => k.keep g t cs ht (h.keep g t cs ht hb)⟩
theorem Kept.nz (h : Below W.heap.size W W') (hn : n₀ ≤ W.heap.size) : Kept T1 T2 n₀ W W' := ⟨h.mono hn, fun _ _ _ _ hb => hb.nz h⟩
theorem Kept.alloc (hn : n₀ ≤ W.heap.size) (o : Obj) : Kept T1 T2 n₀ W (W.alloc o) := ⟨(Below.refl _ _).alloc hn _, fun _ _ _ _ hb => hb.alloc o⟩
theorem Kept.set {cs : Array Value} (hk : Blk W B T cs) (hn : n₀ ≤ B) (h1 : T ≠ T1) (h2 : T ≠ T2) (i : Nat) (u : Value) : Kept T1 T2 n₀ W (W.setCell ⟨B, i, none⟩ u) :=
  ⟨(Below.refl _ _).setCell (p := ⟨B, i, none⟩) hn _, fun g t cs ht hb => hb.far (p := ⟨B, i, none⟩) (by
    intro e;have e : g = B := e;subst e;rcases ht with rfl | rfl
    · exact (hb.ne_ hk (fun e => h1 e.symm)) rfl
    · exact (hb.ne_ hk (fun e => h2 e.symm)) rfl) _⟩
theorem Kept.put {l : Nat} {o : Obj} (o' : Obj) (hn : n₀ ≤ l) (hl : W.heap[l]? = some o) (ho : o.isCells = false) : Kept T1 T2 n₀ W (W.putObj l o') :=
  ⟨(Below.refl n₀ W).grown (grownBy_putObj' W l o') (by have := (Array.getElem?_eq_some_iff.1 hl).1; omega) (fun k e => by cases e; omega),
   fun g t cs _ hb => (World.putObj_heap_other (fun e => by subst e; unfold Blk at hb; rw [hl] at hb; cases hb; cases ho)).trans hb⟩
theorem Kept.app {row : Option Nat} (hg : W.grownBy W' row) (hb : Below n₀ W W') (hr : ∀ r, row = some r → ∃ t cs, Blk W r t cs ∧ t ≠ T1 ∧ t ≠ T2) : Kept T1 T2 n₀ W W' :=
  ⟨hb, fun g t cs ht hk => hk.grown hg (fun e => by
    obtain ⟨t', cs', hk', g1, g2⟩ := hr g e.symm;unfold Blk at hk hk';rw [hk] at hk';injection hk' with hk';injection hk' with _ e2;subst e2;rcases ht with h | h
    · exact g1 h
    · exact g2 h)⟩

end

variable {n : Nat} {P : Program}
/-! ### A region that draws its order, within a round -/
end
section
open Go Go.RowKit Go.Proofs
attribute [local go_sem ↓] Go.wp_at_zero Go.wp_at_succ
attribute [local go_sem] Oper.semAt_some
abbrev tAs:Nat:=37
abbrev case9 (c:List Int):Array Value:=#[.int .i64 (cl c 0),.int .i64 (cl c 1),.int .i64 (cl c 2),.int .i64 (cl c 3),.int .i64 (cl c 4),.int .i64 (cl c 5),.int .i64 (cl c 6),.int .i64 (cl c 7),.int .i64 (cl c 8)]
theorem case9_eq {c:List Int} (h:c.length=9):case9 c=(encI c).toArray:=by
 match c,h with
 | [c0,c1,c2,c3,c4,c5,c6,c7,c8],_=>rfl
theorem Blk.case {w:World} {g:Nat} {t:TypeId} {c:List Int} (h:Blk w g t (case9 c)) (hc:c.length=9):Blk w g t (encI c).toArray:=by rw[←case9_eq hc];exact h
theorem Rw.keepB {w w':World} {lo hi size n n₀:Nat} {A:Option Addr} {xs:List Value} (h:Rw w lo hi size A n xs) (hb:Below n₀ w w') (hh:hi≤n₀):Rw w' lo hi size A n xs:=h.keep fun b _ h2=>hb.block b (by omega)
theorem AsnV.keepB {w w':World} {lo hi n₀:Nat} {v:Value} {a:Asn} (h:AsnV w lo hi v a) (hb:Below n₀ w w') (hh:hi≤n₀):AsnV w' lo hi v a:=by
 obtain ⟨A1,c1,A2,c2,e,h1,h2⟩:=h;exact ⟨A1,c1,A2,c2,e,⟨h1.raw.keepB hb hh,h1.lim⟩,⟨h2.raw.keepB hb hh,h2.lim⟩⟩
abbrev CaseT (a:Asn) (S:Nat):={ c:List Int // c∈cases a S }
theorem CaseT.len {a:Asn} {S:Nat} (x:CaseT a S):x.1.length=9:=by
 have h:=x.2;unfold cases at h;exact (gen_ok S 9 zeros x.1 (by omega) rfl (List.mem_filter.1 h).1).1
theorem CaseT.pos {a:Asn} {S:Nat} (x:CaseT a S) (j:Nat) (hj:j<9):(S.testBit j=true→0≤cl x.1 j∧cl x.1 j≤j)∧(S.testBit j=false→cl x.1 j = -1):=by
 have h:=x.2;unfold cases at h;exact (gen_ok S 9 zeros x.1 (by omega) rfl (List.mem_filter.1 h).1).2.2 j (by omega) hj
def caseS (a:Asn) (F:Nat):Nat:=tins (tset (mz a)) 0|||F
theorem caseS_bit (a:Asn) (F n:Nat):(caseS a F).testBit n=(decide (jq (n:Int)=true∧(n:Int)∈mz a) || decide (n=0) || F.testBit n):=by
 unfold caseS;rw[Nat.testBit_or,tins_bit,tset_bit]
 congr 2
 rw[decide_eq_decide];constructor
 ·rintro ⟨_,h⟩;omega
 ·intro h;subst h;exact ⟨by decide,rfl⟩
theorem caseS_zero (a:Asn) (F:Nat):(caseS a F).testBit 0=true:=by rw[caseS_bit];simp
theorem caseS_terms {a:Asn} (h:a.valid=true) (F:Nat):∀ t∈mz a,(caseS a F).testBit t.toNat=true:=by
 intro t ht;have hb:=termsL_ok h t ht;have:=zjA.1 hb;rw[caseS_bit];have e:((t.toNat:Nat):Int)=t:=by omega
 rw[e];simp[hb,ht]
theorem caseS_not {a:Asn} (h:a.valid=true) (F:Nat):∀ t:Nat,(caseS a F).testBit t=false→(∀ f∈a.facts,f.a≠t∧f.b≠t)∧(∀ x∈a.atoms,x.a≠t∧x.b≠t):=by
 intro t ht
 have key:(t:Int)∉mz a:=fun hm=>by
  have:=caseS_terms h F _ hm;rw[Int.toNat_natCast,ht] at this;cases this
 refine ⟨fun f hf=>⟨fun e=>key ?_,fun e=>key ?_⟩,fun x hx=>⟨fun e=>key ?_,fun e=>key ?_⟩⟩
 all_goals simp only[mz,List.mem_append,List.mem_flatMap]
 ·exact Or.inl ⟨f,hf,by simp[factT,e]⟩
 ·exact Or.inl ⟨f,hf,by simp[factT,e]⟩
 ·exact Or.inr ⟨x,hx,by simp[atomT,e]⟩
 ·exact Or.inr ⟨x,hx,by simp[atomT,e]⟩
abbrev set9 (w:World) (g:Nat) (v0 v1 v2 v3 v4 v5 v6 v7 v8:Value):World:=(((((((((w.setCell ⟨g,0,none⟩ v0).setCell ⟨g,1,none⟩ v1).setCell ⟨g,2,none⟩ v2).setCell ⟨g,3,none⟩ v3).setCell ⟨g,4,none⟩ v4).setCell ⟨g,5,none⟩ v5).setCell ⟨g,6,none⟩ v6).setCell ⟨g,7,none⟩ v7).setCell ⟨g,8,none⟩ v8)
theorem Blk.nine {w:World} {g:Nat} {t:TypeId} {a0 a1 a2 a3 a4 a5 a6 a7 a8 v0 v1 v2 v3 v4 v5 v6 v7 v8:Value} (h:Blk w g t #[a0,a1,a2,a3,a4,a5,a6,a7,a8]):Blk (set9 w g v0 v1 v2 v3 v4 v5 v6 v7 v8) g t #[v0,v1,v2,v3,v4,v5,v6,v7,v8]:=by
 have h0:=h.set_ 0 v0;simp only[List.setIfInBounds_toArray,List.set_cons_zero] at h0;have h1:=h0.set_ 1 v1;simp only[List.setIfInBounds_toArray,List.set_cons_zero,List.set_cons_succ] at h1;have h2:=h1.set_ 2 v2;simp only[List.setIfInBounds_toArray,List.set_cons_zero,List.set_cons_succ] at h2;have h3:=h2.set_ 3 v3;simp only[List.setIfInBounds_toArray,List.set_cons_zero,List.set_cons_succ] at h3;have h4:=h3.set_ 4 v4;simp only[List.setIfInBounds_toArray,List.set_cons_zero,List.set_cons_succ] at h4;have h5:=h4.set_ 5 v5;simp only[List.setIfInBounds_toArray,List.set_cons_zero,List.set_cons_succ] at h5;have h6:=h5.set_ 6 v6;simp only[List.setIfInBounds_toArray,List.set_cons_zero,List.set_cons_succ] at h6;have h7:=h6.set_ 7 v7;simp only[List.setIfInBounds_toArray,List.set_cons_zero,List.set_cons_succ] at h7;have h8:=h7.set_ 8 v8;simp only[List.setIfInBounds_toArray,List.set_cons_zero,List.set_cons_succ] at h8;exact h8
end
section
open Go Go.RowKit Go.Proofs
attribute [local go_sem ↓] Go.wp_at_zero Go.wp_at_succ
theorem IntsO.open_ {w:World} {base:Nat} {A:Option Addr} {n c k:Nat} {fs:List Int} (h:IntsO w base (.slice A n c) fs) (hk:k<fs.length):∃ g cur,n=fs.length∧A=some ⟨g,0,none⟩∧base≤g∧Blk w g tI cur∧cur[k]? = some (.int .i64 fs[k])∧
  (∀ v:Int,IntsO (w.setCell ⟨g,k,none⟩ (.int .i64 v)) base (.slice A n c) (fs.set k v)):=by
 obtain ⟨⟨hl,h2⟩,hL⟩:=h;rcases h2 with ⟨e,hn⟩|⟨g,cap,cur,e,hb,hh,hn,hm,hs,ht⟩
 ·omega
 ·injection e with e1 e2 e3;subst e1 e2 e3;have hK:Blk w g tI cur:=hh
  have hP:Pre cur (encI fs) (fs.length * 1):=by
   intro j hj;rw[←ht,List.getElem?_take,if_pos hj];simp
  refine ⟨g,cur,rfl,rfl,hb,hK,(hP _ (by omega)).trans (by simp[List.getElem?_eq_getElem hk]),?_⟩;intro v;refine ⟨?_,by rw[List.length_set];exact hL⟩;rw[show encI (fs.set k v)=(encI fs).set k (.int .i64 v) from by simp[encI,List.map_set],List.length_set];exact own_of_blk (hK.set_ k (.int .i64 v)) hb (by rw[List.length_set,hl]) (hP.setL k (.int .i64 v) (by rw[hs];exact Nat.mul_le_mul hn (Nat.le_refl _)) (by rw[hl];exact Nat.le_refl _)) hn hm (by simpa using hs)
def seekAt (a:Asn) (S n:Nat) (c:List Int) (k:Nat):List (List Int):=if k<8 - n∧cl c k≠k then [] else seek a S n (c.set (8 - n) k)
theorem seek_cut {a:Asn} {S:Nat} (n:Nat) {c:List Int} (h:(fitsS c a.facts&&earlyF c [] a.atoms)=false):seek a S n c=[]:=by
 cases n<;>(unfold seek;rw[h];rfl)
theorem seek_leaf {a:Asn} {S:Nat} {c:List Int} (h:(fitsS c a.facts&&earlyF c [] a.atoms)=true):seek a S 0 c=if apartF [] (filledL a.atoms c) then [c] else []:=by
 unfold seek;rw[h,if_pos rfl]
theorem seek_step {a:Asn} {S n:Nat} {c:List Int} (h:(fitsS c a.facts&&earlyF c [] a.atoms)=true):seek a S (n+1) c=if S.testBit (8 - n) then (List.range (9 - n)).flatMap (seekAt a S n c) else seek a S n c:=by
 conv=>lhs;unfold seek
 rw[h,if_pos rfl];rfl
theorem flatMap_first {α:Type} {f:Nat→List α} {k N:Nat} (hk:k<N) (h:(List.range k).flatMap f=[]) (hne:f k≠[]):∃ y,(f k).head? = some y∧((List.range N).flatMap f).head? = some y:=by
 obtain ⟨m,rfl⟩:∃ m,N=k+(m+1):=⟨N - k - 1,by omega⟩;rw[List.range_add,List.range_succ_eq_map,List.map_cons,List.flatMap_append,List.flatMap_cons,Nat.add_zero,h,List.nil_append]
 cases e:f k with
 | nil=>exact absurd e hne
 | cons y ys=>exact ⟨y,rfl,rfl⟩
def firstI (L:List (List Int)):List Int:=L.head?.getD []
theorem c_fits9 {lo hi lo' hi':Nat} (A B:Option Addr) (c0 c1:Nat) (fs:List Fct) (c:List Int) (w:World) (h:FactsV w lo hi A fs) (h':IntsV w lo' hi' B c) (hc:c.length=9) (hf:FactsOk fs) :
  Calls Tryz.prog 244 #[.slice A fs.length c0,.slice B 9 c1] w fun e w'=>e=.returned (.bool (fitsS c fs))∧w=w':=by
 have:=c_spec_l5Fits A B c0 c1 fs c w h h' hc hf;rwa [hc] at this
theorem c_early9 {lo hi lo' hi':Nat} (A B:Option Addr) (c0 c1:Nat) (xs:List Atm) (c:List Int) (w:World) (h:AtomsV w lo hi A xs) (h':IntsV w lo' hi' B c) (hc:c.length=9) (hx:AtomsOk xs) (hcl:∀ x∈xs,cl c x.a≤8) :
  Calls Tryz.prog 245 #[.slice A xs.length c0,.slice B 9 c1] w fun e w'=>e=.returned (.bool (earlyF c [] xs))∧Below w.heap.size w w':=by
 have:=c_spec_l5Early A B c0 c1 xs c w h h' hc hx hcl;rwa [hc] at this
theorem c_filled9 {lo hi lo' hi':Nat} (A B:Option Addr) (c0 c1:Nat) (xs:List Atm) (c:List Int) (w:World) (h:AtomsV w lo hi A xs) (h':IntsV w lo' hi' B c) (hc:c.length=9) (hx:AtomsOk xs) :
  Calls Tryz.prog 209 #[.slice A xs.length c0,.slice B 9 c1] w fun e w'=>∃ r,e=.returned r∧AtomsO w' w.heap.size r (filledL xs c)∧Below w.heap.size w w':=by
 have:=c_spec_l5Filled A B c0 c1 xs c w h h' hc hx;rwa [hc] at this
theorem openedB:(∀ j:Nat,j<9→cl opened j≤8)∧∀ (S:Nat) (j:Nat),j<9 - 8→S.testBit j=true→0≤cl opened j∧cl opened j≤j:=by
 refine ⟨fun j hj=>?_,fun S j hj _=>?_⟩
 ·obtain rfl|rfl|rfl|rfl|rfl|rfl|rfl|rfl|rfl:j=0∨j=1∨j=2∨j=3∨j=4∨j=5∨j=6∨j=7∨j=8:=by omega
  all_goals decide
 ·obtain rfl:j=0:=by omega
  decide
theorem seek_congr (a:Asn) {S S':Nat} (h:∀ j,1≤j→j<9→S.testBit j=S'.testBit j):∀ (n:Nat) (c:List Int),n≤8→seek a S n c=seek a S' n c:=by
 intro n
 induction n with
 | zero=>intro c _;rfl
 | succ n ih=>
  intro c hn;unfold seek;rw[h (8 - n) (by omega) (by omega)];have e:∀ c',seek a S n c'=seek a S' n c':=fun c'=>ih c' (by omega)
  split
  ·split
   ·apply flatMap_congr';intro k _;rw[e]
   ·exact e _
  ·rfl
theorem seek_caseS {a:Asn} (hv:a.valid=true) (F S:Nat) (h:∀ j,1≤j→j<9→S.testBit j=(caseS a F).testBit j):seek a S 8 opened=cases a (caseS a F):=by
 rw[seek_congr a h 8 opened (by omega)];exact seek_cases (Asn.valid_ok hv).1 (Asn.valid_ok hv).2 (caseS_zero a F) (caseS_not hv F)
theorem seek_terms {a:Asn} (hv:a.valid=true):seek a (tset (mz a)) 8 opened=cases a (caseS a 0):=by
 refine seek_caseS hv 0 _ fun j h1 h2=>?_;rw[caseS_bit,tset_bit];have:¬j=0:=by omega
 simp[this]
end
section
open Go Go.RowKit Go.Proofs
theorem AsnI.setT {w:World} {lo hi:Nat} {v:Value} {x:Asn} (h:AsnI w lo hi v x) {g:Nat} {t:TypeId} {cs:Array Value} (hk:Blk w g t cs) (h1:t≠tF) (h2:t≠tA) (i:Nat) (u:Value):AsnI (w.setCell ⟨g,i,none⟩ u) lo hi v x:=by
 obtain ⟨fv,av,e,p1,p2⟩:=h;exact ⟨fv,av,e,⟨p1.1.setT hk h1 i u,p1.2⟩,⟨p2.1.setT hk h2 i u,p2.2⟩⟩
theorem IntsI.setT {w:World} {lo hi:Nat} {v:Value} {x:List Int} (h:IntsI w lo hi v x) {g:Nat} {t:TypeId} {cs:Array Value} (hk:Blk w g t cs) (h1:t≠tI) (i:Nat) (u:Value):IntsI (w.setCell ⟨g,i,none⟩ u) lo hi v x:=⟨h.1.setT hk h1 i u,h.2⟩
abbrev tIS:Nat:=31
theorem infoIS:(Tryz.prog.info? tIS).map (fun i=>(i.zero,i.size,i.bytes))=some (some (.slice none 0 0),1,24):=by kernel_rfl
def tot (xss:List (List Int)):Nat:=(xss.map List.length).sum
structure SSO (w:World) (base:Nat) (v:Value) (vs:List Value) (xss:List (List Int)):Prop where
 row:w.ownsRow base tIS 1 v vs.length vs
 lim:Lim vs.length
 len:vs.length=xss.length
 at_:∀ (k:Nat) (h:k<vs.length) (h':k<xss.length),IntsO w base vs[k] xss[k]
 apart:∀ (i j:Nat) (hi:i<vs.length) (hj:j<vs.length),i<j→∀ g,vs[i].ownBlock=some g→vs[j].ownBlock≠some g
def IntSSO (w:World) (base:Nat) (v:Value) (xss:List (List Int)):Prop:=∃ vs,SSO w base v vs xss
section
variable {w w':World} {base base':Nat} {v:Value} {vs:List Value} {xss:List (List Int)}
theorem SSO.bz (h:SSO w base v vs xss) (hb:Below w.heap.size w w'):SSO w' base v vs xss:=⟨own_below h.row hb,h.lim,h.len,fun k h1 h2=>(h.at_ k h1 h2).bz hb,h.apart⟩
theorem IntSSO.bz (h:IntSSO w base v xss) (hb:Below w.heap.size w w'):IntSSO w' base v xss:=by obtain ⟨vs,h⟩:=h;exact ⟨vs,h.bz hb⟩
theorem SSO.bq (h:SSO w base v vs xss) (hb:base'≤base):SSO w base' v vs xss:=⟨own_lower h.row hb,h.lim,h.len,fun k h1 h2=>(h.at_ k h1 h2).bq hb,h.apart⟩
theorem IntSSO.bq (h:IntSSO w base v xss) (hb:base'≤base):IntSSO w base' v xss:=by obtain ⟨vs,h⟩:=h;exact ⟨vs,h.bq hb⟩
theorem SSO.nil (w:World) (base:Nat):SSO w base (.slice none 0 0) [] []:=⟨World.ownsRow_nil _ _ _ _,by simp[Lim],rfl,fun k h=>absurd h (by simp),fun i j h=>absurd h (by simp)⟩
theorem SSO.empty (w:World) {g:Nat} (hg:g=w.heap.size):SSO (w.alloc (.cells #[] tIS)) g (.slice (some ⟨g,0,none⟩) 0 0) [] []:=by
 subst hg;exact ⟨own_empty w _ _,by simp[Lim],rfl,fun k h=>absurd h (by simp),fun i j h=>absurd h (by simp)⟩
theorem SSO.form (h:SSO w base v vs xss):∃ A c,v=.slice A xss.length c:=by
 obtain ⟨A,c,e,-⟩:=own_reads h.row h.lim;exact ⟨A,c,by rw[e,h.len]⟩
theorem IntSSO.form (h:IntSSO w base v xss):∃ A c,v=.slice A xss.length c:=by obtain ⟨vs,h⟩:=h;exact h.form
theorem SSO.setT (h:SSO w base v vs xss) {g:Nat} {t:TypeId} {cs:Array Value} (hk:Blk w g t cs) (h1:t≠tIS) (h2:t≠tI) (i:Nat) (u:Value):SSO (w.setCell ⟨g,i,none⟩ u) base v vs xss:=
 ⟨own_setT h.row hk h1 i u,h.lim,h.len,fun k a b=>(h.at_ k a b).setT hk h2 i u,h.apart⟩
theorem SSO.snoc {w1:World} {sv v':Value} {ys:List Int} (h:SSO w base v vs xss) (hb:Below w.heap.size w w1) (hn:IntsO w1 w.heap.size sv ys) (hbase:base≤w.heap.size) (hl:vs.length+1≤1049600)
  (hg:w1.grownBy w' v.ownBlock) (hr:w'.ownsRow base tIS 1 v' (vs.length+1) (vs++[sv])):SSO w' base v' (vs++[sv]) (xss++[ys]):=by
 have hrow1:=own_below h.row hb;refine ⟨by simpa using hr,by simp[Lim];omega,by simp[h.len],fun k h1 h2=>?_,fun i j hi hj hij g hgi hgj=>?_⟩
 ·by_cases e:k<vs.length
  ·have e':k<xss.length:=by rw[←h.len];exact e
   simp only[List.getElem_append,e,e',dite_true];exact ⟨own_grownO ((h.at_ k e e').bz hb).1 hrow1 hg (by decide),(h.at_ k e e').2⟩
  ·have hk:k=vs.length:=by simp at h1;omega
   have e':¬k<xss.length:=by rw[←h.len];exact e
   simp only[List.getElem_append,e,e',dite_false,List.getElem_singleton];exact ⟨(own_lower (own_grownO hn.1 hrow1 hg (by decide)) hbase),hn.2⟩
 ·by_cases ej:j<vs.length
  ·have ei:i<vs.length:=by omega
   simp only[List.getElem_append,ei,ej,dite_true] at hgi hgj;exact h.apart i j ei ej hij g hgi hgj
  ·have hj':j=vs.length:=by simp at hj;omega
   have ei:i<vs.length:=by omega
   simp only[List.getElem_append,ei,ej,dite_true,dite_false,List.getElem_singleton] at hgi hgj;have e1:=((h.at_ i ei (by rw[←h.len];exact ei)).1.lt g hgi).2;have e2:=(hn.1.lt g hgj).1;omega
def IntSSV (w:World) (lo hi:Nat) (A:Option Addr) (xss:List (List Int)):Prop:=
 ∃ vs:List Value,Rd w lo hi 1 A xss.length vs∧∀ (k:Nat) (h:k<vs.length) (h':k<xss.length),∃ B c,vs[k]=.slice B xss[k].length c∧IntsV w lo hi B xss[k]
theorem IntSSV.bz {lo hi:Nat} {A:Option Addr} (h:IntSSV w lo hi A xss) (hb:Below w.heap.size w w'):IntSSV w' lo hi A xss:=by
 obtain ⟨vs,h1,h2⟩:=h;exact ⟨vs,h1.bz hb,fun k a b=>by obtain ⟨B,c,e,h3⟩:=h2 k a b;exact ⟨B,c,e,h3.bz hb⟩⟩
theorem IntSSV.at {lo hi:Nat} {A:Option Addr} (h:IntSSV w lo hi A xss) {k:Nat} (hk:k<xss.length):∃ b o B c,A=some ⟨b,o,none⟩∧b<w.heap.size∧w.cell? ⟨b,o+k,none⟩=some (.slice B xss[k].length c)∧IntsV w lo hi B xss[k]:=by
 obtain ⟨vs,h1,h2⟩:=h;have hl:vs.length=xss.length:=by have:=h1.raw.1;omega
 obtain ⟨b,o,u,e,-,-,hu,hc⟩:=h1.raw.at1 hk;obtain ⟨B,c,e2,h3⟩:=h2 k (by omega) hk;rw[List.getElem?_eq_getElem (by omega)] at hu;refine ⟨b,o,B,c,e,block_lt_of_cell hc,?_,h3⟩;rw[hc,←Option.some.inj hu,e2]
theorem SSO.rj {A:Option Addr} {n c:Nat} (h:SSO w base (.slice A n c) vs xss):n=xss.length∧IntSSV w base w.heap.size A xss:=by
 obtain ⟨A',c',e,h1⟩:=own_reads h.row h.lim;injection e with e1 e2 e3;subst e1;refine ⟨by rw[e2,h.len],vs,by rw[←h.len];exact h1,fun k a b=>?_⟩;obtain ⟨B,d,e,h3⟩:=(h.at_ k a b).rj;exact ⟨B,d,e,h3⟩
end
def IntSSI (w:World) (lo hi:Nat) (v:Value) (xss:List (List Int)):Prop:=∃ vs,SSO w lo v vs xss∧Und v hi∧(∀ (k:Nat) (h:k<vs.length),Und vs[k] hi)∧tot xss≤16777216
section
variable {w w':World} {lo hi a b:Nat} {v:Value} {xss:List (List Int)}
theorem IntSSO.I' {base:Nat} (h:IntSSO w base v xss) (hb:tot xss≤16777216):IntSSI w base w.heap.size v xss:=by
 obtain ⟨vs,h⟩:=h;exact ⟨vs,h,fun g hg=>(h.row.lt g hg).2,fun k hk g hg=>((h.at_ k hk (by rw[←h.len];exact hk)).1.lt g hg).2,hb⟩
def IntSSR (w:World) (base:Nat) (v:Value) (xss:List (List Int)):Prop:=IntSSO w base v xss∧tot xss≤16777216
theorem IntSSR.I {base:Nat} (h:IntSSR w base v xss):IntSSI w base w.heap.size v xss:=h.1.I' h.2
theorem IntSSI.bz (h:IntSSI w lo hi v xss) (hb:Below w.heap.size w w'):IntSSI w' lo hi v xss:=by
 obtain ⟨vs,h1,h2⟩:=h;exact ⟨vs,h1.bz hb,h2⟩
theorem IntSSI.mk (h:IntSSI w lo hi v xss) (hb:Mk (fun g=>a≤g∧g<b) w w') (hd:hi≤a∨b≤lo):IntSSI w' lo hi v xss:=by
 obtain ⟨vs,h1,h2,h3,h4⟩:=h;refine ⟨vs,⟨own_mk h1.row hb fun g hg hp=>by have:=und_range h1.row h2 g hg;omega,h1.lim,h1.len,fun k x y=>?_,h1.apart⟩,h2,h3,h4⟩;exact (h1.at_ k x y).mk hb fun g hg hp=>by have:=und_range (h1.at_ k x y).1 (h3 k x) g hg;omega
theorem IntSSI.form (h:IntSSI w lo hi v xss):∃ A c,v=.slice A xss.length c:=by obtain ⟨vs,h1,-⟩:=h;exact h1.form
theorem IntSSI.rj {A:Option Addr} {n c:Nat} (h:IntSSI w lo hi (.slice A n c) xss):IntSSV w lo w.heap.size A xss:=by obtain ⟨vs,h1,-⟩:=h;exact h1.rj.2
theorem IntSSI.len (h:IntSSI w lo hi v xss):xss.length≤1049600∧tot xss≤16777216:=by obtain ⟨vs,h1,-,-,h4⟩:=h;exact ⟨by rw[←h1.len];exact h1.lim,h4⟩
end
theorem tot_cons (xs:List Int) (xss:List (List Int)):tot (xs :: xss)=xs.length+tot xss:=by simp[tot]
theorem SSO.at {w:World} {base n c k:Nat} {A:Option Addr} {vs:List Value} {xss:List (List Int)} (h:SSO w base (.slice A n c) vs xss) (hk:k<xss.length) (hk':k<vs.length):∃ b o B d,A=some ⟨b,o,none⟩∧b<w.heap.size∧w.cell? ⟨b,o+k,none⟩=some (.slice B xss[k].length d)∧vs[k]=.slice B xss[k].length d:=by
 obtain ⟨A',c',e,h1⟩:=own_reads h.row h.lim;injection e with e1 e2 e3;subst e1;obtain ⟨b,o,u,e,-,-,hu,hc⟩:=h1.raw.at1 hk';obtain ⟨B,d,e2,-⟩:=(h.at_ k hk' hk).rj;rw[List.getElem?_eq_getElem hk'] at hu;exact ⟨b,o,B,d,e,block_lt_of_cell hc,by rw[hc,←Option.some.inj hu,e2],e2⟩
end
section
open Go Go.RowKit Go.Proofs
attribute [local go_sem ↓] Go.wp_at_zero Go.wp_at_succ
attribute [local go_sem] Oper.semAt_some
structure KX (w w':World):Prop where
 os:w'.os=w.os
 tape:w'.tape=w.tape
 output:w'.output=w.output
 size:w.heap.size≤w'.heap.size
 keep:∀ (k:Nat) (o:Obj),w.heap[k]? = some o→(∀ cs,o≠.cells cs tIS (0,0))→w'.heap[k]? = some o
section
variable {w w' w1:World}
theorem KX.of (h:Below w.heap.size w w'):KX w w':=⟨h.os,h.tape,h.output,h.size,fun k o hk _=>(h.block k (Array.getElem?_eq_some_iff.1 hk).1).trans hk⟩
theorem KX.trans (h:KX w w1) (k:KX w1 w'):KX w w':=⟨k.os.trans h.os,k.tape.trans h.tape,k.output.trans h.output,Nat.le_trans h.size k.size,fun i o hi ho=>k.keep i o (h.keep i o hi ho) ho⟩
theorem KX.set (h:KX w w1) {p:Addr} (hp:w.heap.size≤p.block) (u:Value):KX w (w1.setCell p u):=
 ⟨h.os,h.tape,h.output,by have:=h.size;simpa using this,fun k o hk ho=>(Below.heap_setCell w1 p u k (by have:=(Array.getElem?_eq_some_iff.1 hk).1;omega)).trans (h.keep k o hk ho)⟩
theorem KX.app {v:Value} {base n:Nat} {vs:List Value} (h:w.ownsRow base tIS 1 v n vs) (hg:w.grownBy w' v.ownBlock):KX w w':=
 ⟨hg.os,hg.tape,hg.output,hg.size,fun k o hk ho=>(hg.block k (Array.getElem?_eq_some_iff.1 hk).1 (fun e=>by
  rcases h.2 with ⟨rfl,-⟩|⟨g,cap,cur,rfl,-,hh,-⟩
  ·cases e
  ·have e1:k=g:=by simpa[Value.ownBlock] using e
   subst e1;rw[hk] at hh
   exact ho cur (Option.some.inj hh))).trans hk⟩
theorem KX.blk (h:KX w w') {g:Nat} {t:TypeId} {cs:Array Value} (hb:Blk w g t cs) (ht:t≠tIS):Blk w' g t cs:=h.keep g _ hb fun c e=>by injection e with _ e2;exact ht e2
theorem KX.ints (h:KX w w') {base:Nat} {v:Value} {xs:List Int} (ho:IntsO w base v xs):IntsO w' base v xs:=by
 obtain ⟨⟨h1,h2⟩,h3⟩:=ho;refine ⟨⟨h1,?_⟩,h3⟩;rcases h2 with h2|⟨k,cap,cur,hv,hg,hh,r⟩
 ·exact Or.inl h2
 ·exact Or.inr ⟨k,cap,cur,hv,hg,h.blk (g:=k) hh (by decide),r⟩
end
theorem KX.keeps {w w':World} (h:KX w w'):KeepsOthers w w':=⟨h.size,fun k o hk ho=>h.keep k o hk fun cs e=>by subst e;cases ho⟩
theorem KX.kept {T1 T2:TypeId} {n₀:Nat} {w w':World} (h:KX w w') (hb:Below n₀ w w') (h1:T1≠tIS) (h2:T2≠tIS):Kept T1 T2 n₀ w w':=⟨hb,fun g t cs ht hk=>h.blk hk (by rcases ht with rfl|rfl;exact h1;exact h2)⟩
section
variable {P:Program} {n:Nat}
end
def casesV (a:Asn):List (List Int):=if a.valid then cases a (caseS a 0) else []
theorem flatMap_len {α β:Type} (f:α→List β) (B:Nat):∀ (l:List α),(∀ x∈l,(f x).length≤B)→(l.flatMap f).length≤l.length * B
 | [],_=>by simp
 | x :: xs,h=>by
  rw[List.flatMap_cons,List.length_append,List.length_cons,Nat.succ_mul];have h1:=h x List.mem_cons_self;have h2:=flatMap_len f B xs fun y hy=>h y (List.mem_cons_of_mem _ hy);omega
def fall:Nat→Nat
 | 0=>1
 | n+1=>(9 - n) * fall n
theorem gen_len (S:Nat):∀ (n:Nat) (c:List Int),n≤9→(gen S n c).length≤fall n
 | 0,_,_=>by simp[gen,fall]
 | n+1,c,hn=>by
  have ih:=fun c=>gen_len S n c (by omega);unfold gen fall
  split
  ·refine Nat.le_trans (flatMap_len _ (fall n) _ fun k _=>?_) (by simp)
   split
   ·simp
   ·exact ih _
  ·refine Nat.le_trans (ih _) ?_;have:1≤9 - n:=by omega
   exact Nat.le_mul_of_pos_left _ this
theorem cases_len (a:Asn) (S:Nat):(cases a S).length≤362880:=Nat.le_trans (List.length_filter_le _ _) (gen_len S 9 zeros (by omega))
theorem tot_nine:∀ (L:List (List Int)),(∀ c∈L,c.length=9)→tot L=L.length * 9
 | [],_=>rfl
 | c :: L,h=>by rw[tot_cons,h c List.mem_cons_self,tot_nine L fun d hd=>h d (List.mem_cons_of_mem _ hd),List.length_cons];omega
theorem cases_nine {a:Asn} {S:Nat}:∀ c∈cases a S,c.length=9:=fun c hc=>CaseT.len (a:=a) (S:=S) ⟨c,hc⟩
theorem casesV_tot (a:Asn):tot (casesV a)≤16777216:=by
 unfold casesV
 split
 ·rw[tot_nine _ cases_nine];have:=cases_len a (caseS a 0);omega
 ·simp[tot]
section
variable {ops:Array Oper} {rest:List Oper} {o:Oper} {a:Act} {Q:Exit→Act→World→Prop} {w w0:World} {base:Nat} {v:Value} {vs:List Value} {xss:List (List Int)}
theorem rwS {w:World} {g:Nat} {sv:Value} (h:Blk w g tIS #[sv]):Rw w g (g+1) 1 (some ⟨g,0,none⟩) 1 [sv]:=
 ⟨rfl,fun _=>⟨g,0,rfl,Nat.le_refl _,Nat.lt_succ_self _,fun j u hu=>by
  match j,hu with
  | 0,hu=>simp at hu;subst hu;exact h.cell 0⟩⟩
theorem appSS (hgd:o.guard=none) (s x:Operand) (ho:o.op=.call { callee:=.builtin .append,args:=#[s,x],argTypes:=#[195,195] })
  (hs:a.eval s=v) (h0:SSO w0 base v vs xss) (hb0:Below w0.heap.size w0 w) (hbase:base≤w0.heap.size) {g:Nat} {A:Option Addr} {n c:Nat} {ys:List Int} (hy:IntsO w w0.heap.size (.slice A n c) ys) (hg:Blk w g tIS #[.slice A n c]) (hx:a.eval x=.slice (some ⟨g,0,none⟩) 1 1) (hl:xss.length+1≤1049600)
  (h:∀ A' c' w',SSO w' base (.slice A' (xss.length+1) c') (vs++[.slice A n c]) (xss++[ys])→w.grownBy w' v.ownBlock→Below base w w'→wpList Tryz.prog ops Q rest (a.put o.dst (.slice A' (xss.length+1) c')) w'):wpList Tryz.prog ops Q (o :: rest) a w:=by
 have hvl:=h0.len;refine wpList_appL hgd s x 195 ho Tryz.underlying195 infoIS rfl (by decide) (by decide) hs (own_below h0.row hb0) hx (rwS hg) (by intro u hu;simp at hu;subst hu;rfl) (by omega) (Nat.le_trans hbase hb0.size) ?_;intro v' w' h1 h2 h3;have hS:=h0.snoc hb0 hy hbase (by omega) h2 h1;obtain ⟨A',c',rfl⟩:=hS.form;simp only[List.length_append,List.length_cons,List.length_nil,Nat.zero_add] at hS ⊢;exact h A' c' w' hS h2 h3
end
end
section
open Go Go.RowKit Go.Proofs
attribute [local go_sem ↓] Go.wp_at_zero Go.wp_at_succ
theorem any_drop (p:Atm→Bool) (xs:List Atm) (k:Nat) (hk:k<xs.length):(xs.drop k).any p=(p xs[k] || (xs.drop (k+1)).any p):=by
 rw[List.drop_eq_getElem_cons hk];rfl
def begB (xs:List Atm) (b:Int):Bool:=xs.any fun x=>decide (x.a=b)
def ub (used:List Bool) (k:Nat):Bool:=(used[k]?).getD false
theorem freeAt_of {xs:List Atm} {used:List Bool} {c:Int} {k:Nat} (hk:k<xs.length) (hu:used.length=xs.length):freeAt xs used c k=(decide (xs[k].a=c) && !ub used k):=by
 unfold freeAt ub;rw[List.getElem?_eq_getElem hk,List.getElem?_eq_getElem (by omega)];rfl
def cellF (xs:List Atm) (used:List Bool) (x:Atm):Option (List Bool):=(findU xs used x.a).bind fun k=>if (xs[k]?).getD default=x then some (used.set k true) else none
end
end Go.Proofs.YtjaohekkmlkinaaGreat
