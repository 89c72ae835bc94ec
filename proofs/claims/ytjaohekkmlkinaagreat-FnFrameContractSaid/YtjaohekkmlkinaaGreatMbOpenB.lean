/- What the reader draws: its beginning; chains of atoms. -/
import Derived.Test.YtjaohekkmlkinaaGreatMbKit
set_option linter.unusedSimpArgs false
set_option linter.unusedVariables false
set_option maxRecDepth 100000
set_option maxHeartbeats 25600000
namespace Go.Proofs.YtjaohekkmlkinaaGreat
section
open Go Go.RowKit Go.Proofs
theorem own_set_other {w:World} {base:Nat} {e:TypeId} {size:Nat} {v:Value} {n X:Nat} {xs:List Value} (h:w.ownsRow base e size v n xs) (hu:Und v X) {q:Addr} (hq:X≤q.block) (u:Value):(w.setCell q u).ownsRow base e size v n xs:=by
 obtain ⟨h1,h2⟩:=h;refine ⟨h1,?_⟩;rcases h2 with h2|⟨k,cap,cur,hv,hk,hh,r⟩
 ·exact Or.inl h2
 ·refine Or.inr ⟨k,cap,cur,hv,hk,(Below.heap_setCell w q u k ?_).trans hh,r⟩;have:=hu k (by rw[hv];rfl);omega
theorem AtomsO.set_other {w:World} {base X:Nat} {v:Value} {xs:List Atm} (h:AtomsO w base v xs) (hu:Und v X) {q:Addr} (hq:X≤q.block) (u:Value):AtomsO (w.setCell q u) base v xs:=⟨own_set_other h.1 hu hq u,h.2⟩
def BytesR (w:World) (A:Option Addr) (n c:Nat):Prop:=∃ bs:List Nat,n=bs.length∧Rw w 0 w.heap.size 1 A n (encU bs)∧(∀ b∈bs,b<256)∧n≤c∧n≤9223372036854775807
theorem c_l18Open (A:Option Addr) (n c:Nat) (w:World) (h:BytesR w A n c) :
  Calls Tryz.prog 77 #[.slice A n c] w fun e w'=>∃ g,e=.returned (.pointer (some ⟨g,0,none⟩))∧w.heap.size≤g∧Rdr w' g 0∧Below w.heap.size w w':=by
 obtain ⟨bs,rfl,hR,hU,hc,hm⟩:=h;by_cases hl:2000<bs.length
 ·have hli:(2000:Int)<(bs.length:Int):=by omega
  have hci:(2000:Int)≤(c:Int):=by omega
  have hcn:2000≤c:=by omega
  obtain ⟨b,o,rfl,h1,h2,h3⟩:=hR.form (by omega);have HC:=ax h3;have HU:=ax hU;have hlz:=hR.1;clear hR h3 hU;(go_enter Tryz.func77,Tryz.ntmps77);(go_wp2_with fail);have e2:(bs.take 2000).length=2000:=by simp;omega
  have hRw:Rw w 0 w.heap.size 1 (some ⟨b,o,none⟩) (bs.take 2000).length (encU (bs.take 2000)):=by
   refine ⟨by simp[encU],fun _=>⟨b,o,rfl,Nat.zero_le _,h2,fun j u hu=>HC.o j u ?_⟩⟩;unfold encU at hu ⊢;rw[List.map_take,List.getElem?_take] at hu
   split at hu
   ·exact hu
   ·cases hu
  have HW:=ax hRw;clear hRw;go_ret;exact ⟨w.heap.size,rfl,Nat.le_refl _,⟨some ⟨b,o,none⟩,c,bs.take 2000,by rw[e2];exact Blk.new _ _ _,HW.o.keep fun b _ hb=>Below.heap_alloc w _ b hb,fun x hx=>HU.o x (List.mem_of_mem_take hx),by omega⟩,bel⟩
 ·have hli:¬(2000:Int)<(bs.length:Int):=by omega
  have HR:=ax hR;have HU:=ax hU;clear hR hU;(go_enter Tryz.func77,Tryz.ntmps77);(go_wp2_with fail);go_ret;exact ⟨w.heap.size,rfl,Nat.le_refl _,⟨A,c,bs,Blk.new _ _ _,HR.o.keep fun b _ hb=>Below.heap_alloc w _ b hb,HU.o,by omega⟩,bel⟩
theorem c_l6Chains (g p:Nat) (w:World) (h:Rdr w g p) (hp:p≤999900) :
  Calls Tryz.prog 176 #[.pointer (some ⟨g,0,none⟩)] w fun e w'=>∃ r a q,e=.returned r∧AsnO w' w.heap.size r a∧a.valid=true∧a.facts.length≤1∧a.atoms.length≤4∧Rdr w' g q∧q≤p+30∧Fr g w w':=by
 have H:=ax h;have hlt:=h.lt;clear h;(go_enter Tryz.func176,Tryz.ntmps176);have kr:Blk ((w.alloc (.cells #[.slice none 0 0,.slice none 0 0] 37)).alloc (.cells #[.slice none 0 0,.slice none 0 0] 37)) w.heap.size 37 #[.slice none 0 0,.slice none 0 0]:=blks;have ka:Blk ((w.alloc (.cells #[.slice none 0 0,.slice none 0 0] 37)).alloc (.cells #[.slice none 0 0,.slice none 0 0] 37)) (w.heap.size+1) 37 #[.slice none 0 0,.slice none 0 0]:=blks;have HF0:aJ (Fr g w ((w.alloc (.cells #[.slice none 0 0,.slice none 0 0] 37)).alloc (.cells #[.slice none 0 0,.slice none 0 0] 37))):=((Fr.refl g w).alloc _).alloc _;have hltn:g≠w.heap.size+1:=by omega
 (go_wp2_with fail);refine (c_numL g p [1,2,5] _ _ _ _ (H.o.bz bel) (by omega) blks (by rfl) (by first|omega|(simp;omega)) (by rfl) (by decide) (by decide)).mono ?_;rintro e w1 ⟨t0,ht0,rfl,hR,hF⟩;replace kr:=(kr.alloc _).fr hF (by omega);replace ka:=(ka.alloc _).fr hF (by omega);have HF1:aJ (Fr g w w1):=(HF0.o.alloc _).trans hF;have HR1:=ax hR;have HT0:=ax ((by decide:∀ m∈[(1:Int),2,5],jq m=true) t0 ht0);have l1:=kr.lt;clear hR hF HF0 H ht0;(go_wp2_with fail);refine (c_numL g (p+1) [2,3,1,4] _ _ _ _ (HR1.o.bz bel) (by omega) blks (by rfl) (by first|omega|(simp;omega)) (by rfl) (by decide) (by decide)).mono ?_;rintro e w2 ⟨m,hm,rfl,hR,hF⟩;replace kr:=(kr.alloc _).fr hF (by omega);replace ka:=(ka.alloc _).fr hF (by omega);have HF2:aJ (Fr g w w2):=(HF1.o.alloc _).trans hF;have HR2:=ax hR;obtain ⟨k0,rfl⟩:=Int.eq_ofNat_of_zero_le ((by decide:∀ m∈[(2:Int),3,1,4],0≤m) m hm);have hk4:k0≤4:=by have:=(by decide:∀ m∈[(2:Int),3,1,4],m≤4) _ hm;omega
 clear hR hF HF1 HR1 hm l1;(go_wp2_with fail)
 go_loopw [4,5] (fun s i wr=>∃ (k:Nat) (t:Int) (xs:List Atm) (B:Option Addr) (d q:Nat),i=.int .i64 k∧s=.int .i64 t∧aJ (jq t=true)∧k+xs.length≤4∧AtomsO wr w.heap.size (.slice B xs.length d) xs∧aJ (∀ x∈xs,x.valid=true)∧Blk wr w.heap.size 37 #[.slice none 0 0,.slice none 0 0]∧Blk wr (w.heap.size+1) 37 #[.slice none 0 0,.slice B xs.length d]∧Rdr wr g q∧q+2 * k≤p+10∧aJ (Fr g w wr)) (fun _ i _=>(intOf i).toNat)
 case atStart=>exact ⟨k0,t0,[],none,0,p+1+1,rfl,rfl,HT0.o,by simpa using hk4,AtomsO.nil _ _,(fun f hf=>by cases hf),kr,ka,HR2.o,by omega,HF2⟩
 case round=>
  clear kr ka HF2 HR2 hk4;obtain ⟨k,t,xs,B,d,q,rfl,rfl,HT,hkx,hO,HV,kr,ka,hR,hq,HF⟩:=hrel;have HO:=ax hO;have HRR:=ax hR;have hsz:=HF.o.size;have la:=ka.lt;clear hO hR;by_cases hk:0<k
  ·have hki:(0:Int)<(k:Int):=by omega
   (go_wp2_with fail);refine (c_numL g q [2,5,0,3,6,1] _ _ _ _ (HRR.o.bz bel) (by omega) blks (by rfl) (by first|omega|(simp;omega)) (by rfl) (by decide) (by decide)).mono ?_;rintro e w3 ⟨y,hy,rfl,hR,hF⟩;replace kr:=(kr.alloc (.cells #[.int .i64 2,.int .i64 5,.int .i64 0,.int .i64 3,.int .i64 6,.int .i64 1] tI)).fr hF (by omega);replace ka:=(ka.alloc (.cells #[.int .i64 2,.int .i64 5,.int .i64 0,.int .i64 3,.int .i64 6,.int .i64 1] tI)).fr hF (by omega);have HF3:aJ (Fr g w w3):=(HF.o.alloc _).trans hF;have HR3:=ax hR;have HO3:=ax ((HO.o.bz (bbox (Below.refl _ _) (.cells #[.int .i64 2,.int .i64 5,.int .i64 0,.int .i64 3,.int .i64 6,.int .i64 1] tI))).fr hF hlt);have HY:=ax ((by decide:∀ m∈[(2:Int),5,0,3,6,1],jq m=true) y hy);have l3:=ka.lt;clear hR hF HF HRR HO hy la;obtain ⟨X,hX⟩:∃ X,X=w3.heap.size:=⟨_,rfl⟩;have kx:Blk (w3.alloc (.cells #[.int .i64 1,.int .i64 t,.int .i64 y] tA)) X tA #[.int .i64 1,.int .i64 t,.int .i64 y]:=by rw[hX];exact Blk.new _ _ _
   have HU:=ax (show Und (.slice B xs.length d) X by rw[hX];exact HO3.o.und);have lX:w.heap.size+2≤X:=by omega
   (go_wp2_with fail);refine (c_pick g (q+1) 2 _ (HR3.o.bz bel) (by omega)).mono ?_;rintro e w4 ⟨mm,rfl,-,hR,hF⟩;rw[←hX];replace kr:=(kr.alloc (.cells #[.int .i64 1,.int .i64 t,.int .i64 y] tA)).fr hF (by omega);replace ka:=(ka.alloc (.cells #[.int .i64 1,.int .i64 t,.int .i64 y] tA)).fr hF (by omega);replace kx:=kx.fr hF (by omega);have HF4:aJ (Fr g w w4):=(HF3.o.alloc _).trans hF;have HR4:=ax hR;have HO4:=ax ((HO3.o.bz (bbox (Below.refl _ _) (.cells #[.int .i64 1,.int .i64 t,.int .i64 y] tA))).fr hF hlt);have lx:=kx.lt;have hne:w.heap.size+1≠X:=by omega
   clear hR hF HF3 HR3 HO3 hX l3;(replace qkr:=kr.cell;replace rkr:=kr.frozen;replace lkr:=kr.lt;replace qka:=ka.z;replace qkx:=kx.z);by_cases hm:(mm:Int)=0
   ·have hm':((mm:Int) == 0)=true:=by simpa using hm
    clear hm;have HO5:=ax (HO4.o.set_other HU.o (q:=⟨X,0,none⟩) (Nat.le_refl _) (.int .i64 2));have ka5:=ka.far (p:=⟨X,0,none⟩) (by simp only;omega) (.int .i64 2);have kr5:=kr.far (p:=⟨X,0,none⟩) (by simp only;omega) (.int .i64 2);have kx5:Blk (w4.setCell ⟨X,0,none⟩ (.int .i64 2)) X tA #[.int .i64 2,.int .i64 t,.int .i64 y]:=by simpa using kx.set_ 0 (.int .i64 2)
    have HF5:aJ (Fr g w (w4.setCell ⟨X,0,none⟩ (.int .i64 2))):=HF4.o.set_ (Or.inr (by simp only;omega)) _;have HR5:aJ (Rdr (w4.setCell ⟨X,0,none⟩ (.int .i64 2)) g (q+1+1)):=HR4.o.set_ (by simp only;omega) _;(go_wp2_with (at_builtin;refine appAL (ys:=[⟨2,t,y⟩]) (base:=w.heap.size) rfl _ _ rfl rfl (HO5.o.bz bel) rfl (AtomsV.oneB (Blk.newE (by simp))) (by simp;omega) (by simp;omega) ?_;intro A6 d6 w6 o6 hg6 hB6;rw[List.length_append,List.length_singleton] at o6 ⊢;have ka6:=Blk.zm (g:=w.heap.size+1) (hg:=hg6) (ka5.alloc _) (HO5.o.bz (bbox (Below.refl _ _) _)).1 (by decide);have kr6:=Blk.zm (g:=w.heap.size) (hg:=hg6) (kr5.alloc _) (HO5.o.bz (bbox (Below.refl _ _) _)).1 (by decide);have kx6:=Blk.grown (kx5.alloc _) hg6 (fun e=>by have:=HU.o X e.symm;omega);(replace qka6:=ka6.z;replace qkr6:=kr6.z;replace qkx6:=kx6.z);clear hg6));have hF6:Fr g w w6:=(HF5.o.alloc _).goB hB6 (Nat.le_refl _);have hR6:Rdr w6 g (q+1+1):=(HR5.o.bz (bbox (Below.refl _ _) _)).belowB hB6 hlt
    go_round
    case rel=>exact ⟨k - 1,y,xs++[⟨2,t,y⟩],A6,d6,q+1+1,by go_num,rfl,HY.o,by simp;omega,by simpa using o6.setT ka6 (by decide) 1 (.slice A6 (xs.length+1) d6),(fun f hf=>by
     rcases List.mem_append.1 hf with hf|hf
     ·exact HV.o f hf
     ·rw[List.mem_singleton.1 hf];simp[Atm.valid,HT.o,HY.o]),kr6.far (by simp) _,by simpa using ka6.set_ 1 (.slice A6 (xs.length+1) d6),hR6.set_ (by simp only;omega) _,by omega,hF6.set_ (Or.inr (by simp only;omega)) _⟩
    case measure=>simp[intOf];omega
   ·have hm':((mm:Int) == 0)=false:=by simpa using hm
    clear hm;(go_wp2_with (at_builtin;refine appAL (ys:=[⟨1,t,y⟩]) (base:=w.heap.size) rfl _ _ rfl rfl (HO4.o.bz bel) rfl (AtomsV.oneB (Blk.newE rfl)) (by simp;omega) (by simp;omega) ?_;intro A6 d6 w6 o6 hg6 hB6;rw[List.length_append,List.length_singleton] at o6 ⊢;have ka6:=Blk.zm (g:=w.heap.size+1) (hg:=hg6) (ka.alloc _) (HO4.o.bz (bbox (Below.refl _ _) _)).1 (by decide);have kr6:=Blk.zm (g:=w.heap.size) (hg:=hg6) (kr.alloc _) (HO4.o.bz (bbox (Below.refl _ _) _)).1 (by decide);have kx6:=Blk.grown (kx.alloc _) hg6 (fun e=>by have:=HU.o X e.symm;omega);(replace qka6:=ka6.z;replace qkr6:=kr6.z;replace qkx6:=kx6.z);clear hg6));have hF6:Fr g w w6:=(HF4.o.alloc _).goB hB6 (Nat.le_refl _);have hR6:Rdr w6 g (q+1+1):=(HR4.o.bz (bbox (Below.refl _ _) _)).belowB hB6 hlt
    go_round
    case rel=>exact ⟨k - 1,y,xs++[⟨1,t,y⟩],A6,d6,q+1+1,by go_num,rfl,HY.o,by simp;omega,by simpa using o6.setT ka6 (by decide) 1 (.slice A6 (xs.length+1) d6),(fun f hf=>by
     rcases List.mem_append.1 hf with hf|hf
     ·exact HV.o f hf
     ·rw[List.mem_singleton.1 hf];simp[Atm.valid,HT.o,HY.o]),kr6.far (by simp) _,by simpa using ka6.set_ 1 (.slice A6 (xs.length+1) d6),hR6.set_ (by simp only;omega) _,by omega,hF6.set_ (Or.inr (by simp only;omega)) _⟩
    case measure=>simp[intOf];omega
  ·obtain rfl:k=0:=by omega
   (replace qka:=ka.z;replace qkr:=kr.cell;replace rkr:=kr.frozen;replace lkr:=kr.lt);have HX4:aJ (xs.length≤4):=by show _≤_;omega
   (go_wp2_with fail);refine (c_pick g q 3 _ HRR.o (by omega)).mono ?_;rintro e w5 ⟨mm,rfl,-,hR,hF⟩;replace kr:=kr.fr hF (by omega);replace ka:=ka.fr hF (by omega);have HF5:=ax (HF.o.trans hF);have HR5:=ax hR;have HO5:=ax (HO.o.fr hF hlt);have lr:=kr.lt;clear hR hF HF HRR HO qka qkr rkr lkr;(replace qka:=ka.z;replace qkr:=kr.cell;replace rkr:=kr.frozen;replace lkr:=kr.lt);have hne:w.heap.size≠w.heap.size+1:=by omega
   by_cases hm:(mm:Int)=0
   ·have hm':((mm:Int) == 0)=true:=by simpa using hm
    clear hm;(go_wp2_with fail);refine wp_region_noPanic ?_;refine wp_region_last' (S:=(fun w'=>∀ i,w'.cell? ⟨w.heap.size+1,i,none⟩=#[.slice none 0 0,.slice B xs.length d][i]?)) (by simp) (by kernel_rfl) (by kernel_rfl) (Blk.cell blks) (fun aH=>?_);simp only[List.dropLast,List.getLast,nopOf,List.cons_append,List.nil_append,List.length_cons,List.length_nil,Nat.zero_add,Nat.reduceAdd];refine tk2 0 rfl aH (h:=tk2 1 rfl aH (h:=tk2 2 rfl aH (h:=?_)));(try simp only[zz]);refine tk2 5 rfl aH (h:=?_);(try simp only[zz])
    refine wpAnyH_par [3,4,6,7] #[true,true,true,true,true,true,true,true,false,false,false,false,false] 4 (by kernel_rfl) aH
     (fun a0 D a w'=>Fr g w5 w'∧(∃ q',Rdr w' g q'∧q'≤(q+1)+(dn D 4).toNat+(dn D 7).toNat)∧∃ v41 v42 v44 v45,a=((((a0.put (some 41) v41).put (some 42) v42).put (some 44) v44).put (some 45) v45)∧
      (dn D 3=true→∃ x,v41=.slice (some ⟨x,0,none⟩) 3 3∧g<x∧Blk w' x tI #[.int .i64 1,.int .i64 2,.int .i64 5])∧
      (dn D 4=true→∃ m,m∈[(1:Int),2,5]∧v42=.int .i64 m)∧
      (dn D 6=true→∃ x,v44=.slice (some ⟨x,0,none⟩) 4 4∧g<x∧Blk w' x tI #[.int .i64 0,.int .i64 2,.int .i64 3,.int .i64 5])∧
      (dn D 7=true→∃ m,m∈[(0:Int),2,3,5]∧v45=.int .i64 m)) ?start ?steps ?fin
    case start=>
     refine ⟨(Fr.refl g w5).drew,⟨(q+1),HR5.o.bz bel,by omega⟩,undef,undef,undef,undef,rfl,?_,?_,?_,?_⟩
     all_goals exact fun h=>absurd h (by decide)
    case steps=>
     refine ParSteps.cons rfl (fun D a w' hu hd hI hS K' hK G hG=>?_) (ParSteps.cons rfl (fun D a w' hu hd hI hS K' hK G hG=>?_) (ParSteps.cons rfl (fun D a w' hu hd hI hS K' hK G hG=>?_) (ParSteps.cons rfl (fun D a w' hu hd hI hS K' hK G hG=>?_) (ParSteps.nil))))
     ·obtain ⟨hF,⟨q',hR,hq'⟩,v41,v42,v44,v45,ha,h3,h4,h6,h7⟩:=hI;rw[ha] at hG;clear ha a;replace hq':=ax hq';replace hR:=ax hR;replace hF:=ax hF;replace hS:=ax hS;replace h3:=ax h3;replace h4:=ax h4;replace h6:=ax h6;replace h7:=ax h7;refine hG ?_;clear hG;(try simp only[zz]);go_simp;have hF3:=hF.o.alloc (.cells #[.int .i64 1,.int .i64 2,.int .i64 5] tI);exact hK.out _ _ (fun i=>(ka.fr hF3 (by omega)).cell i) ⟨hF3,⟨q',hR.o.bz bel,(by rw[dn_ne (show 3≠4 by decide),dn_ne (show 3≠7 by decide)];exact hq'.o)⟩,(.slice (some ⟨w'.heap.size,0,none⟩) 3 3),v42,v44,v45,rfl,fun _=>⟨w'.heap.size,rfl,hR.o.lt,Blk.new _ _ _⟩,dn_keep (by decide) h4.o id,dn_keep (by decide) h6.o (fun ⟨x,e,hx,hb⟩=>⟨x,e,hx,hb.alloc _⟩),dn_keep (by decide) h7.o id⟩
     ·obtain ⟨hF,⟨q',hR,hq'⟩,v41,v42,v44,v45,ha,h3,h4,h6,h7⟩:=hI;rw[ha] at hG;clear ha a;replace hq':=ax hq';replace hR:=ax hR;replace hF:=ax hF;replace hS:=ax hS;replace h3:=ax h3;replace h4:=ax h4;replace h6:=ax h6;replace h7:=ax h7;have d3:dn D 3=true:=hd ⟨3,.data⟩ (by simp) (by decide);obtain ⟨x,rfl,hx,hb⟩:=h3.o d3;clear h3 hd;refine hG ?_;clear hG;(try simp only[zz]);go_simp;refine (c_numL g q' [(1:Int),2,5] x 3 _ _ hR.o (by have:=hq'.o;have:=Bool.toNat_le (dn D 4);have:=Bool.toNat_le (dn D 7);omega) hb (by rfl) hx (by rfl) (by decide) (by decide)).mono ?_;rintro e w2 ⟨m,hm,rfl,hR2,hF2⟩;have hF3:=hF.o.trans hF2;exact hK.out _ _ (fun i=>(ka.fr hF3 (by omega)).cell i) ⟨hF3,⟨q'+1,hR2,(by have z:=hq'.o;rw[dn_un hu] at z;rw[dn_self hu,dn_ne (show 4≠7 by decide)];simp only[Bool.toNat_true,Bool.toNat_false] at z ⊢;omega)⟩,(.slice (some ⟨x,0,none⟩) 3 3),(.int .i64 m),v44,v45,rfl,fun _=>⟨x,rfl,hx,hb.fr hF2 (by omega)⟩,fun _=>⟨m,hm,rfl⟩,dn_keep (by decide) h6.o (fun ⟨x,e,hx,hb⟩=>⟨x,e,hx,hb.fr hF2 (by omega)⟩),dn_keep (by decide) h7.o id⟩
     ·obtain ⟨hF,⟨q',hR,hq'⟩,v41,v42,v44,v45,ha,h3,h4,h6,h7⟩:=hI;rw[ha] at hG;clear ha a;replace hq':=ax hq';replace hR:=ax hR;replace hF:=ax hF;replace hS:=ax hS;replace h3:=ax h3;replace h4:=ax h4;replace h6:=ax h6;replace h7:=ax h7;refine hG ?_;clear hG;(try simp only[zz]);go_simp;have hF3:=hF.o.alloc (.cells #[.int .i64 0,.int .i64 2,.int .i64 3,.int .i64 5] tI);exact hK.out _ _ (fun i=>(ka.fr hF3 (by omega)).cell i) ⟨hF3,⟨q',hR.o.bz bel,(by rw[dn_ne (show 6≠4 by decide),dn_ne (show 6≠7 by decide)];exact hq'.o)⟩,v41,v42,(.slice (some ⟨w'.heap.size,0,none⟩) 4 4),v45,rfl,dn_keep (by decide) h3.o (fun ⟨x,e,hx,hb⟩=>⟨x,e,hx,hb.alloc _⟩),dn_keep (by decide) h4.o id,fun _=>⟨w'.heap.size,rfl,hR.o.lt,Blk.new _ _ _⟩,dn_keep (by decide) h7.o id⟩
     ·obtain ⟨hF,⟨q',hR,hq'⟩,v41,v42,v44,v45,ha,h3,h4,h6,h7⟩:=hI;rw[ha] at hG;clear ha a;replace hq':=ax hq';replace hR:=ax hR;replace hF:=ax hF;replace hS:=ax hS;replace h3:=ax h3;replace h4:=ax h4;replace h6:=ax h6;replace h7:=ax h7;have d6:dn D 6=true:=hd ⟨6,.data⟩ (by simp) (by decide);obtain ⟨x,rfl,hx,hb⟩:=h6.o d6;clear h6 hd;refine hG ?_;clear hG;(try simp only[zz]);go_simp;refine (c_numL g q' [(0:Int),2,3,5] x 4 _ _ hR.o (by have:=hq'.o;have:=Bool.toNat_le (dn D 4);have:=Bool.toNat_le (dn D 7);omega) hb (by rfl) hx (by rfl) (by decide) (by decide)).mono ?_;rintro e w2 ⟨m,hm,rfl,hR2,hF2⟩;have hF3:=hF.o.trans hF2;exact hK.out _ _ (fun i=>(ka.fr hF3 (by omega)).cell i) ⟨hF3,⟨q'+1,hR2,(by have z:=hq'.o;rw[dn_un hu] at z;rw[dn_self hu,dn_ne (show 7≠4 by decide)];simp only[Bool.toNat_true,Bool.toNat_false] at z ⊢;omega)⟩,v41,v42,(.slice (some ⟨x,0,none⟩) 4 4),(.int .i64 m),rfl,dn_keep (by decide) h3.o (fun ⟨x,e,hx,hb⟩=>⟨x,e,hx,hb.fr hF2 (by omega)⟩),dn_keep (by decide) h4.o id,fun _=>⟨x,rfl,hx,hb.fr hF2 (by omega)⟩,fun _=>⟨m,hm,rfl⟩⟩
    case fin=>
     rintro a w4 aH ⟨hF,⟨q',hR,hq'⟩,v41,v42,v44,v45,rfl,h3,h4,h6,h7⟩;obtain ⟨m4,hm4,rfl⟩:=h4 (by decide);obtain ⟨m7,hm7,rfl⟩:=h7 (by decide);replace hq':q'≤(q+1)+2:=hq';clear h3 h6;(try simp only[zz]);have ka6:=ka.fr hF (by omega);have kr6:=kr.fr hF (by omega);have HA6:=ax (HO5.o.fr hF hlt);have HF6:=ax (HF5.o.trans hF);have HR6:=ax hR;have hM4:=ax ((by decide:∀ m∈[(1:Int),2,5],jq m=true) m4 hm4);have hM7:=ax ((by decide:∀ m∈[(0:Int),2,3,5],jq m=true) m7 hm7);have hsz6:=HF6.o.size;clear hF hR hm4 hm7 ka kr qka qkr rkr lkr HF5 HR5 HO5;refine tk2 8 rfl aH (h:=?_);refine rdc 9 rfl fun K hK=>?_;(try simp only[zz]);go_simp;refine hK.out _ _ (Blk.cell blks) ?_;clear aH hK K;intro aH;(try simp only[zz]);refine rdc 10 rfl fun K hK=>?_;skip;(refine stepFL (xs:=[]) (ys:=[⟨false,m4,m7⟩]) (base:=w.heap.size) rfl _ _ rfl rfl (FactsO.nil _ _) rfl (FactsV.oneB (Blk.newE rfl)) (by simp) (by first|omega|(simp;omega)) ?_;intro A' c' w7 o7 hg7 hB7;have ka7:=Blk.zm (g:=w.heap.size+1) (hg:=hg7) blks (FactsO.nil _ w.heap.size).1 (by decide);have kr7:=Blk.zm (g:=w.heap.size) (hg:=hg7) blks (FactsO.nil _ w.heap.size).1 (by decide);have oa7:=AtomsO.grownF (HA6.o.bz (bbox (Below.refl _ _) _)) (FactsO.nil _ w.heap.size) hg7;rw[List.length_append,List.length_singleton] at o7 ⊢;clear hg7);refine hK.out _ _ (Blk.cell blks) ?_;clear aH hK K;intro aH;(try simp only[zz]);refine tk2 11 rfl aH (h:=?_);(try simp only[zz]);(replace qka7:=ka7.z;replace qkr7:=kr7.cell;replace rkr7:=kr7.frozen;replace lkr7:=kr7.lt);refine rdc 12 rfl fun K hK=>?_;go_simp;refine hK.out _ _ (Blk.cell blks) (fun aH=>?_);clear hK K;refine wpAnyH_done (by kernel_rfl) ?_ _;unfold lastQ;go_simp;refine NoPanic.normal ?_;have hF7:Fr g w w7:=(HF6.o.alloc _).goB hB7 (Nat.le_refl _);have hR7:Rdr w7 g q':=(HR6.o.bz (bbox (Below.refl _ _) _)).belowB hB7 hlt;have HH:=ax (And.intro hF7 (And.intro hR7 (And.intro o7 oa7)));have krx:=kr7.far (p:=⟨w.heap.size+1,0,none⟩) (by simp only;omega) (.slice A' 1 c')
     have HVAL:aJ ((⟨[⟨false,m4,m7⟩],xs⟩:Asn).valid=true):=by
      have:=HX4.o;show _=_;simp only[Asn.valid,factsValid,Bool.and_eq_true,decide_eq_true_eq,List.all_eq_true];refine ⟨⟨by simp,fun f hf=>?_⟩,by omega,HV.o⟩;rw[List.mem_singleton.1 hf];simp[Fct.valid,hM4.o,hM7.o]
     clear hF7 hR7 o7 oa7 hB7;(go_wp2_with fail);refine bodyPost_ret (v:=.agg #[.slice A' 1 c',.slice B xs.length d]) (by simp[results,Tryz.results176,go_sem,qkr7]) rfl ⟨_,⟨[⟨false,m4,m7⟩],xs⟩,q',rfl,⟨_,_,rfl,?_,?_⟩,HVAL.o,by simp,HX4.o,?_,by omega,?_⟩
     ·exact ((HH.o.2.2.1.setT ka7 (by decide) 0 _).setT krx (by decide) 0 _).setT (krx.set_ 0 _) (by decide) 1 _
     ·exact ((HH.o.2.2.2.setT ka7 (by decide) 0 _).setT krx (by decide) 0 _).setT (krx.set_ 0 _) (by decide) 1 _
     ·exact ((HH.o.2.1.set_ (by simp only;omega) _).set_ (by simp only;omega) _).set_ (by simp only;omega) _
     ·exact ((HH.o.1.set_ (Or.inr (by simp only;omega)) _).set_ (Or.inr (by simp only;omega)) _).set_ (Or.inr (by simp only;omega)) _
   ·have hm':((mm:Int) == 0)=false:=by simpa using hm
    clear hm
    have HVAL:aJ ((⟨[],xs⟩:Asn).valid=true):=by
     have:=HX4.o;show _=_;simp only[Asn.valid,factsValid,Bool.and_eq_true,decide_eq_true_eq,List.all_eq_true];exact ⟨⟨by simp,fun f hf=>by cases hf⟩,by omega,HV.o⟩
    (go_wp2_with fail);refine bodyPost_ret (v:=.agg #[.slice none 0 0,.slice B xs.length d]) (by simp[results,Tryz.results176,go_sem,qkr]) rfl ⟨_,⟨[],xs⟩,q+1,rfl,⟨_,_,rfl,FactsO.nil _ _,?_⟩,HVAL.o,by simp,HX4.o,?_,by omega,?_⟩
    ·exact (HO5.o.setT kr (by decide) 0 _).setT (kr.set_ 0 _) (by decide) 1 _
    ·exact (HR5.o.set_ (by simp only;omega) _).set_ (by simp only;omega) _
    ·exact (HF5.o.set_ (Or.inr (by simp only;omega)) _).set_ (Or.inr (by simp only;omega)) _
end
section
open Go Go.RowKit Go.Proofs Go.ChangeShapes Go.WideShapes Go.ChangeAt
theorem okWide_le {P:Program} {w:World} {r:Reach} {base:Nat} {t e:TypeId} {a:Option Addr} {len cap:Nat} (ht:P.underlying t=some (.slice e)) (h:Value.okWide P w r base t (.slice a len cap)):len≤cap:=by
 simp only[Value.okWide,ht,Cell.okWide] at h
 cases a with
 | none=>cases len<;>simp_all [Cell.ok]
 | some a=>simp_all [Cell.ok]
theorem cells_u8:Tryz.prog.cellsOf 5=1:=by kernel_rfl
theorem open_bytes {H:Type} {enc:TypeId×Value→H} {w:World} {v:Value} {d:DataW H} {p:List MemPlace} (hv:Value.okWide Tryz.prog w .any 0 54 v) (h:DataW.Trod enc Tryz.prog w 0 (fun _=>true) true 54 v d p):∃ A:Option Addr×Nat×Nat,v=.slice A.1 A.2.1 A.2.2∧BytesR w A.1 A.2.1 A.2.2:=by
 obtain ⟨a,n,c,rfl⟩:=okWide_slice Tryz.underlying54 hv;have hle:=okWide_le Tryz.underlying54 hv;obtain ⟨fuel,hf⟩:=h
 obtain ⟨A,c',xs,e,hl,hr⟩:=tr_slice (fun b:Fin 256=>[Value.int .u8 (b.val:Int)]) 1 (fun _=>rfl) (by omega) cells_u8 Tryz.underlying54 (fun n cs x h=>by
  obtain ⟨m,e,_,hw⟩:=DataW.trod_int Tryz.underlying5 h;simp[Lit.wf,IntKind.min,IntKind.max,IntKind.signed,IntKind.bits] at hw
  exact ⟨⟨m.toNat,by omega⟩,by rw[e];simp;omega⟩) hf
 have e':[Value.slice a n c]=[.slice A xs.length c']:=by simpa[Value.cells] using e
 injection e' with e';injection e' with e1 e2 e3;subst e1 e2 e3;refine ⟨(a,xs.length,c),rfl,xs.map Fin.val,by simp,?_,fun b hb=>?_,hle,hl⟩
 ·have:xs.flatMap (fun b:Fin 256=>[Value.int .u8 (b.val:Int)])=encU (xs.map Fin.val):=by
   clear hr hl e hle hv hf;unfold encU
   induction xs with
   | nil=>rfl
   | cons x xs ih=>rw[List.flatMap_cons,ih];rfl
  rwa [this] at hr
 ·obtain ⟨x,_,rfl⟩:=List.mem_map.1 hb;exact x.isLt
end
end Go.Proofs.YtjaohekkmlkinaaGreat
