/- What the reader draws: assertions. -/
import Derived.Test.YtjaohekkmlkinaaGreatMaStar
import Derived.Deep.LoopGhost
set_option linter.unusedSimpArgs false
set_option linter.unusedVariables false
set_option maxRecDepth 100000
set_option maxHeartbeats 25600000
namespace Go.Proofs.YtjaohekkmlkinaaGreat
section
open Go Go.RowKit Go.Proofs
theorem IntsV.lit {w:World} {x:Nat} {cs:Array Value} {xs:List Int} (hk:Blk w x tI cs) (hcs:cs=(encI xs).toArray) (hl:xs.length≤100):IntsV w x (x+1) (some ⟨x,0,none⟩) xs:=
 ⟨⟨by simp[encI],fun _=>⟨x,0,rfl,Nat.le_refl _,Nat.lt_succ_self _,fun j u hu=>by rw[Nat.zero_add,hk.cell,hcs];simpa using hu⟩⟩,by unfold Lim;omega⟩
theorem FactsV.oneB {w:World} {g:Nat} {e:Bool} {x y:Int} (h:Blk w g tF #[.bool e,.int .i64 x,.int .i64 y]):FactsV w g (g+1) (some ⟨g,0,none⟩) [⟨e,x,y⟩]:=FactsV.one (f:=⟨e,x,y⟩) h
theorem AtomsV.oneB {w:World} {g:Nat} {e:Int} {x y:Int} (h:Blk w g tA #[.int .i64 e,.int .i64 x,.int .i64 y]):AtomsV w g (g+1) (some ⟨g,0,none⟩) [⟨e,x,y⟩]:=AtomsV.one (f:=⟨e,x,y⟩) h
theorem c_l3Draw (g p:Nat) (w:World) (h:Rdr w g p) (hp:p≤999900) :
  Calls Tryz.prog 228 #[.pointer (some ⟨g,0,none⟩)] w fun e w'=>∃ r a q,e=.returned r∧AsnO w' w.heap.size r a∧a.valid=true∧a.facts.length≤2∧a.atoms.length≤4∧Rdr w' g q∧q≤p+30∧Fr g w w':=by
 have H:=ax h;have hlt:=h.lt;clear h;(go_enter Tryz.func228,Tryz.ntmps228);have kr:Blk ((w.alloc (.cells #[.slice none 0 0,.slice none 0 0] 37)).alloc (.cells #[.slice none 0 0,.slice none 0 0] 37)) w.heap.size 37 #[.slice none 0 0,.slice none 0 0]:=blks;have ka:Blk ((w.alloc (.cells #[.slice none 0 0,.slice none 0 0] 37)).alloc (.cells #[.slice none 0 0,.slice none 0 0] 37)) (w.heap.size+1) 37 #[.slice none 0 0,.slice none 0 0]:=blks;have HF0:aJ (Fr g w ((w.alloc (.cells #[.slice none 0 0,.slice none 0 0] 37)).alloc (.cells #[.slice none 0 0,.slice none 0 0] 37))):=((Fr.refl g w).alloc _).alloc _;(go_wp2_with fail);refine (c_numL g p [1,0,2,0] _ _ _ _ (H.o.bz bel) (by omega) blks (by rfl) (by first|omega|(simp;omega)) (by rfl) (by decide) (by decide)).mono ?_;rintro e w1 ⟨m,hm,rfl,hR,hF⟩;replace kr:=(kr.alloc _).fr hF (by omega);replace ka:=(ka.alloc _).fr hF (by omega);have HF1:aJ (Fr g w w1):=(HF0.o.alloc _).trans hF;obtain ⟨k0,rfl⟩:=Int.eq_ofNat_of_zero_le ((by decide:∀ m∈[(1:Int),0,2,0],0≤m) m hm);have hk2:k0≤2:=by have:=(by decide:∀ m∈[(1:Int),0,2,0],m≤2) _ hm;omega
 have HR1:=ax hR;clear hm hR hF HF0 H;(go_wp2_with fail)
 go_loopw [4] (fun i wr=>∃ (k:Nat) (fs:List Fct) (A:Option Addr) (c q:Nat),i=.int .i64 k∧k+fs.length≤2∧FactsO wr w.heap.size (.slice A fs.length c) fs∧aJ (∀ f∈fs,f.valid=true)∧Blk wr w.heap.size 37 #[.slice none 0 0,.slice none 0 0]∧Blk wr (w.heap.size+1) 37 #[.slice A fs.length c,.slice none 0 0]∧Rdr wr g q∧q+3 * k≤p+7∧aJ (Fr g w wr)) (fun i _=>(intOf i).toNat)
 case atStart=>exact ⟨k0,[],none,0,p+1,rfl,by simpa using hk2,FactsO.nil _ _,(fun f hf=>by cases hf),kr,ka,HR1.o,by omega,HF1⟩
 case round=>
  clear kr ka HF1 HR1 hk2;obtain ⟨k,fs,A,c,q,rfl,hkx,hO,HV,kr,ka,hR,hq,HF⟩:=hrel;have HO:=ax hO;have HRR:=ax hR;have hsz:=HF.o.size;have lr:=kr.lt;have la:=ka.lt;clear hO hR;by_cases hk:0<k
  ·have hki:(0:Int)<(k:Int):=by omega
   (go_wp2_with fail);refine wp_region_noPanic ?_;refine wp_region_last' (S:=(fun w'=>∀ i,w'.cell? ⟨w.heap.size+1,i,none⟩=#[.slice A fs.length c,.slice none 0 0][i]?)) (by simp) (by kernel_rfl) (by kernel_rfl) (Blk.cell blks) (fun aH=>?_);simp only[List.dropLast,List.getLast,nopOf,List.cons_append,List.nil_append,List.length_cons,List.length_nil,Nat.zero_add,Nat.reduceAdd];refine tk2 0 rfl aH (h:=tk2 1 rfl aH (h:=tk2 2 rfl aH (h:=?_)));(try simp only[zz]);refine tk2 5 rfl aH (h:=tk2 8 rfl aH (h:=?_));(try simp only[zz])
   refine wpAnyH_par [3,4,6,7,9,10] #[true,true,true,true,true,true,true,true,true,true,true,false,false,false,false,false] 6 (by kernel_rfl) aH
    (fun a0 D a w'=>Fr g wr w'∧(∃ q',Rdr w' g q'∧q'≤q+(dn D 3).toNat+(dn D 7).toNat+(dn D 10).toNat)∧∃ v17 v18 v20 v21 v23 v24,a=((((((a0.put (some 17) v17).put (some 18) v18).put (some 20) v20).put (some 21) v21).put (some 23) v23).put (some 24) v24)∧
     (dn D 3=true→∃ m:Nat,v17=.int .i64 (m:Int))∧
     (dn D 4=true→∃ b,v18=.bool b)∧
     (dn D 6=true→∃ x,v20=.slice (some ⟨x,0,none⟩) 4 4∧g<x∧Blk w' x tI #[.int .i64 1,.int .i64 2,.int .i64 3,.int .i64 5])∧
     (dn D 7=true→∃ m,m∈[(1:Int),2,3,5]∧v21=.int .i64 m)∧
     (dn D 9=true→∃ x,v23=.slice (some ⟨x,0,none⟩) 5 5∧g<x∧Blk w' x tI #[.int .i64 0,.int .i64 2,.int .i64 3,.int .i64 1,.int .i64 6])∧
     (dn D 10=true→∃ m,m∈[(0:Int),2,3,1,6]∧v24=.int .i64 m)) ?start ?steps ?fin
   case start=>
    refine ⟨(Fr.refl g wr).drew,⟨q,HRR.o.bz bel,by omega⟩,u17,u18,u20,u21,u23,u24,rfl,?_,?_,?_,?_,?_,?_⟩
    all_goals exact fun h=>absurd h (by decide)
   case steps=>
    refine ParSteps.cons rfl (fun D a w' hu hd hI hS K' hK G hG=>?_) (ParSteps.cons rfl (fun D a w' hu hd hI hS K' hK G hG=>?_) (ParSteps.cons rfl (fun D a w' hu hd hI hS K' hK G hG=>?_) (ParSteps.cons rfl (fun D a w' hu hd hI hS K' hK G hG=>?_) (ParSteps.cons rfl (fun D a w' hu hd hI hS K' hK G hG=>?_) (ParSteps.cons rfl (fun D a w' hu hd hI hS K' hK G hG=>?_) (ParSteps.nil))))))
    ·obtain ⟨hF,⟨q',hR,hq'⟩,v17,v18,v20,v21,v23,v24,ha,h3,h4,h6,h7,h9,h10⟩:=hI;rw[ha] at hG;clear ha a;replace hq':=ax hq';replace hR:=ax hR;replace hF:=ax hF;replace hS:=ax hS;replace h3:=ax h3;replace h4:=ax h4;replace h6:=ax h6;replace h7:=ax h7;replace h9:=ax h9;replace h10:=ax h10;refine hG ?_;clear hG;(try simp only[zz]);go_simp;refine (c_pick g q' 3 _ hR.o (by have:=hq'.o;have:=Bool.toNat_le (dn D 3);have:=Bool.toNat_le (dn D 7);have:=Bool.toNat_le (dn D 10);omega)).mono ?_;rintro e w2 ⟨m,rfl,-,hR2,hF2⟩;have hF3:=hF.o.trans hF2;exact hK.out _ _ (fun i=>(ka.fr hF3 (by omega)).cell i) ⟨hF3,⟨q'+1,hR2,(by have z:=hq'.o;rw[dn_un hu] at z;rw[dn_self hu,dn_ne (show 3≠7 by decide),dn_ne (show 3≠10 by decide)];simp only[Bool.toNat_true,Bool.toNat_false] at z ⊢;omega)⟩,(.int .i64 (m:Int)),v18,v20,v21,v23,v24,rfl,fun _=>⟨m,rfl⟩,dn_keep (by decide) h4.o id,dn_keep (by decide) h6.o (fun ⟨x,e,hx,hb⟩=>⟨x,e,hx,hb.fr hF2 (by omega)⟩),dn_keep (by decide) h7.o id,dn_keep (by decide) h9.o (fun ⟨x,e,hx,hb⟩=>⟨x,e,hx,hb.fr hF2 (by omega)⟩),dn_keep (by decide) h10.o id⟩
    ·obtain ⟨hF,⟨q',hR,hq'⟩,v17,v18,v20,v21,v23,v24,ha,h3,h4,h6,h7,h9,h10⟩:=hI;rw[ha] at hG;clear ha a;replace hq':=ax hq';replace hR:=ax hR;replace hF:=ax hF;replace hS:=ax hS;replace h3:=ax h3;replace h4:=ax h4;replace h6:=ax h6;replace h7:=ax h7;replace h9:=ax h9;replace h10:=ax h10;have d3:dn D 3=true:=hd ⟨3,.data⟩ (by simp) (by decide);obtain ⟨m,rfl⟩:=h3.o d3;clear h3 hd;refine hG ?_;clear hG;(try simp only[zz]);go_simp;exact hK.out _ _ hS.o ⟨hF.o,⟨q',hR.o,(by rw[dn_ne (show 4≠3 by decide),dn_ne (show 4≠7 by decide),dn_ne (show 4≠10 by decide)];exact hq'.o)⟩,(.int .i64 (m:Int)),(.bool ((m:Int) == 0)),v20,v21,v23,v24,rfl,fun _=>⟨m,rfl⟩,fun _=>⟨_,rfl⟩,dn_keep (by decide) h6.o id,dn_keep (by decide) h7.o id,dn_keep (by decide) h9.o id,dn_keep (by decide) h10.o id⟩
    ·obtain ⟨hF,⟨q',hR,hq'⟩,v17,v18,v20,v21,v23,v24,ha,h3,h4,h6,h7,h9,h10⟩:=hI;rw[ha] at hG;clear ha a;replace hq':=ax hq';replace hR:=ax hR;replace hF:=ax hF;replace hS:=ax hS;replace h3:=ax h3;replace h4:=ax h4;replace h6:=ax h6;replace h7:=ax h7;replace h9:=ax h9;replace h10:=ax h10;refine hG ?_;clear hG;(try simp only[zz]);go_simp;have hF3:=hF.o.alloc (.cells #[.int .i64 1,.int .i64 2,.int .i64 3,.int .i64 5] tI);exact hK.out _ _ (fun i=>(ka.fr hF3 (by omega)).cell i) ⟨hF3,⟨q',hR.o.bz bel,(by rw[dn_ne (show 6≠3 by decide),dn_ne (show 6≠7 by decide),dn_ne (show 6≠10 by decide)];exact hq'.o)⟩,v17,v18,(.slice (some ⟨w'.heap.size,0,none⟩) 4 4),v21,v23,v24,rfl,dn_keep (by decide) h3.o id,dn_keep (by decide) h4.o id,fun _=>⟨w'.heap.size,rfl,hR.o.lt,Blk.new _ _ _⟩,dn_keep (by decide) h7.o id,dn_keep (by decide) h9.o (fun ⟨x,e,hx,hb⟩=>⟨x,e,hx,hb.alloc _⟩),dn_keep (by decide) h10.o id⟩
    ·obtain ⟨hF,⟨q',hR,hq'⟩,v17,v18,v20,v21,v23,v24,ha,h3,h4,h6,h7,h9,h10⟩:=hI;rw[ha] at hG;clear ha a;replace hq':=ax hq';replace hR:=ax hR;replace hF:=ax hF;replace hS:=ax hS;replace h3:=ax h3;replace h4:=ax h4;replace h6:=ax h6;replace h7:=ax h7;replace h9:=ax h9;replace h10:=ax h10;have d6:dn D 6=true:=hd ⟨6,.data⟩ (by simp) (by decide);obtain ⟨x,rfl,hx,hb⟩:=h6.o d6;clear h6 hd;refine hG ?_;clear hG;(try simp only[zz]);go_simp;refine (c_numL g q' [(1:Int),2,3,5] x 4 _ _ hR.o (by have:=hq'.o;have:=Bool.toNat_le (dn D 3);have:=Bool.toNat_le (dn D 7);have:=Bool.toNat_le (dn D 10);omega) hb (by rfl) hx (by rfl) (by decide) (by decide)).mono ?_;rintro e w2 ⟨m,hm,rfl,hR2,hF2⟩;have hF3:=hF.o.trans hF2;exact hK.out _ _ (fun i=>(ka.fr hF3 (by omega)).cell i) ⟨hF3,⟨q'+1,hR2,(by have z:=hq'.o;rw[dn_un hu] at z;rw[dn_self hu,dn_ne (show 7≠3 by decide),dn_ne (show 7≠10 by decide)];simp only[Bool.toNat_true,Bool.toNat_false] at z ⊢;omega)⟩,v17,v18,(.slice (some ⟨x,0,none⟩) 4 4),(.int .i64 m),v23,v24,rfl,dn_keep (by decide) h3.o id,dn_keep (by decide) h4.o id,fun _=>⟨x,rfl,hx,hb.fr hF2 (by omega)⟩,fun _=>⟨m,hm,rfl⟩,dn_keep (by decide) h9.o (fun ⟨x,e,hx,hb⟩=>⟨x,e,hx,hb.fr hF2 (by omega)⟩),dn_keep (by decide) h10.o id⟩
    ·obtain ⟨hF,⟨q',hR,hq'⟩,v17,v18,v20,v21,v23,v24,ha,h3,h4,h6,h7,h9,h10⟩:=hI;rw[ha] at hG;clear ha a;replace hq':=ax hq';replace hR:=ax hR;replace hF:=ax hF;replace hS:=ax hS;replace h3:=ax h3;replace h4:=ax h4;replace h6:=ax h6;replace h7:=ax h7;replace h9:=ax h9;replace h10:=ax h10;refine hG ?_;clear hG;(try simp only[zz]);go_simp;have hF3:=hF.o.alloc (.cells #[.int .i64 0,.int .i64 2,.int .i64 3,.int .i64 1,.int .i64 6] tI);exact hK.out _ _ (fun i=>(ka.fr hF3 (by omega)).cell i) ⟨hF3,⟨q',hR.o.bz bel,(by rw[dn_ne (show 9≠3 by decide),dn_ne (show 9≠7 by decide),dn_ne (show 9≠10 by decide)];exact hq'.o)⟩,v17,v18,v20,v21,(.slice (some ⟨w'.heap.size,0,none⟩) 5 5),v24,rfl,dn_keep (by decide) h3.o id,dn_keep (by decide) h4.o id,dn_keep (by decide) h6.o (fun ⟨x,e,hx,hb⟩=>⟨x,e,hx,hb.alloc _⟩),dn_keep (by decide) h7.o id,fun _=>⟨w'.heap.size,rfl,hR.o.lt,Blk.new _ _ _⟩,dn_keep (by decide) h10.o id⟩
    ·obtain ⟨hF,⟨q',hR,hq'⟩,v17,v18,v20,v21,v23,v24,ha,h3,h4,h6,h7,h9,h10⟩:=hI;rw[ha] at hG;clear ha a;replace hq':=ax hq';replace hR:=ax hR;replace hF:=ax hF;replace hS:=ax hS;replace h3:=ax h3;replace h4:=ax h4;replace h6:=ax h6;replace h7:=ax h7;replace h9:=ax h9;replace h10:=ax h10;have d9:dn D 9=true:=hd ⟨9,.data⟩ (by simp) (by decide);obtain ⟨x,rfl,hx,hb⟩:=h9.o d9;clear h9 hd;refine hG ?_;clear hG;(try simp only[zz]);go_simp;refine (c_numL g q' [(0:Int),2,3,1,6] x 5 _ _ hR.o (by have:=hq'.o;have:=Bool.toNat_le (dn D 3);have:=Bool.toNat_le (dn D 7);have:=Bool.toNat_le (dn D 10);omega) hb (by rfl) hx (by rfl) (by decide) (by decide)).mono ?_;rintro e w2 ⟨m,hm,rfl,hR2,hF2⟩;have hF3:=hF.o.trans hF2;exact hK.out _ _ (fun i=>(ka.fr hF3 (by omega)).cell i) ⟨hF3,⟨q'+1,hR2,(by have z:=hq'.o;rw[dn_un hu] at z;rw[dn_self hu,dn_ne (show 10≠3 by decide),dn_ne (show 10≠7 by decide)];simp only[Bool.toNat_true,Bool.toNat_false] at z ⊢;omega)⟩,v17,v18,v20,v21,(.slice (some ⟨x,0,none⟩) 5 5),(.int .i64 m),rfl,dn_keep (by decide) h3.o id,dn_keep (by decide) h4.o id,dn_keep (by decide) h6.o (fun ⟨x,e,hx,hb⟩=>⟨x,e,hx,hb.fr hF2 (by omega)⟩),dn_keep (by decide) h7.o id,fun _=>⟨x,rfl,hx,hb.fr hF2 (by omega)⟩,fun _=>⟨m,hm,rfl⟩⟩
   case fin=>
    rintro a w4 aH ⟨hF,⟨q',hR,hq'⟩,v17,v18,v20,v21,v23,v24,rfl,h3,h4,h6,h7,h9,h10⟩;obtain ⟨m3,rfl⟩:=h3 (by decide);obtain ⟨b4,rfl⟩:=h4 (by decide);obtain ⟨m7,hm7,rfl⟩:=h7 (by decide);obtain ⟨m10,hm10,rfl⟩:=h10 (by decide);replace hq':q'≤q+3:=hq';clear h6 h9;(try simp only[zz]);have ka4:=ka.fr hF (by omega);have kr4:=kr.fr hF (by omega);have HO4:=ax (HO.o.fr hF hlt);have HF4:=ax (HF.o.trans hF);have HR4:=ax hR;have hM7:=ax ((by decide:∀ m∈[(1:Int),2,3,5],jq m=true) m7 hm7);have hM10:=ax ((by decide:∀ m∈[(0:Int),2,3,1,6],jq m=true) m10 hm10);have hsz4:=HF4.o.size;have hlen:fs.length+1≤1049600:=by omega
    clear hF hR hm7 hm10 ka kr HF HRR HO;refine tk2 11 rfl aH (h:=?_);refine rdc 12 rfl fun K hK=>?_;(try simp only[zz]);go_simp;refine hK.out _ _ (Blk.cell blks) ?_;clear aH hK K;intro aH;(try simp only[zz]);refine rdc 13 rfl fun K hK=>?_;skip;(refine stepFL (ys:=[⟨b4,m7,m10⟩]) (base:=w.heap.size) rfl _ _ rfl rfl (HO4.o.bz bel) rfl (FactsV.oneB (Blk.newE rfl)) (by simpa using hlen) (by first|omega|(simp;omega)) ?_;intro A' c' w5 o5 hg5 hB5;have ka5:=Blk.zm (g:=w.heap.size+1) (hg:=hg5) blks (HO4.o.bz (bbox (Below.refl _ _) _)).1 (by decide);have kr5:=Blk.zm (g:=w.heap.size) (hg:=hg5) blks (HO4.o.bz (bbox (Below.refl _ _) _)).1 (by decide);rw[List.length_append,List.length_singleton];clear hg5);refine hK.out _ _ (Blk.cell blks) ?_;clear aH hK K;intro aH;(try simp only[zz]);refine tk2 14 rfl aH (h:=?_);(try simp only[zz]);(replace qka5:=ka5.z);refine rdc 15 rfl fun K hK=>?_;go_simp;refine hK.out _ _ (Blk.cell blks) (fun aH=>?_);clear hK K;refine wpAnyH_done (by kernel_rfl) ?_ _;unfold lastQ;go_simp;refine NoPanic.normal ?_;have hF5:Fr g w w5:=(HF4.o.alloc _).goB hB5 (Nat.le_refl _);have hR5:Rdr w5 g q':=(HR4.o.bz (bbox (Below.refl _ _) _)).belowB hB5 hlt;(go_wp2_with fail)
    go_round
    case rel=>exact ⟨k - 1,fs++[⟨b4,m7,m10⟩],A',c',q',by go_num,by simp;omega,by rw[List.length_append,List.length_singleton] at o5 ⊢;exact o5.setT ka5 (by decide) 0 _,(fun f hf=>by
     rcases List.mem_append.1 hf with hf|hf
     ·exact HV.o f hf
     ·rw[List.mem_singleton.1 hf];simp[Fct.valid,hM7.o,hM10.o]),kr5.far (by simp) _,by simpa using ka5.set_ 0 (.slice A' (fs.length+1) c'),hR5.set_ (by simp only;omega) _,by omega,hF5.set_ (Or.inr (by simp only;omega)) _⟩
    case measure=>simp[intOf];omega
  ·obtain rfl:k=0:=by omega
   (go_wp2_with fail);refine (c_numL g q [2,1,3,2,0,4] _ _ _ _ (HRR.o.bz bel) (by omega) blks (by rfl) (by first|omega|(simp;omega)) (by rfl) (by decide) (by decide)).mono ?_;rintro e w2 ⟨m,hm,rfl,hR,hF⟩;replace kr:=(kr.alloc _).fr hF (by omega);replace ka:=(ka.alloc _).fr hF (by omega);have HF2:aJ (Fr g w w2):=(HF.o.alloc _).trans hF;have hO2:=(HO.o.bz (bbox (Below.refl _ _) (.cells #[.int .i64 2,.int .i64 1,.int .i64 3,.int .i64 2,.int .i64 0,.int .i64 4] tI))).fr hF hlt;obtain ⟨k1,rfl⟩:=Int.eq_ofNat_of_zero_le ((by decide:∀ m∈[(2:Int),1,3,2,0,4],0≤m) m hm);have hk4:k1≤4:=by have:=(by decide:∀ m∈[(2:Int),1,3,2,0,4],m≤4) _ hm;omega
   have HR2:=ax hR;clear hm hR hF HF HRR HO;(go_wp2_with fail)
   go_loopw [5] (fun i wx=>∃ (k:Nat) (xs:List Atm) (B:Option Addr) (d q':Nat),i=.int .i64 k∧k+xs.length≤4∧AtomsO wx w.heap.size (.slice B xs.length d) xs∧aJ (∀ x∈xs,x.valid=true)∧FactsO wx w.heap.size (.slice A fs.length c) fs∧Blk wx w.heap.size 37 #[.slice none 0 0,.slice none 0 0]∧Blk wx (w.heap.size+1) 37 #[.slice A fs.length c,.slice B xs.length d]∧Rdr wx g q'∧q'+3 * k≤p+20∧aJ (Fr g w wx)) (fun i _=>(intOf i).toNat)
   case atStart=>exact ⟨k1,[],none,0,q+1,rfl,by simpa using hk4,AtomsO.nil _ _,(fun f hf=>by cases hf),hO2,kr,ka,HR2.o,by omega,HF2⟩
   case round=>
    clear kr ka HF2 HR2 hO2 hk4;obtain ⟨k,xs,B,d,q',rfl,hkx',hO,HX,hOf,kr,ka,hR,hq',HF⟩:=hrel;have HO:=ax hO;have HOF:=ax hOf;have HRR:=ax hR;have hsz:=HF.o.size;have lr:=kr.lt;have la:=ka.lt;clear hO hR hOf;by_cases hk:0<k
    ·have hki:(0:Int)<(k:Int):=by omega
     (go_wp2_with fail);refine wp_region_noPanic ?_;refine wp_region_last' (S:=(fun w'=>∀ i,w'.cell? ⟨w.heap.size+1,i,none⟩=#[.slice A fs.length c,.slice B xs.length d][i]?)) (by simp) (by kernel_rfl) (by kernel_rfl) (Blk.cell blks) (fun aH=>?_);simp only[List.dropLast,List.getLast,nopOf,List.cons_append,List.nil_append,List.length_cons,List.length_nil,Nat.zero_add,Nat.reduceAdd];refine tk2 0 rfl aH (h:=tk2 1 rfl aH (h:=tk2 2 rfl aH (h:=?_)));refine rdc 3 rfl fun K hK=>?_;(try simp only[zz]);(go_simp;refine (c_l3Point g q' _ (HRR.o.bz bel) (by omega)).mono ?_;rintro e w4 ⟨x,hx,rfl,hR,hF⟩;have ka4:=ka.drew.fr hF (by omega);have kr4:=kr.drew.fr hF (by omega);have HF4:=ax ((HF.o.drew).trans hF);have HO4:=ax ((HO.o.bz (Below.refl _ _).drew).fr hF hlt);have HOF4:=ax ((HOF.o.bz (Below.refl _ _).drew).fr hF hlt);have HR4:=ax hR;have HX4:=ax hx;have hsz4:=HF4.o.size;clear hR hF hx ka kr HF HRR HO HOF);refine hK.out _ _ (ka4.cell) ?_;clear aH hK K;intro aH;(try simp only[zz]);have hlen:xs.length+1≤1049600:=by omega
     refine rdc 4 rfl fun K hK=>?_;(try simp only[zz]);go_simp;refine hK.out _ _ (Blk.cell blks) ?_;clear aH hK K;intro aH;(try simp only[zz]);refine rdc 5 rfl fun K hK=>?_;skip;(refine stepAL (ys:=[x]) (base:=w.heap.size) rfl _ _ rfl rfl (HO4.o.bz bel) rfl (AtomsV.one (f:=x) (Blk.newE rfl)) (by simpa using hlen) (by first|omega|(simp;omega)) ?_;intro A' c' w5 o5 hg5 hB5;have ka5:=Blk.zm (g:=w.heap.size+1) (hg:=hg5) blks (HO4.o.bz (bbox (Below.refl _ _) _)).1 (by decide);have kr5:=Blk.zm (g:=w.heap.size) (hg:=hg5) blks (HO4.o.bz (bbox (Below.refl _ _) _)).1 (by decide);have of5:=FactsO.grownA (HOF4.o.bz (bbox (Below.refl _ _) _)) (HO4.o.bz (bbox (Below.refl _ _) _)) hg5;rw[List.length_append,List.length_singleton];clear hg5);refine hK.out _ _ (Blk.cell blks) ?_;clear aH hK K;intro aH;(try simp only[zz]);refine tk2 6 rfl aH (h:=?_);(try simp only[zz]);(replace qka5:=ka5.z);refine rdc 7 rfl fun K hK=>?_;go_simp;refine hK.out _ _ (Blk.cell blks) (fun aH=>?_);clear hK K;refine wpAnyH_done (by kernel_rfl) ?_ _;unfold lastQ;go_simp;refine NoPanic.normal ?_;have hF5:Fr g w w5:=(HF4.o.alloc _).goB hB5 (Nat.le_refl _);have hR5:Rdr w5 g (q'+3):=(HR4.o.bz (bbox (Below.refl _ _) _)).belowB hB5 hlt;(go_wp2_with fail)
     go_round
     case rel=>exact ⟨k - 1,xs++[x],A',c',q'+3,by go_num,by simp;omega,by rw[List.length_append,List.length_singleton] at o5 ⊢;exact o5.setT ka5 (by decide) 1 _,(fun f hf=>by
      rcases List.mem_append.1 hf with hf|hf
      ·exact HX.o f hf
      ·rw[List.mem_singleton.1 hf];exact HX4.o),of5.setT ka5 (by decide) 1 _,kr5.far (by simp) _,by simpa using ka5.set_ 1 (.slice A' (xs.length+1) c'),hR5.set_ (by simp only;omega) _,by omega,hF5.set_ (Or.inr (by simp only;omega)) _⟩
     case measure=>simp[intOf];omega
    ·obtain rfl:k=0:=by omega
     (replace qka:=ka.z;replace qkr:=kr.cell;replace rkr:=kr.frozen;replace lkr:=kr.lt);have hne:w.heap.size≠w.heap.size+1:=by omega
     have HVAL:aJ ((⟨fs,xs⟩:Asn).valid=true):=by
      show _=_;simp only[Asn.valid,factsValid,Bool.and_eq_true,decide_eq_true_eq,List.all_eq_true];exact ⟨⟨by omega,HV.o⟩,by omega,HX.o⟩
     (go_wp2_with fail);refine bodyPost_ret (v:=.agg #[.slice A fs.length c,.slice B xs.length d]) (by simp[results,Tryz.results228,go_sem,qkr]) rfl ⟨_,⟨fs,xs⟩,q',rfl,⟨_,_,rfl,?_,?_⟩,HVAL.o,by simp only;omega,by simp only;omega,?_,by omega,?_⟩
     ·exact (HOF.o.setT kr (by decide) 0 _).setT (kr.set_ 0 _) (by decide) 1 _
     ·exact (HO.o.setT kr (by decide) 0 _).setT (kr.set_ 0 _) (by decide) 1 _
     ·exact (HRR.o.set_ (by simp only;omega) _).set_ (by simp only;omega) _
     ·exact (HF.o.set_ (Or.inr (by simp only;omega)) _).set_ (Or.inr (by simp only;omega)) _
theorem c_l3Copy {lo hi:Nat} (v:Value) (a:Asn) (w:World) (h:AsnV w lo hi v a) :
  Calls Tryz.prog 124 #[v] w fun e w'=>∃ r,e=.returned r∧AsnO w' w.heap.size r a∧Below w.heap.size w w':=by
 have hV:=ax h;obtain ⟨A1,c1,A2,c2,rfl,h1,h2⟩:=h;have HL:=ax (And.intro h1.le h2.le);clear h1 h2;have e0:aJ (starA a ⟨[],[]⟩=a):=by show _=_;simp[starA]
 (go_enter Tryz.func124,Tryz.ntmps124);have kr:Blk ((w.alloc (.cells #[.slice A1 a.facts.length c1,.slice A2 a.atoms.length c2] 37)).alloc (.cells #[.slice none 0 0,.slice none 0 0] 37)) (w.heap.size+1) 37 #[.slice none 0 0,.slice none 0 0]:=blks;(go_wp2_with fail);refine (c_spec_l3Star _ _ a ⟨[],[]⟩ _ (hV.o.bz bel) (⟨none,0,none,0,rfl,Rd.nil _ 0 0 _ _,Rd.nil _ 0 0 _ _⟩) (by simpa using HL.o.1) (by simpa using HL.o.2)).mono ?_;rintro e w1 ⟨r,rfl,o,hB1⟩;have hB:=bgo (w:=w) bel hB1;replace kr:=kr.nz hB1;rw[e0.o] at o;replace o:=o.bq (base':=w.heap.size) (by simp;omega);obtain ⟨fv,av,rfl,o1,o2⟩:=o;obtain ⟨F,e1,rfl,-⟩:=o1.rj;obtain ⟨G,e2,rfl,-⟩:=o2.rj;have O1:=ax o1;have O2:=ax o2;(replace qkr:=kr.cell;replace rkr:=kr.frozen;replace lkr:=kr.lt);clear o1 o2 hB1;(go_wp2_with fail);refine bodyPost_ret (v:=.agg #[.slice F a.facts.length e1,.slice G a.atoms.length e2]) (by simp[results,Tryz.results124,go_sem,qkr]) rfl ⟨_,rfl,⟨_,_,rfl,?_,?_⟩,bel⟩
 ·exact (O1.o.setT kr (by decide) 0 _).setT (kr.set_ 0 _) (by decide) 1 _
 ·exact (O2.o.setT kr (by decide) 0 _).setT (kr.set_ 0 _) (by decide) 1 _
def FactsI (w:World) (lo hi:Nat) (v:Value) (fs:List Fct):Prop:=FactsO w lo v fs∧Und v hi
def AtomsI (w:World) (lo hi:Nat) (v:Value) (fs:List Atm):Prop:=AtomsO w lo v fs∧Und v hi
def IntsI (w:World) (lo hi:Nat) (v:Value) (fs:List Int):Prop:=IntsO w lo v fs∧Und v hi
def AsnI (w:World) (lo hi:Nat) (v:Value) (a:Asn):Prop:=∃ fv av,v=.agg #[fv,av]∧FactsI w lo hi fv a.facts∧AtomsI w lo hi av a.atoms
section
variable {w w':World} {lo hi lo' hi' a b:Nat} {v:Value}
theorem und_range {w:World} {base:Nat} {e:TypeId} {size:Nat} {v:Value} {n:Nat} {xs:List Value} {hi:Nat} (h:w.ownsRow base e size v n xs) (hu:Und v hi):∀ g,v.ownBlock=some g→base≤g∧g<hi:=fun g hg=>⟨(h.lt g hg).1,hu g hg⟩
theorem FactsI.bz {fs:List Fct} (h:FactsI w lo hi v fs) (hb:Below w.heap.size w w'):FactsI w' lo hi v fs:=⟨h.1.bz hb,h.2⟩
theorem AtomsI.bz {fs:List Atm} (h:AtomsI w lo hi v fs) (hb:Below w.heap.size w w'):AtomsI w' lo hi v fs:=⟨h.1.bz hb,h.2⟩
theorem IntsI.bz {fs:List Int} (h:IntsI w lo hi v fs) (hb:Below w.heap.size w w'):IntsI w' lo hi v fs:=⟨h.1.bz hb,h.2⟩
theorem AsnI.bz {x:Asn} (h:AsnI w lo hi v x) (hb:Below w.heap.size w w'):AsnI w' lo hi v x:=by
 obtain ⟨fv,av,e,h1,h2⟩:=h;exact ⟨fv,av,e,h1.bz hb,h2.bz hb⟩
theorem FactsI.mk {fs:List Fct} (h:FactsI w lo hi v fs) (hb:Mk (fun g=>a≤g∧g<b) w w') (hd:hi≤a∨b≤lo):FactsI w' lo hi v fs:=
 ⟨h.1.mk hb fun g hg hp=>by have:=und_range h.1.1 h.2 g hg;omega,h.2⟩
theorem AtomsI.mk {fs:List Atm} (h:AtomsI w lo hi v fs) (hb:Mk (fun g=>a≤g∧g<b) w w') (hd:hi≤a∨b≤lo):AtomsI w' lo hi v fs:=
 ⟨h.1.mk hb fun g hg hp=>by have:=und_range h.1.1 h.2 g hg;omega,h.2⟩
theorem IntsI.mk {fs:List Int} (h:IntsI w lo hi v fs) (hb:Mk (fun g=>a≤g∧g<b) w w') (hd:hi≤a∨b≤lo):IntsI w' lo hi v fs:=
 ⟨h.1.mk hb fun g hg hp=>by have:=und_range h.1.1 h.2 g hg;omega,h.2⟩
theorem AsnI.mk {x:Asn} (h:AsnI w lo hi v x) (hb:Mk (fun g=>a≤g∧g<b) w w') (hd:hi≤a∨b≤lo):AsnI w' lo hi v x:=by
 obtain ⟨fv,av,e,h1,h2⟩:=h;exact ⟨fv,av,e,h1.mk hb hd,h2.mk hb hd⟩
theorem FactsI.form {fs:List Fct} (h:FactsI w lo hi v fs):∃ A c,v=.slice A fs.length c:=by obtain ⟨A,c,e,-⟩:=h.1.rj;exact ⟨A,c,e⟩
theorem AtomsI.form {fs:List Atm} (h:AtomsI w lo hi v fs):∃ A c,v=.slice A fs.length c:=by obtain ⟨A,c,e,-⟩:=h.1.rj;exact ⟨A,c,e⟩
theorem IntsI.form {fs:List Int} (h:IntsI w lo hi v fs):∃ A c,v=.slice A fs.length c:=by obtain ⟨A,c,e,-⟩:=h.1.rj;exact ⟨A,c,e⟩
theorem AsnI.form {x:Asn} (h:AsnI w lo hi v x):∃ A c B d,v=.agg #[.slice A x.facts.length c,.slice B x.atoms.length d]:=by
 obtain ⟨fv,av,rfl,h1,h2⟩:=h;obtain ⟨A,c,rfl⟩:=h1.form;obtain ⟨B,d,rfl⟩:=h2.form;exact ⟨A,c,B,d,rfl⟩
theorem IntsI.rj {A:Option Addr} {n c:Nat} {fs:List Int} (h:IntsI w lo hi (.slice A n c) fs):IntsV w lo w.heap.size A fs:=h.1.readsI.2
theorem AsnI.rj {x:Asn} (h:AsnI w lo hi v x):AsnV w lo w.heap.size v x:=by
 obtain ⟨fv,av,e,h1,h2⟩:=h;exact AsnO.rj ⟨fv,av,e,h1.1,h2.1⟩
theorem FactsO.I {fs:List Fct} (h:FactsO w lo v fs):FactsI w lo w.heap.size v fs:=⟨h,h.und⟩
theorem AtomsO.I {fs:List Atm} (h:AtomsO w lo v fs):AtomsI w lo w.heap.size v fs:=⟨h,h.und⟩
theorem IntsO.I {fs:List Int} (h:IntsO w lo v fs):IntsI w lo w.heap.size v fs:=⟨h,h.und⟩
theorem AsnO.I {x:Asn} (h:AsnO w lo v x):AsnI w lo w.heap.size v x:=by
 obtain ⟨fv,av,e,h1,h2⟩:=h;exact ⟨fv,av,e,h1.I,h2.I⟩
theorem AsnI.len {x:Asn} (h:AsnI w lo hi v x):x.facts.length≤1049600∧x.atoms.length≤1049600:=by
 obtain ⟨fv,av,e,h1,h2⟩:=h;exact ⟨h1.1.2,h2.1.2⟩
theorem IntsI.len {x:List Int} (h:IntsI w lo hi v x):x.length≤1049600:=h.1.2
theorem Mk.keepB {B:Nat} {w0:World} (h:Below B w0 w) (hm:Mk (fun g=>a≤g∧g<b) w w') (hB:B≤a) (hs:B≤w.heap.size):Below B w0 w':=
 h.trans (hm.bz (fun k hk=>by omega) hs)
end
end
end Go.Proofs.YtjaohekkmlkinaaGreat
