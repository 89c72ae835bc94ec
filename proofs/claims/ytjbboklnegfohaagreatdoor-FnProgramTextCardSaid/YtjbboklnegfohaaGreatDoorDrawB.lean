/- What the reader draws: assertions. -/
import Derived.Test.YtjbboklnegfohaaGreatDoorDrawA
import Derived.Test.YtjbboklnegfohaaGreatDoorMRange
import Derived.Test.YtjbboklnegfohaaGreatDoorMAlloc
set_option linter.unusedSimpArgs false
set_option linter.unusedVariables false
namespace Go.Proofs.YtjbboklnegfohaaGreatDoor
open Go Go.RowKit Go.Proofs
theorem IntsV.lit {w:World} {x:Nat} {cs:Array Value} {xs:List Int} (hk:Blk w x tI cs) (hcs:cs=(encI xs).toArray) (hl:xs.length≤100):IntsV w x (x+1) (some ⟨x,0,none⟩) xs:=
 ⟨⟨by simp[encI],fun _=>⟨x,0,rfl,Nat.le_refl _,Nat.lt_succ_self _,fun j u hu=>by rw[Nat.zero_add,hk.cell,hcs];simpa using hu⟩⟩,by unfold Lim;omega⟩
theorem FactsV.oneB {w:World} {g:Nat} {e:Bool} {x y:Int} (h:Blk w g tF #[.bool e,.int .i64 x,.int .i64 y]):FactsV w g (g+1) (some ⟨g,0,none⟩) [⟨e,x,y⟩]:=FactsV.one (f:=⟨e,x,y⟩) h
theorem AtomsV.oneB {w:World} {g:Nat} {e:Int} {x y:Int} (h:Blk w g tA #[.int .i64 e,.int .i64 x,.int .i64 y]):AtomsV w g (g+1) (some ⟨g,0,none⟩) [⟨e,x,y⟩]:=AtomsV.one (f:=⟨e,x,y⟩) h
set_option maxRecDepth 100000 in
set_option maxHeartbeats 6400000 in
theorem c_l3Draw (g p:Nat) (w:World) (h:Rdr w g p) (hp:p≤999900) :
  Calls Tryz.prog 75 #[.pointer (some ⟨g,0,none⟩)] w fun e w'=>∃ r a q,e=.returned r∧AsnO w' w.heap.size r a∧a.valid=true∧a.facts.length≤2∧a.atoms.length≤4∧Rdr w' g q∧q≤p+30∧Fr g w w':=by
 have H:=Lib.hid h
 have hlt:=h.lt
 clear h
 go_enter Tryz.func75,Tryz.ntmps75
 have kr:Blk ((w.alloc (.cells #[.slice none 0 0,.slice none 0 0] 49)).alloc (.cells #[.slice none 0 0,.slice none 0 0] 49)) w.heap.size 49 #[.slice none 0 0,.slice none 0 0]:=blks
 have ka:Blk ((w.alloc (.cells #[.slice none 0 0,.slice none 0 0] 49)).alloc (.cells #[.slice none 0 0,.slice none 0 0] 49)) (w.heap.size+1) 49 #[.slice none 0 0,.slice none 0 0]:=blks
 have HF0:Hid (Fr g w ((w.alloc (.cells #[.slice none 0 0,.slice none 0 0] 49)).alloc (.cells #[.slice none 0 0,.slice none 0 0] 49))):=((Fr.refl g w).alloc _).alloc _
 go_wp2_with fail
 refine (c_numL g p [1,0,2,0] _ _ _ _ (H.out.below bel) (by omega) blks (by rfl) (by first|omega|(simp;omega)) (by rfl) (by decide) (by decide)).mono ?_
 rintro e w1 ⟨m,hm,rfl,hR,hF⟩
 replace kr:=(kr.alloc _).fr hF (by omega)
 replace ka:=(ka.alloc _).fr hF (by omega)
 have HF1:Hid (Fr g w w1):=(HF0.out.alloc _).trans hF
 obtain ⟨k0,rfl⟩:=Int.eq_ofNat_of_zero_le ((by decide:∀ m∈[(1:Int),0,2,0],0≤m) m hm)
 have hk2:k0≤2:=by have:=(by decide:∀ m∈[(1:Int),0,2,0],m≤2) _ hm;omega
 have HR1:=Lib.hid hR
 clear hm hR hF HF0 H
 go_wp2_with fail
 go_loopw [4] (fun i wr=>∃ (k:Nat) (fs:List Fct) (A:Option Addr) (c q:Nat),i=.int .i64 k∧k+fs.length≤2∧FactsO wr w.heap.size (.slice A fs.length c) fs∧Hid (∀ f∈fs,f.valid=true)∧Blk wr w.heap.size 49 #[.slice none 0 0,.slice none 0 0]∧Blk wr (w.heap.size+1) 49 #[.slice A fs.length c,.slice none 0 0]∧Rdr wr g q∧q+3 * k≤p+7∧Hid (Fr g w wr)) (fun i _=>(intOf i).toNat)
 case atStart=>exact ⟨k0,[],none,0,p+1,rfl,by simpa using hk2,FactsO.nil _ _,(fun f hf=>by cases hf),kr,ka,HR1.out,by omega,HF1⟩
 case round=>
  clear kr ka HF1 HR1 hk2
  obtain ⟨k,fs,A,c,q,rfl,hkx,hO,HV,kr,ka,hR,hq,HF⟩:=hrel
  have HO:=Lib.hid hO
  have HRR:=Lib.hid hR
  have hsz:=HF.out.size
  have lr:=kr.lt
  have la:=ka.lt
  clear hO hR
  by_cases hk:0<k
  ·have hki:(0:Int)<(k:Int):=by omega
   go_wp2_with fail
   refine wp_region_noPanic ?_
   refine wp_region_last' (S:=(fun w'=>∀ i,w'.cell? ⟨w.heap.size+1,i,none⟩=#[.slice A fs.length c,.slice none 0 0][i]?)) (by simp) (by kernel_rfl) (by kernel_rfl) (Blk.cell blks) (fun hHeld=>?_)
   simp only[List.dropLast,List.getLast,nopOf,List.cons_append,List.nil_append,List.length_cons,List.length_nil,Nat.zero_add,Nat.reduceAdd]
   refine tk 0 ?_ rfl (fun w hSw=>?_) hHeld ?_
   rotate_left
   ·((try dsimp only at hSw);go_split_ands;go_simp;(try with_reducible rfl))
   try simp only[Act.put,zA,zB,zC,zD,zE,zF]
   refine tk 1 ?_ rfl (fun w hSw=>?_) hHeld ?_
   rotate_left
   ·((try dsimp only at hSw);go_split_ands;go_simp;(try with_reducible rfl))
   try simp only[Act.put,zA,zB,zC,zD,zE,zF]
   refine tk 2 ?_ rfl (fun w hSw=>?_) hHeld ?_
   rotate_left
   ·((try dsimp only at hSw);go_split_ands;go_simp;(try with_reducible rfl))
   try simp only[Act.put,zA,zB,zC,zD,zE,zF]
   refine tk 5 ?_ rfl (fun w hSw=>?_) hHeld ?_
   rotate_left
   ·((try dsimp only at hSw);go_split_ands;go_simp;(try with_reducible rfl))
   try simp only[Act.put,zA,zB,zC,zD,zE,zF]
   refine tk 8 ?_ rfl (fun w hSw=>?_) hHeld ?_
   rotate_left
   ·((try dsimp only at hSw);go_split_ands;go_simp;(try with_reducible rfl))
   try simp only[Act.put,zA,zB,zC,zD,zE,zF]
   refine wpAnyH_par [3,4,6,7,9,10] #[true,true,true,true,true,true,true,true,true,true,true,false,false,false,false,false] 6 (by kernel_rfl) hHeld
    (fun a0 D a w'=>Fr g wr w'∧(∃ q',Rdr w' g q'∧q'≤q+(dn D 3).toNat+(dn D 7).toNat+(dn D 10).toNat)∧∃ v17 v18 v20 v21 v23 v24,a=((((((a0.put (some 17) v17).put (some 18) v18).put (some 20) v20).put (some 21) v21).put (some 23) v23).put (some 24) v24)∧
     (dn D 3=true→∃ m:Nat,v17=.int .i64 (m:Int))∧
     (dn D 4=true→∃ b,v18=.bool b)∧
     (dn D 6=true→∃ x,v20=.slice (some ⟨x,0,none⟩) 4 4∧g<x∧Blk w' x tI #[.int .i64 1,.int .i64 2,.int .i64 3,.int .i64 5])∧
     (dn D 7=true→∃ m,m∈[(1:Int),2,3,5]∧v21=.int .i64 m)∧
     (dn D 9=true→∃ x,v23=.slice (some ⟨x,0,none⟩) 5 5∧g<x∧Blk w' x tI #[.int .i64 0,.int .i64 2,.int .i64 3,.int .i64 1,.int .i64 6])∧
     (dn D 10=true→∃ m,m∈[(0:Int),2,3,1,6]∧v24=.int .i64 m)) ?start ?steps ?fin
   case start=>
    refine ⟨(Fr.refl g wr).drew,⟨q,HRR.out.below bel,by omega⟩,u17,u18,u20,u21,u23,u24,rfl,?_,?_,?_,?_,?_,?_⟩
    all_goals exact fun h=>absurd h (by decide)
   case steps=>
    refine ParSteps.cons rfl (fun D a w' hu hd hI hS K' hK G hG=>?_) (ParSteps.cons rfl (fun D a w' hu hd hI hS K' hK G hG=>?_) (ParSteps.cons rfl (fun D a w' hu hd hI hS K' hK G hG=>?_) (ParSteps.cons rfl (fun D a w' hu hd hI hS K' hK G hG=>?_) (ParSteps.cons rfl (fun D a w' hu hd hI hS K' hK G hG=>?_) (ParSteps.cons rfl (fun D a w' hu hd hI hS K' hK G hG=>?_) (ParSteps.nil))))))
    ·obtain ⟨hF,⟨q',hR,hq'⟩,v17,v18,v20,v21,v23,v24,ha,h3,h4,h6,h7,h9,h10⟩:=hI
     rw[ha] at hG
     clear ha a
     replace hq':=Lib.hid hq'
     replace hR:=Lib.hid hR
     replace hF:=Lib.hid hF
     replace hS:=Lib.hid hS
     replace h3:=Lib.hid h3
     replace h4:=Lib.hid h4
     replace h6:=Lib.hid h6
     replace h7:=Lib.hid h7
     replace h9:=Lib.hid h9
     replace h10:=Lib.hid h10
     refine hG ?_
     clear hG
     try simp only[Act.put,List.setIfInBounds_toArray,List.set_cons_zero,List.set_cons_succ]
     go_simp
     refine (c_pick g q' 3 _ hR.out (by have:=hq'.out;have:=Bool.toNat_le (dn D 3);have:=Bool.toNat_le (dn D 7);have:=Bool.toNat_le (dn D 10);omega)).mono ?_
     rintro e w2 ⟨m,rfl,-,hR2,hF2⟩
     have hF3:=hF.out.trans hF2
     exact hK.out _ _ (fun i=>(ka.fr hF3 (by omega)).cell i) ⟨hF3,⟨q'+1,hR2,(by have z:=hq'.out;rw[dn_un hu] at z;rw[dn_self hu,dn_ne (show 3≠7 by decide),dn_ne (show 3≠10 by decide)];simp only[Bool.toNat_true,Bool.toNat_false] at z ⊢;omega)⟩,(.int .i64 (m:Int)),v18,v20,v21,v23,v24,rfl,fun _=>⟨m,rfl⟩,dn_keep (by decide) h4.out id,dn_keep (by decide) h6.out (fun ⟨x,e,hx,hb⟩=>⟨x,e,hx,hb.fr hF2 (by omega)⟩),dn_keep (by decide) h7.out id,dn_keep (by decide) h9.out (fun ⟨x,e,hx,hb⟩=>⟨x,e,hx,hb.fr hF2 (by omega)⟩),dn_keep (by decide) h10.out id⟩
    ·obtain ⟨hF,⟨q',hR,hq'⟩,v17,v18,v20,v21,v23,v24,ha,h3,h4,h6,h7,h9,h10⟩:=hI
     rw[ha] at hG
     clear ha a
     replace hq':=Lib.hid hq'
     replace hR:=Lib.hid hR
     replace hF:=Lib.hid hF
     replace hS:=Lib.hid hS
     replace h3:=Lib.hid h3
     replace h4:=Lib.hid h4
     replace h6:=Lib.hid h6
     replace h7:=Lib.hid h7
     replace h9:=Lib.hid h9
     replace h10:=Lib.hid h10
     have d3:dn D 3=true:=hd ⟨3,.data⟩ (by simp) (by decide)
     obtain ⟨m,rfl⟩:=h3.out d3
     clear h3 hd
     refine hG ?_
     clear hG
     try simp only[Act.put,List.setIfInBounds_toArray,List.set_cons_zero,List.set_cons_succ]
     go_simp
     exact hK.out _ _ hS.out ⟨hF.out,⟨q',hR.out,(by rw[dn_ne (show 4≠3 by decide),dn_ne (show 4≠7 by decide),dn_ne (show 4≠10 by decide)];exact hq'.out)⟩,(.int .i64 (m:Int)),(.bool ((m:Int) == 0)),v20,v21,v23,v24,rfl,fun _=>⟨m,rfl⟩,fun _=>⟨_,rfl⟩,dn_keep (by decide) h6.out id,dn_keep (by decide) h7.out id,dn_keep (by decide) h9.out id,dn_keep (by decide) h10.out id⟩
    ·obtain ⟨hF,⟨q',hR,hq'⟩,v17,v18,v20,v21,v23,v24,ha,h3,h4,h6,h7,h9,h10⟩:=hI
     rw[ha] at hG
     clear ha a
     replace hq':=Lib.hid hq'
     replace hR:=Lib.hid hR
     replace hF:=Lib.hid hF
     replace hS:=Lib.hid hS
     replace h3:=Lib.hid h3
     replace h4:=Lib.hid h4
     replace h6:=Lib.hid h6
     replace h7:=Lib.hid h7
     replace h9:=Lib.hid h9
     replace h10:=Lib.hid h10
     refine hG ?_
     clear hG
     try simp only[Act.put,List.setIfInBounds_toArray,List.set_cons_zero,List.set_cons_succ]
     go_simp
     have hF3:=hF.out.alloc (.cells #[.int .i64 1,.int .i64 2,.int .i64 3,.int .i64 5] tI)
     exact hK.out _ _ (fun i=>(ka.fr hF3 (by omega)).cell i) ⟨hF3,⟨q',hR.out.below bel,(by rw[dn_ne (show 6≠3 by decide),dn_ne (show 6≠7 by decide),dn_ne (show 6≠10 by decide)];exact hq'.out)⟩,v17,v18,(.slice (some ⟨w'.heap.size,0,none⟩) 4 4),v21,v23,v24,rfl,dn_keep (by decide) h3.out id,dn_keep (by decide) h4.out id,fun _=>⟨w'.heap.size,rfl,hR.out.lt,Blk.new _ _ _⟩,dn_keep (by decide) h7.out id,dn_keep (by decide) h9.out (fun ⟨x,e,hx,hb⟩=>⟨x,e,hx,hb.alloc _⟩),dn_keep (by decide) h10.out id⟩
    ·obtain ⟨hF,⟨q',hR,hq'⟩,v17,v18,v20,v21,v23,v24,ha,h3,h4,h6,h7,h9,h10⟩:=hI
     rw[ha] at hG
     clear ha a
     replace hq':=Lib.hid hq'
     replace hR:=Lib.hid hR
     replace hF:=Lib.hid hF
     replace hS:=Lib.hid hS
     replace h3:=Lib.hid h3
     replace h4:=Lib.hid h4
     replace h6:=Lib.hid h6
     replace h7:=Lib.hid h7
     replace h9:=Lib.hid h9
     replace h10:=Lib.hid h10
     have d6:dn D 6=true:=hd ⟨6,.data⟩ (by simp) (by decide)
     obtain ⟨x,rfl,hx,hb⟩:=h6.out d6
     clear h6 hd
     refine hG ?_
     clear hG
     try simp only[Act.put,List.setIfInBounds_toArray,List.set_cons_zero,List.set_cons_succ]
     go_simp
     refine (c_numL g q' [(1:Int),2,3,5] x 4 _ _ hR.out (by have:=hq'.out;have:=Bool.toNat_le (dn D 3);have:=Bool.toNat_le (dn D 7);have:=Bool.toNat_le (dn D 10);omega) hb (by rfl) hx (by rfl) (by decide) (by decide)).mono ?_
     rintro e w2 ⟨m,hm,rfl,hR2,hF2⟩
     have hF3:=hF.out.trans hF2
     exact hK.out _ _ (fun i=>(ka.fr hF3 (by omega)).cell i) ⟨hF3,⟨q'+1,hR2,(by have z:=hq'.out;rw[dn_un hu] at z;rw[dn_self hu,dn_ne (show 7≠3 by decide),dn_ne (show 7≠10 by decide)];simp only[Bool.toNat_true,Bool.toNat_false] at z ⊢;omega)⟩,v17,v18,(.slice (some ⟨x,0,none⟩) 4 4),(.int .i64 m),v23,v24,rfl,dn_keep (by decide) h3.out id,dn_keep (by decide) h4.out id,fun _=>⟨x,rfl,hx,hb.fr hF2 (by omega)⟩,fun _=>⟨m,hm,rfl⟩,dn_keep (by decide) h9.out (fun ⟨x,e,hx,hb⟩=>⟨x,e,hx,hb.fr hF2 (by omega)⟩),dn_keep (by decide) h10.out id⟩
    ·obtain ⟨hF,⟨q',hR,hq'⟩,v17,v18,v20,v21,v23,v24,ha,h3,h4,h6,h7,h9,h10⟩:=hI
     rw[ha] at hG
     clear ha a
     replace hq':=Lib.hid hq'
     replace hR:=Lib.hid hR
     replace hF:=Lib.hid hF
     replace hS:=Lib.hid hS
     replace h3:=Lib.hid h3
     replace h4:=Lib.hid h4
     replace h6:=Lib.hid h6
     replace h7:=Lib.hid h7
     replace h9:=Lib.hid h9
     replace h10:=Lib.hid h10
     refine hG ?_
     clear hG
     try simp only[Act.put,List.setIfInBounds_toArray,List.set_cons_zero,List.set_cons_succ]
     go_simp
     have hF3:=hF.out.alloc (.cells #[.int .i64 0,.int .i64 2,.int .i64 3,.int .i64 1,.int .i64 6] tI)
     exact hK.out _ _ (fun i=>(ka.fr hF3 (by omega)).cell i) ⟨hF3,⟨q',hR.out.below bel,(by rw[dn_ne (show 9≠3 by decide),dn_ne (show 9≠7 by decide),dn_ne (show 9≠10 by decide)];exact hq'.out)⟩,v17,v18,v20,v21,(.slice (some ⟨w'.heap.size,0,none⟩) 5 5),v24,rfl,dn_keep (by decide) h3.out id,dn_keep (by decide) h4.out id,dn_keep (by decide) h6.out (fun ⟨x,e,hx,hb⟩=>⟨x,e,hx,hb.alloc _⟩),dn_keep (by decide) h7.out id,fun _=>⟨w'.heap.size,rfl,hR.out.lt,Blk.new _ _ _⟩,dn_keep (by decide) h10.out id⟩
    ·obtain ⟨hF,⟨q',hR,hq'⟩,v17,v18,v20,v21,v23,v24,ha,h3,h4,h6,h7,h9,h10⟩:=hI
     rw[ha] at hG
     clear ha a
     replace hq':=Lib.hid hq'
     replace hR:=Lib.hid hR
     replace hF:=Lib.hid hF
     replace hS:=Lib.hid hS
     replace h3:=Lib.hid h3
     replace h4:=Lib.hid h4
     replace h6:=Lib.hid h6
     replace h7:=Lib.hid h7
     replace h9:=Lib.hid h9
     replace h10:=Lib.hid h10
     have d9:dn D 9=true:=hd ⟨9,.data⟩ (by simp) (by decide)
     obtain ⟨x,rfl,hx,hb⟩:=h9.out d9
     clear h9 hd
     refine hG ?_
     clear hG
     try simp only[Act.put,List.setIfInBounds_toArray,List.set_cons_zero,List.set_cons_succ]
     go_simp
     refine (c_numL g q' [(0:Int),2,3,1,6] x 5 _ _ hR.out (by have:=hq'.out;have:=Bool.toNat_le (dn D 3);have:=Bool.toNat_le (dn D 7);have:=Bool.toNat_le (dn D 10);omega) hb (by rfl) hx (by rfl) (by decide) (by decide)).mono ?_
     rintro e w2 ⟨m,hm,rfl,hR2,hF2⟩
     have hF3:=hF.out.trans hF2
     exact hK.out _ _ (fun i=>(ka.fr hF3 (by omega)).cell i) ⟨hF3,⟨q'+1,hR2,(by have z:=hq'.out;rw[dn_un hu] at z;rw[dn_self hu,dn_ne (show 10≠3 by decide),dn_ne (show 10≠7 by decide)];simp only[Bool.toNat_true,Bool.toNat_false] at z ⊢;omega)⟩,v17,v18,v20,v21,(.slice (some ⟨x,0,none⟩) 5 5),(.int .i64 m),rfl,dn_keep (by decide) h3.out id,dn_keep (by decide) h4.out id,dn_keep (by decide) h6.out (fun ⟨x,e,hx,hb⟩=>⟨x,e,hx,hb.fr hF2 (by omega)⟩),dn_keep (by decide) h7.out id,fun _=>⟨x,rfl,hx,hb.fr hF2 (by omega)⟩,fun _=>⟨m,hm,rfl⟩⟩
   case fin=>
    rintro a w4 hHeld ⟨hF,⟨q',hR,hq'⟩,v17,v18,v20,v21,v23,v24,rfl,h3,h4,h6,h7,h9,h10⟩
    obtain ⟨m3,rfl⟩:=h3 (by decide)
    obtain ⟨b4,rfl⟩:=h4 (by decide)
    obtain ⟨m7,hm7,rfl⟩:=h7 (by decide)
    obtain ⟨m10,hm10,rfl⟩:=h10 (by decide)
    replace hq':q'≤q+3:=hq'
    clear h6 h9
    try simp only[Act.put,List.setIfInBounds_toArray,List.set_cons_zero,List.set_cons_succ]
    have ka4:=ka.fr hF (by omega)
    have kr4:=kr.fr hF (by omega)
    have HO4:=Lib.hid (HO.out.fr hF hlt)
    have HF4:=Lib.hid (HF.out.trans hF)
    have HR4:=Lib.hid hR
    have hM7:=Lib.hid ((by decide:∀ m∈[(1:Int),2,3,5],isTermB m=true) m7 hm7)
    have hM10:=Lib.hid ((by decide:∀ m∈[(0:Int),2,3,1,6],isTermB m=true) m10 hm10)
    have hsz4:=HF4.out.size
    have hlen:fs.length+1≤1049600:=by omega
    clear hF hR hm7 hm10 ka kr HF HRR HO
    refine tk 11 ?_ rfl (fun w hSw=>?_) hHeld ?_
    rotate_left
    ·((try dsimp only at hSw);go_split_ands;go_simp;(try with_reducible rfl))
    try simp only[Act.put,zA,zB,zC,zD,zE,zF]
    refine rdc 12 rfl fun K hK=>?_
    try simp only[zA,zB,zC]
    go_simp
    refine hK.out _ _ (Blk.cell blks) ?_
    clear hHeld hK K
    intro hHeld
    try simp only[Act.put,zA,zB,zC,zD,zE,zF]
    refine rdc 13 rfl fun K hK=>?_
    skip
    (refine stepFL (ys:=[⟨b4,m7,m10⟩]) (base:=w.heap.size) rfl _ _ rfl rfl (HO4.out.below bel) rfl (FactsV.oneB (Blk.newE rfl)) (by simpa using hlen) (by first|omega|(simp;omega)) ?_;intro A' c' w5 o5 hg5 hB5;have ka5:=Blk.grownO (g:=w.heap.size+1) (hg:=hg5) blks (HO4.out.below (bbox (Below.refl _ _) _)).1 (by decide);have kr5:=Blk.grownO (g:=w.heap.size) (hg:=hg5) blks (HO4.out.below (bbox (Below.refl _ _) _)).1 (by decide);rw[List.length_append,List.length_singleton];clear hg5)
    refine hK.out _ _ (Blk.cell blks) ?_
    clear hHeld hK K
    intro hHeld
    try simp only[Act.put,zA,zB,zC,zD,zE,zF]
    refine tk 14 ?_ rfl (fun w hSw=>?_) hHeld ?_
    rotate_left
    ·((try dsimp only at hSw);go_split_ands;go_simp;(try with_reducible rfl))
    try simp only[Act.put,zA,zB,zC,zD,zE,zF]
    (replace qka5:=ka5.cell;replace rka5:=ka5.frozen;replace lka5:=ka5.lt)
    refine rdc 15 rfl fun K hK=>?_
    go_simp
    refine hK.out _ _ (Blk.cell blks) (fun hHeld=>?_)
    clear hK K
    refine wpAnyH_done (by kernel_rfl) ?_ _
    unfold lastQ
    go_simp
    refine NoPanic.normal ?_
    have hF5:Fr g w w5:=(HF4.out.alloc _).goB hB5 (Nat.le_refl _)
    have hR5:Rdr w5 g q':=(HR4.out.below (bbox (Below.refl _ _) _)).belowB hB5 hlt
    go_wp2_with fail
    go_round
    case rel=>exact ⟨k - 1,fs++[⟨b4,m7,m10⟩],A',c',q',by go_num,by simp;omega,by rw[List.length_append,List.length_singleton] at o5 ⊢;exact o5.setT ka5 (by decide) 0 _,(fun f hf=>by
     rcases List.mem_append.1 hf with hf|hf
     ·exact HV.out f hf
     ·rw[List.mem_singleton.1 hf];simp[Fct.valid,hM7.out,hM10.out]),kr5.far (by simp) _,by simpa using ka5.set_ 0 (.slice A' (fs.length+1) c'),hR5.set_ (by simp only;omega) _,by omega,hF5.set_ (Or.inr (by simp only;omega)) _⟩
    case measure=>simp[intOf];omega
  ·obtain rfl:k=0:=by omega
   go_wp2_with fail
   refine (c_numL g q [2,1,3,2,0,4] _ _ _ _ (HRR.out.below bel) (by omega) blks (by rfl) (by first|omega|(simp;omega)) (by rfl) (by decide) (by decide)).mono ?_
   rintro e w2 ⟨m,hm,rfl,hR,hF⟩
   replace kr:=(kr.alloc _).fr hF (by omega)
   replace ka:=(ka.alloc _).fr hF (by omega)
   have HF2:Hid (Fr g w w2):=(HF.out.alloc _).trans hF
   have hO2:=(HO.out.below (bbox (Below.refl _ _) (.cells #[.int .i64 2,.int .i64 1,.int .i64 3,.int .i64 2,.int .i64 0,.int .i64 4] tI))).fr hF hlt
   obtain ⟨k1,rfl⟩:=Int.eq_ofNat_of_zero_le ((by decide:∀ m∈[(2:Int),1,3,2,0,4],0≤m) m hm)
   have hk4:k1≤4:=by have:=(by decide:∀ m∈[(2:Int),1,3,2,0,4],m≤4) _ hm;omega
   have HR2:=Lib.hid hR
   clear hm hR hF HF HRR HO
   go_wp2_with fail
   go_loopw [5] (fun i wx=>∃ (k:Nat) (xs:List Atm) (B:Option Addr) (d q':Nat),i=.int .i64 k∧k+xs.length≤4∧AtomsO wx w.heap.size (.slice B xs.length d) xs∧Hid (∀ x∈xs,x.valid=true)∧FactsO wx w.heap.size (.slice A fs.length c) fs∧Blk wx w.heap.size 49 #[.slice none 0 0,.slice none 0 0]∧Blk wx (w.heap.size+1) 49 #[.slice A fs.length c,.slice B xs.length d]∧Rdr wx g q'∧q'+3 * k≤p+20∧Hid (Fr g w wx)) (fun i _=>(intOf i).toNat)
   case atStart=>exact ⟨k1,[],none,0,q+1,rfl,by simpa using hk4,AtomsO.nil _ _,(fun f hf=>by cases hf),hO2,kr,ka,HR2.out,by omega,HF2⟩
   case round=>
    clear kr ka HF2 HR2 hO2 hk4
    obtain ⟨k,xs,B,d,q',rfl,hkx',hO,HX,hOf,kr,ka,hR,hq',HF⟩:=hrel
    have HO:=Lib.hid hO
    have HOF:=Lib.hid hOf
    have HRR:=Lib.hid hR
    have hsz:=HF.out.size
    have lr:=kr.lt
    have la:=ka.lt
    clear hO hR hOf
    by_cases hk:0<k
    ·have hki:(0:Int)<(k:Int):=by omega
     go_wp2_with fail
     refine wp_region_noPanic ?_
     refine wp_region_last' (S:=(fun w'=>∀ i,w'.cell? ⟨w.heap.size+1,i,none⟩=#[.slice A fs.length c,.slice B xs.length d][i]?)) (by simp) (by kernel_rfl) (by kernel_rfl) (Blk.cell blks) (fun hHeld=>?_)
     simp only[List.dropLast,List.getLast,nopOf,List.cons_append,List.nil_append,List.length_cons,List.length_nil,Nat.zero_add,Nat.reduceAdd]
     refine tk 0 ?_ rfl (fun w hSw=>?_) hHeld ?_
     rotate_left
     ·((try dsimp only at hSw);go_split_ands;go_simp;(try with_reducible rfl))
     try simp only[Act.put,zA,zB,zC,zD,zE,zF]
     refine tk 1 ?_ rfl (fun w hSw=>?_) hHeld ?_
     rotate_left
     ·((try dsimp only at hSw);go_split_ands;go_simp;(try with_reducible rfl))
     try simp only[Act.put,zA,zB,zC,zD,zE,zF]
     refine tk 2 ?_ rfl (fun w hSw=>?_) hHeld ?_
     rotate_left
     ·((try dsimp only at hSw);go_split_ands;go_simp;(try with_reducible rfl))
     try simp only[Act.put,zA,zB,zC,zD,zE,zF]
     refine rdc 3 rfl fun K hK=>?_
     try simp only[zA,zB,zC]
     (go_simp;refine (c_l3Point g q' _ (HRR.out.below bel) (by omega)).mono ?_;rintro e w4 ⟨x,hx,rfl,hR,hF⟩;have ka4:=ka.drew.fr hF (by omega);have kr4:=kr.drew.fr hF (by omega);have HF4:=Lib.hid ((HF.out.drew).trans hF);have HO4:=Lib.hid ((HO.out.below (Below.refl _ _).drew).fr hF hlt);have HOF4:=Lib.hid ((HOF.out.below (Below.refl _ _).drew).fr hF hlt);have HR4:=Lib.hid hR;have HX4:=Lib.hid hx;have hsz4:=HF4.out.size;clear hR hF hx ka kr HF HRR HO HOF)
     refine hK.out _ _ (ka4.cell) ?_
     clear hHeld hK K
     intro hHeld
     try simp only[Act.put,zA,zB,zC,zD,zE,zF]
     have hlen:xs.length+1≤1049600:=by omega
     refine rdc 4 rfl fun K hK=>?_
     try simp only[zA,zB,zC]
     go_simp
     refine hK.out _ _ (Blk.cell blks) ?_
     clear hHeld hK K
     intro hHeld
     try simp only[Act.put,zA,zB,zC,zD,zE,zF]
     refine rdc 5 rfl fun K hK=>?_
     skip
     (refine stepAL (ys:=[x]) (base:=w.heap.size) rfl _ _ rfl rfl (HO4.out.below bel) rfl (AtomsV.one (f:=x) (Blk.newE rfl)) (by simpa using hlen) (by first|omega|(simp;omega)) ?_;intro A' c' w5 o5 hg5 hB5;have ka5:=Blk.grownO (g:=w.heap.size+1) (hg:=hg5) blks (HO4.out.below (bbox (Below.refl _ _) _)).1 (by decide);have kr5:=Blk.grownO (g:=w.heap.size) (hg:=hg5) blks (HO4.out.below (bbox (Below.refl _ _) _)).1 (by decide);have of5:=FactsO.grownA (HOF4.out.below (bbox (Below.refl _ _) _)) (HO4.out.below (bbox (Below.refl _ _) _)) hg5;rw[List.length_append,List.length_singleton];clear hg5)
     refine hK.out _ _ (Blk.cell blks) ?_
     clear hHeld hK K
     intro hHeld
     try simp only[Act.put,zA,zB,zC,zD,zE,zF]
     refine tk 6 ?_ rfl (fun w hSw=>?_) hHeld ?_
     rotate_left
     ·((try dsimp only at hSw);go_split_ands;go_simp;(try with_reducible rfl))
     try simp only[Act.put,zA,zB,zC,zD,zE,zF]
     (replace qka5:=ka5.cell;replace rka5:=ka5.frozen;replace lka5:=ka5.lt)
     refine rdc 7 rfl fun K hK=>?_
     go_simp
     refine hK.out _ _ (Blk.cell blks) (fun hHeld=>?_)
     clear hK K
     refine wpAnyH_done (by kernel_rfl) ?_ _
     unfold lastQ
     go_simp
     refine NoPanic.normal ?_
     have hF5:Fr g w w5:=(HF4.out.alloc _).goB hB5 (Nat.le_refl _)
     have hR5:Rdr w5 g (q'+3):=(HR4.out.below (bbox (Below.refl _ _) _)).belowB hB5 hlt
     go_wp2_with fail
     go_round
     case rel=>exact ⟨k - 1,xs++[x],A',c',q'+3,by go_num,by simp;omega,by rw[List.length_append,List.length_singleton] at o5 ⊢;exact o5.setT ka5 (by decide) 1 _,(fun f hf=>by
      rcases List.mem_append.1 hf with hf|hf
      ·exact HX.out f hf
      ·rw[List.mem_singleton.1 hf];exact HX4.out),of5.setT ka5 (by decide) 1 _,kr5.far (by simp) _,by simpa using ka5.set_ 1 (.slice A' (xs.length+1) c'),hR5.set_ (by simp only;omega) _,by omega,hF5.set_ (Or.inr (by simp only;omega)) _⟩
     case measure=>simp[intOf];omega
    ·obtain rfl:k=0:=by omega
     (replace qka:=ka.cell;replace rka:=ka.frozen;replace lka:=ka.lt;replace qkr:=kr.cell;replace rkr:=kr.frozen;replace lkr:=kr.lt)
     have hne:w.heap.size≠w.heap.size+1:=by omega
     have HVAL:Hid ((⟨fs,xs⟩:Asn).valid=true):=by
      show _=_
      simp only[Asn.valid,factsValid,Bool.and_eq_true,decide_eq_true_eq,List.all_eq_true]
      exact ⟨⟨by omega,HV.out⟩,by omega,HX.out⟩
     go_wp2_with fail
     refine bodyPost_ret (v:=.agg #[.slice A fs.length c,.slice B xs.length d]) (by simp[results,Tryz.results75,go_sem,qkr]) rfl ⟨_,⟨fs,xs⟩,q',rfl,⟨_,_,rfl,?_,?_⟩,HVAL.out,by simp only;omega,by simp only;omega,?_,by omega,?_⟩
     ·exact (HOF.out.setT kr (by decide) 0 _).setT (kr.set_ 0 _) (by decide) 1 _
     ·exact (HO.out.setT kr (by decide) 0 _).setT (kr.set_ 0 _) (by decide) 1 _
     ·exact (HRR.out.set_ (by simp only;omega) _).set_ (by simp only;omega) _
     ·exact (HF.out.set_ (Or.inr (by simp only;omega)) _).set_ (Or.inr (by simp only;omega)) _
end Go.Proofs.YtjbboklnegfohaaGreatDoor
