/- Programs: what is gathered over all commands. Plain. -/
import Derived.Test.YtjbboklnegfohaaGreatDoorMPrgM
import Derived.Test.YtjbboklnegfohaaGreatDoorTidyI
import Derived.Test.YtjbboklnegfohaaGreatDoorMFmtP
import Derived.Test.YtjbboklnegfohaaGreatDoorMPrgB
import Derived.Test.YtjbboklnegfohaaGreatDoorMPrsQ
import Derived.Test.YtjbboklnegfohaaGreatDoorMDrawR
set_option linter.unusedSimpArgs false
set_option linter.unusedVariables false
namespace Go.Proofs.YtjbboklnegfohaaGreatDoor
open Go Go.RowKit Go.Proofs
section
variable {w w':World} {lo hi:Nat}
theorem CmsAt.keep (hk:∀ b,lo≤b→b<hi→w'.heap[b]? = w.heap[b]?):∀ {L:Cms} {bl o:Nat},lo≤bl→bl<hi→CmsAt w lo hi L bl o→CmsAt w' lo hi L bl o
 | .nil,_,_,_,_,_=>trivial
 | .cons k a b t i body els r,bl,o,e1,e2,h=>by
  obtain ⟨⟨h0,h1,h2,h3,h4,h5⟩,⟨A6,c6,h6,g6⟩,⟨A7,c7,h7,g7⟩,⟨A8,c8,h8,g8⟩,⟨A9,c9,h9,g9⟩,hr⟩:=h
  have hc:∀ j,w'.cell? ⟨bl,j,none⟩=w.cell? ⟨bl,j,none⟩:=fun j=>World.cell?_of_block (a:=⟨bl,j,none⟩) (hk bl e1 e2)
  refine ⟨⟨(hc _).trans h0,(hc _).trans h1,(hc _).trans h2,(hc _).trans h3,(hc _).trans h4,(hc _).trans h5⟩,⟨A6,c6,(hc _).trans h6,g6.keep hk⟩,⟨A7,c7,(hc _).trans h7,g7.keep hk⟩,⟨A8,c8,(hc _).trans h8,fun hl=>?_⟩,⟨A9,c9,(hc _).trans h9,fun hl=>?_⟩,CmsAt.keep hk e1 e2 hr⟩
  ·obtain ⟨b',o',e,p1,p2,p3⟩:=g8 hl;exact ⟨b',o',e,p1,p2,CmsAt.keep hk p1 p2 p3⟩
  ·obtain ⟨b',o',e,p1,p2,p3⟩:=g9 hl;exact ⟨b',o',e,p1,p2,CmsAt.keep hk p1 p2 p3⟩
theorem CmsV.keep {A:Option Addr} {L:Cms} (h:CmsV w lo hi A L) (hk:∀ b,lo≤b→b<hi→w'.heap[b]? = w.heap[b]?):CmsV w' lo hi A L:=fun hl=>by
 obtain ⟨b,o,e,p1,p2,p3⟩:=h hl;exact ⟨b,o,e,p1,p2,p3.keep hk p1 p2⟩
end
end Go.Proofs.YtjbboklnegfohaaGreatDoor

/- What the reader draws: programs out of texts. -/
namespace Go.Proofs.YtjbboklnegfohaaGreatDoor
open Go Go.RowKit Go.Proofs
theorem c_of {lo hi:Nat} (g p:Nat) (A:Option Addr) (c:Nat) (xs:List Bs) (w:World) (h:Rdr w g p) (hp:p≤1000000) (hx:StrsV w lo hi A xs) (hg:g<lo∨hi≤g) (hn:0<xs.length) :
  Calls Tryz.prog 43 #[.pointer (some ⟨g,0,none⟩),.slice A xs.length c] w fun e w'=>∃ m∈xs,e=.returned (sv m)∧Rdr w' g (p+1)∧Fr g w w':=by
 have H:=Lib.hid h
 have HX:=Lib.hid hx
 clear h hx
 go_enter Tryz.func43,Tryz.ntmps43
 go_wp2_with fail
 refine (c_pick g p _ _ H.out hp).mono ?_
 rintro e w1 ⟨m,rfl,hm,hR,hF⟩
 have hlt:m<xs.length:=by omega
 obtain ⟨b,o,rfl,c0⟩:=StrsV.at (Rd.fr HX.out hF hg) hlt
 have hmi:(m:Int)<(xs.length:Int):=by omega
 have HRF:=Lib.hid (And.intro hR hF)
 have hmem:=Lib.hid (List.getElem_mem hlt)
 obtain ⟨x,hxx⟩:∃ x,x=xs[m]:=⟨_,rfl⟩
 rw[←hxx] at c0 hmem
 clear hm hR hF hxx
 go_wp2_with fail
 go_ret
 exact ⟨x,hmem.out,rfl,HRF.out.1,HRF.out.2⟩
end Go.Proofs.YtjbboklnegfohaaGreatDoor

/- What is drawn: texts of programs (spec.l1Bend, DrawParseProgram, DrawFormatProgram). -/
namespace Go.Proofs.YtjbboklnegfohaaGreatDoor
open Go Go.RowKit Go.Proofs
set_option maxRecDepth 100000 in
set_option maxHeartbeats 6400000 in
theorem c_l1Bend {lo hi:Nat} (g p:Nat) (s:Bs) (A:Option Addr) (c:Nat) (xs:List Bs) (w:World) (h:Rdr w g p) (hp:p≤900000) (hs:s.length≤5000) (hx:StrsV w lo hi A xs) (hg:g<lo∨hi≤g) (hn:0<xs.length) (hl:∀ u∈xs,u.length≤10) :
  Calls Tryz.prog 22 #[.pointer (some ⟨g,0,none⟩),sv s,.slice A xs.length c] w fun e w'=>∃ t:Bs,t.length≤5100∧e=.returned (sv t)∧Fr g w w':=by
 have H:=Lib.hid h
 have HX:=Lib.hid hx
 replace hl:=Lib.hid hl
 clear h hx
 go_enter Tryz.func22,Tryz.ntmps22
 by_cases h0:s.length=0
 ·have hi0:(((s.length:Nat):Int) == 0)=true:=by rw[h0];rfl
  replace h0:=Lib.hid h0
  go_wp2_with fail
  go_ret
  exact ⟨s,by omega,rfl,Fr.refl _ _⟩
 ·have hi0:(((s.length:Nat):Int) == 0)=false:=by rw[beq_eq_false_iff_ne];omega
  have hls:0<s.length:=by omega
  replace h0:=Lib.hid h0
  go_wp2_with fail
  refine (c_pick g p 2 _ H.out (by omega)).mono ?_
  rintro e w1 ⟨m,rfl,hm,hR,hF⟩
  have HF1:=Lib.hid hF
  have HR1:=Lib.hid hR
  have HX1:=Lib.hid (Rd.fr HX.out hF hg)
  clear hR hF H HX
  by_cases hm0:m=0
  ·subst hm0
   go_wp2_with fail
   go_ret
   exact ⟨s,by omega,rfl,HF1.out⟩
  ·have hmi:(((m:Nat):Int) == 0)=false:=by rw[beq_eq_false_iff_ne];omega
   replace hm0:=Lib.hid hm0
   go_wp2_with fail
   refine (c_pick g (p+1) _ _ HR1.out (by omega)).mono ?_
   rintro e w2 ⟨k,rfl,hk,hR,hF⟩
   have hkl:k<s.length:=by omega
   have HF2:=Lib.hid (HF1.out.trans hF)
   have HR2:=Lib.hid hR
   have HX2:=Lib.hid (Rd.fr HX1.out hF hg)
   clear hR hF HR1 HX1 HF1 hk
   have sl1:=fun W:World=>sliceH s k k rfl (by omega) W
   go_upto_region 4 with fail
   refine wp_region_noPanic ?_
   refine wp_region_held_drew (S:=(fun w'=>True)) (by kernel_rfl) (trivial) (fun hHeld=>?_)
   refine tk 0 ?_ rfl (fun w hSw=>?_) hHeld ?_
   rotate_left
   ·((try dsimp only at hSw);go_split_ands;go_simp;(try with_reducible rfl))
   try simp only[Act.put,zA,zB,zC,zD,zE,zF]
   refine tk 1 ?_ rfl (fun w hSw=>?_) hHeld ?_
   rotate_left
   ·((try dsimp only at hSw);go_split_ands;go_simp;(try with_reducible rfl))
   try simp only[Act.put,zA,zB,zC,zD,zE,zF]
   refine tk 2 ?_ rfl (fun w hSw=>?_) hHeld ?_
   rotate_left
   ·((try dsimp only at hSw);go_split_ands;go_simp;(try with_reducible rfl))
   try simp only[Act.put,zA,zB,zC,zD,zE,zF]
   refine tk 3 ?_ rfl (fun w hSw=>?_) hHeld ?_
   rotate_left
   ·((try dsimp only at hSw);go_split_ands;go_simp;(try with_reducible rfl))
   try simp only[Act.put,zA,zB,zC,zD,zE,zF]
   refine tk 4 ?_ rfl (fun w hSw=>?_) hHeld ?_
   rotate_left
   ·((try dsimp only at hSw);go_split_ands;go_simp;(try with_reducible rfl))
   try simp only[Act.put,zA,zB,zC,zD,zE,zF]
   refine tk 7 ?_ rfl (fun w hSw=>?_) hHeld ?_
   rotate_left
   ·((try dsimp only at hSw);go_split_ands;go_simp;(try with_reducible rfl))
   try simp only[Act.put,zA,zB,zC,zD,zE,zF]
   refine tk 8 ?_ rfl (fun w hSw=>?_) hHeld ?_
   rotate_left
   ·((try dsimp only at hSw);go_split_ands;go_simp;(try with_reducible rfl))
   try simp only[Act.put,zA,zB,zC,zD,zE,zF]
   refine tk 9 ?_ rfl (fun w hSw=>?_) hHeld ?_
   rotate_left
   ·((try dsimp only at hSw);go_split_ands;go_simp;(try with_reducible rfl))
   try simp only[Act.put,zA,zB,zC,zD,zE,zF]
   refine rdc 5 rfl fun K hK=>?_
   try simp only[zA,zB,zC]
   (go_simp;refine (c_of g (p+1+1) A c xs _ (HR2.out.below (Below.refl _ _).drew) (by omega) (HX2.out.below (Below.refl _ _).drew) hg hn).mono ?_;rintro e w3 ⟨u,hu,rfl,hR3,hF3⟩;have hul:=hl.out u hu;obtain ⟨S1,e1,n1⟩:=addO (P:=Tryz.prog) (s.take k) u (by simp;omega);have l1:S1.length≤k+10:=(by rw[e1.out,List.length_append,List.length_take];omega))
   refine hK.out _ _ (trivial) ?_
   clear hHeld hK K
   intro hHeld
   try simp only[Act.put,zA,zB,zC,zD,zE,zF]
   refine tk 6 ?_ rfl (fun w hSw=>?_) hHeld ?_
   rotate_left
   ·((try dsimp only at hSw);go_split_ands;go_simp;(try with_reducible rfl))
   try simp only[Act.put,zA,zB,zC,zD,zE,zF]
   refine rdc 10 rfl fun K hK=>?_
   try simp only[zA,zB,zC]
   (go_simp;refine (c_pick g (p+1+1+1) 2 _ hR3 (by omega)).mono ?_;rintro e w4 ⟨q,rfl,hq,hR4,hF4⟩;obtain ⟨z,hz⟩:∃ z,z=k+q:=⟨_,rfl⟩;have hzl:z≤s.length:=(by omega);have hkq:(k:Int)+(q:Int)=(z:Int):=(by omega);have hwz:IntKind.i64.wrap (z:Int)=z:=IntWalk.i64_in _ (by omega);have sl2:=fun W:World=>sliceL s z z rfl hzl W;obtain ⟨S2,e2,n2⟩:=addO (P:=Tryz.prog) S1 (s.drop z) (by simp;omega);have l2:S2.length≤5100:=(by rw[e2.out,List.length_append,List.length_drop];omega);replace hz:=Lib.hid hz;replace hq:=Lib.hid hq)
   refine hK.out _ _ (trivial) ?_
   clear hHeld hK K
   intro hHeld
   try simp only[Act.put,zA,zB,zC,zD,zE,zF]
   refine tk 11 ?_ rfl (fun w hSw=>?_) hHeld ?_
   rotate_left
   ·((try dsimp only at hSw);go_split_ands;go_simp;(try with_reducible rfl))
   try simp only[Act.put,zA,zB,zC,zD,zE,zF]
   refine tk 12 ?_ rfl (fun w hSw=>?_) hHeld ?_
   rotate_left
   ·((try dsimp only at hSw);go_split_ands;go_simp;(try with_reducible rfl))
   try simp only[Act.put,zA,zB,zC,zD,zE,zF]
   refine tk 13 ?_ rfl (fun w hSw=>?_) hHeld ?_
   rotate_left
   ·((try dsimp only at hSw);go_split_ands;go_simp;(try with_reducible rfl))
   try simp only[Act.put,zA,zB,zC,zD,zE,zF]
   refine tk 14 ?_ rfl (fun w hSw=>?_) hHeld ?_
   rotate_left
   ·((try dsimp only at hSw);go_split_ands;go_simp;(try with_reducible rfl))
   try simp only[Act.put,zA,zB,zC,zD,zE,zF]
   refine wpAnyH_done (by kernel_rfl) ?_ _
   refine NoPanic.normal ?_
   go_wp2_with fail
   go_ret
   exact ⟨S2,l2,rfl,HF2.out.drew.trans (hF3.trans hF4)⟩
set_option maxRecDepth 100000 in
set_option maxHeartbeats 6400000 in
theorem c_DrawParse (A:Option Addr) (n c:Nat) (w:World) (h:BytesR w A n c) :
  Calls Tryz.prog 11 #[.slice A n c] w fun e w'=>∃ t:Bs,t.length≤5100∧e=.returned (sv t)∧Below w.heap.size w w':=by
 have HR0:=Lib.hid h
 clear h
 go_enter Tryz.func11,Tryz.ntmps11
 go_wp2_with fail
 refine (c_l18Open A n c _ HR0.out).mono ?_
 rintro e w1 ⟨g,rfl,hg,hR,hB1⟩
 have HB1:=Lib.hid hB1
 have HR1:=Lib.hid hR
 have lg:=hR.lt
 have z1:=hB1.size
 clear hR hB1 HR0
 go_wp2_with fail
 refine (c_l8Program g 0 _ HR1.out (by omega)).mono ?_
 rintro e w2 ⟨A2,c2,L,q,rfl,hV,hL1,hLS,hR,hq,hF⟩
 have HF2:=Lib.hid hF
 have HR2:=Lib.hid hR
 have HV2:=Lib.hid hV
 have z2:=hF.size
 have hsz:=Cms.sz_cost L
 clear hR hF HR1 hV
 go_wp2_with fail
 refine (c_FormatProgram L A2 c2 w2 HV2.out (by omega) (Cms.cost_small (by omega)) (by omega)).mono ?_
 rintro e w3 ⟨rfl,hB3⟩
 have HF3:=Lib.hid (HF2.out.go hB3)
 have HR3:=Lib.hid (HR2.out.below hB3)
 have z3:=hB3.size
 have hfl:=fmtP_len L
 obtain ⟨s,hs⟩:∃ s,s=fmtP L:=⟨_,rfl⟩
 rw[←hs] at hfl ⊢
 clear hB3 HF2 HR2 HV2 hs
 have hxs:Hid (∀ (W:World),Blk W w3.heap.size tS #[.string ⟨#[]⟩,.string ⟨#[32]⟩,.string ⟨#[10]⟩,.string ⟨#[91]⟩,.string ⟨#[93]⟩,.string ⟨#[97]⟩,.string ⟨#[58,61]⟩,.string ⟨#[101,110,100]⟩]→StrsV W w3.heap.size (w3.heap.size+1) (some ⟨w3.heap.size,0,none⟩) [[],[32],[10],[91],[93],[97],[58,61],[101,110,100]]):=Lib.hid fun W hk=>⟨⟨by simp[encS],fun _=>⟨w3.heap.size,0,rfl,Nat.le_refl _,Nat.lt_succ_self _,fun j u hu=>by
  rw[Nat.zero_add,hk.cell]
  simpa[encS] using hu⟩⟩,by simp[Lim]⟩
 go_wp2_with fail
 refine (c_l1Bend (lo:=w3.heap.size) (hi:=w3.heap.size+1) g q s (some ⟨w3.heap.size,0,none⟩) 8 [[],[32],[10],[91],[93],[97],[58,61],[101,110,100]] _ (HR3.out.below bel) (by omega) (by omega) (hxs.out _ (Blk.new _ _ _)) (Or.inl (by omega)) (by simp) (by decide)).mono ?_
 rintro e w4 ⟨t,htl,rfl,hF4⟩
 have HF4:=Lib.hid ((HF3.out.alloc _).trans hF4)
 go_wp2_with fail
 go_ret
 exact ⟨t,htl,rfl,HB1.out.trans (HF4.out.below (by omega) (by omega))⟩
set_option maxRecDepth 100000 in
set_option maxHeartbeats 6400000 in
theorem c_DrawFormat (A:Option Addr) (n c:Nat) (w:World) (h:BytesR w A n c) :
  Calls Tryz.prog 4 #[.slice A n c] w fun e w'=>∃ A' c' L,e=.returned (.slice A' L.len c')∧CmsV w' w.heap.size w'.heap.size A' L∧L.len+L.cost≤1000∧Below w.heap.size w w':=by
 have HR0:=Lib.hid h
 clear h
 go_enter Tryz.func4,Tryz.ntmps4
 go_wp2_with fail
 refine (c_DrawProgram A n c _ HR0.out).mono ?_
 rintro e w1 ⟨A3,c3,M,rfl,hV,hLS3,hB,hcap⟩
 go_wp2_with fail
 go_ret
 exact ⟨A3,c3,M,rfl,hV,hLS3,hB⟩
end Go.Proofs.YtjbboklnegfohaaGreatDoor

/- Tidying: impl's replacement in place. -/
namespace Go.Proofs.YtjbboklnegfohaaGreatDoor
open Go Go.RowKit Go.Proofs
attribute [local go_sem ↓] Go.wp_at_zero Go.wp_at_succ
end Go.Proofs.YtjbboklnegfohaaGreatDoor
