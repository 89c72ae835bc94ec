/- 'laws.FnExactCallPost' returns true for all arguments that can be read. -/
import Derived.Test.YtjjokmlmknllhaaGreatMCmdA
import Derived.Test.YtjjokmlmknllhaaGreatMCallS
import Derived.Deep.RegionHeld3
import Derived.Deep.DrawnRows
set_option linter.unusedSimpArgs false
set_option linter.unusedVariables false
namespace Go.Proofs.YtjjokmlmknllhaaGreat
open Go Go.RowKit Go.Proofs
attribute [local go_sem ↓] Go.wp_at_zero Go.wp_at_succ
theorem CtrI.lower {w:World} {lo base' hi:Nat} {v:Value} {k:Ctr} (h:CtrI w lo hi v k) (hb:base'≤lo):CtrI w base' hi v k:=by
 obtain ⟨a1,a2,a3,a4,iv,l1,h1,l2,h2,e,p1,p2,p3,q⟩:=h
 exact ⟨a1,a2,a3,a4,iv,l1,h1,l2,h2,e,p1,p2,⟨p3.1.lower hb,p3.2⟩,by omega⟩
theorem CtrI.setT {w:World} {lo hi:Nat} {v:Value} {k:Ctr} (h:CtrI w lo hi v k) {g:Nat} {t:TypeId} {cs:Array Value} (hk:Blk w g t cs) (h1:t≠tF) (h2:t≠tA) (h3:t≠tI) (i:Nat) (u:Value):CtrI (w.setCell ⟨g,i,none⟩ u) lo hi v k:=by
 obtain ⟨a1,a2,a3,a4,iv,l1,hh1,l2,hh2,e,p1,p2,p3,q⟩:=h
 exact ⟨a1,a2,a3,a4,iv,l1,hh1,l2,hh2,e,p1.setT hk h1 h2 i u,p2.setT hk h1 h2 i u,p3.setT hk h3 i u,by rw[World.size_setCell];exact q⟩
set_option maxRecDepth 100000 in
set_option maxHeartbeats 25600000 in
theorem c_FnExactCallPost (v0:Value) (a0:Asn) (v1:Value) (a1:Ctr) (v2:Value) (a2:List Int) (w:World) (h0:AsnR w v0 a0) (h1:CtrR w v1 a1) (h2:∃ A c,v2=.slice A a2.length c∧IntsR w A a2):Calls Tryz.prog 3 #[v0,v1,v2] w fun e w'=>e=.returned (.bool true)∧Below w.heap.size w w':=by
 obtain ⟨A0,c0,B0,d0,rfl,r0a,r0b⟩:=h0
 obtain ⟨A1,c1,B1,d1,E1,e1,F1,f1,G1,g1,rfl,r1a,r1b,r1c,r1d,r1e⟩:=h1
 obtain ⟨A2,c2,rfl,r2a⟩:=h2
 by_cases hn2:1048576<a2.length
 ·have hnl2:=r2a.2
  go_enter Tryz.func3,Tryz.ntmps3
  go_wp2_with fail
  go_ret
  exact ⟨rfl,bel⟩
 have hnl2:a2.length≤1048576:=by omega
 clear hn2
 by_cases hs0:szA a0 1048576<0
 ·go_enter Tryz.func3,Tryz.ntmps3
  go_wp2_with fail
  refine (c_szAssertion _ _ _ _ a0 1048576 _ r0a.2 r0b.2 (by omega) (by omega)).mono ?_;rintro e ws0 ⟨rfl,hB0⟩
  have hB:=bgo (w:=w) bel hB0
  have p0:=Blk.next (g:=w.heap.size) (t:=25) (cs:=#[.slice A0 a0.facts.length c0,.slice B0 a0.atoms.length d0]) blks hB0
  have p1:=Blk.next (g:=w.heap.size+1) (t:=28) (cs:=#[.slice A1 a1.pre.facts.length c1,.slice B1 a1.pre.atoms.length d1,.slice E1 a1.post.facts.length e1,.slice F1 a1.post.atoms.length f1,.slice G1 a1.changes.length g1]) blks hB0
  (replace qp0:=p0.cell;replace rp0:=p0.frozen;replace lp0:=p0.lt)
  (replace qp1:=p1.cell;replace rp1:=p1.frozen;replace lp1:=p1.lt)
  go_wp2_with fail
  go_ret
  exact ⟨rfl,bel⟩
 have hz0:=szA_le hs0
 by_cases hs1:szC a1 (szA a0 1048576)<0
 ·have HZ0:=Lib.hid hz0;clear hz0
  go_enter Tryz.func3,Tryz.ntmps3
  go_wp2_with fail
  refine (c_szAssertion _ _ _ _ a0 1048576 _ r0a.2 r0b.2 (by have:=HZ0.out;omega) (by have:=HZ0.out;omega)).mono ?_;rintro e ws0 ⟨rfl,hB0⟩
  have hB:=bgo (w:=w) bel hB0
  have p0:=Blk.next (g:=w.heap.size) (t:=25) (cs:=#[.slice A0 a0.facts.length c0,.slice B0 a0.atoms.length d0]) blks hB0
  have p1:=Blk.next (g:=w.heap.size+1) (t:=28) (cs:=#[.slice A1 a1.pre.facts.length c1,.slice B1 a1.pre.atoms.length d1,.slice E1 a1.post.facts.length e1,.slice F1 a1.post.atoms.length f1,.slice G1 a1.changes.length g1]) blks hB0
  (replace qp0:=p0.cell;replace rp0:=p0.frozen;replace lp0:=p0.lt)
  (replace qp1:=p1.cell;replace rp1:=p1.frozen;replace lp1:=p1.lt)
  go_wp2_with fail
  refine (c_szContract _ a1 (szA a0 1048576) _ ⟨A1,c1,B1,d1,E1,e1,F1,f1,G1,g1,rfl,r1a,r1b,r1c,r1d,r1e⟩ (by have:=HZ0.out;omega) (by have:=HZ0.out;omega)).mono ?_;rintro e ws1 ⟨rfl,hB1⟩
  replace hB:=bgo hB hB1
  replace p0:=p0.next hB1
  replace p1:=p1.next hB1
  (replace qp0:=p0.cell;replace rp0:=p0.frozen;replace lp0:=p0.lt)
  (replace qp1:=p1.cell;replace rp1:=p1.frozen;replace lp1:=p1.lt)
  go_wp2_with fail
  go_ret
  exact ⟨rfl,bel⟩
 have hz1:=szC_le hs1
 have hlen:a0.facts.length≤1048576∧a0.atoms.length≤1048576∧a1.pre.facts.length≤1048576∧a1.pre.atoms.length≤1048576∧a1.post.facts.length≤1048576∧a1.post.atoms.length≤1048576∧a1.changes.length≤1048576:=by omega
 have HZ0:Hid (0≤(szA a0 1048576)∧(szA a0 1048576)≤1048576):=⟨by omega,by omega⟩
 clear hz0
 clear hz1
 obtain ⟨hL0,hL1,hL2,hL3,hL4,hL5,hL6⟩:=hlen
 have hV0:Hid (AsnV w 0 w.heap.size (.agg #[.slice A0 a0.facts.length c0,.slice B0 a0.atoms.length d0]) a0):=⟨_,_,_,_,rfl,r0a.toV (by omega),r0b.toV (by omega)⟩
 have hV1:Hid (CtrV w 0 w.heap.size (.agg #[.slice A1 a1.pre.facts.length c1,.slice B1 a1.pre.atoms.length d1,.slice E1 a1.post.facts.length e1,.slice F1 a1.post.atoms.length f1,.slice G1 a1.changes.length g1]) a1):=⟨_,_,_,_,_,_,rfl,⟨_,_,_,_,rfl,r1a.toV (by omega),r1b.toV (by omega)⟩,⟨_,_,_,_,rfl,r1c.toV (by omega),r1d.toV (by omega)⟩,r1e.toV (by omega)⟩
 have hV2:Hid (IntsV w 0 w.heap.size A2 a2):=r2a.toV (by omega)
 go_enter Tryz.func3,Tryz.ntmps3
 go_wp2_with fail
 refine (c_szAssertion _ _ _ _ a0 1048576 _ r0a.2 r0b.2 (by have:=HZ0.out;omega) (by have:=HZ0.out;omega)).mono ?_;rintro e ws0 ⟨rfl,hB0⟩
 have hB:=bgo (w:=w) bel hB0
 have p0:=Blk.next (g:=w.heap.size) (t:=25) (cs:=#[.slice A0 a0.facts.length c0,.slice B0 a0.atoms.length d0]) blks hB0
 have p1:=Blk.next (g:=w.heap.size+1) (t:=28) (cs:=#[.slice A1 a1.pre.facts.length c1,.slice B1 a1.pre.atoms.length d1,.slice E1 a1.post.facts.length e1,.slice F1 a1.post.atoms.length f1,.slice G1 a1.changes.length g1]) blks hB0
 (replace qp0:=p0.cell;replace rp0:=p0.frozen;replace lp0:=p0.lt)
 (replace qp1:=p1.cell;replace rp1:=p1.frozen;replace lp1:=p1.lt)
 go_wp2_with fail
 refine (c_szContract _ a1 (szA a0 1048576) _ ⟨A1,c1,B1,d1,E1,e1,F1,f1,G1,g1,rfl,r1a,r1b,r1c,r1d,r1e⟩ (by have:=HZ0.out;omega) (by have:=HZ0.out;omega)).mono ?_;rintro e ws1 ⟨rfl,hB1⟩
 replace hB:=bgo hB hB1
 replace p0:=p0.next hB1
 replace p1:=p1.next hB1
 (replace qp0:=p0.cell;replace rp0:=p0.frozen;replace lp0:=p0.lt)
 (replace qp1:=p1.cell;replace rp1:=p1.frozen;replace lp1:=p1.lt)
 have zs:=hB.size
 have zb0:=p0.lt
 have zb1:=p1.lt
 clear hB0 hB1
 clear r0a r0b
 clear r1a r1b r1c r1d r1e
 clear r2a
 obtain ⟨D,hD⟩:∃ D,((callF a0 a1 a2).getD ⟨[],[]⟩)=D:=⟨_,rfl⟩
 have HD:=Lib.hid hD
 clear hD
 obtain ⟨sb,hsb⟩:∃ b,(callF a0 a1 a2).isSome=b:=⟨_,rfl⟩
 have HSB:=Lib.hid hsb
 clear hsb
 go_wp2_with fail
 apply Merge
 rotate_left
 intro key
 refine wp_region_noPanic ?_
 refine wp_region_held_drew (S:=(fun w'=>(∀ i,w'.cell? ⟨w.heap.size,i,none⟩=#[.slice A0 a0.facts.length c0,.slice B0 a0.atoms.length d0][i]?)∧(∀ i,w'.cell? ⟨w.heap.size+1,i,none⟩=#[.slice A1 a1.pre.facts.length c1,.slice B1 a1.pre.atoms.length d1,.slice E1 a1.post.facts.length e1,.slice F1 a1.post.atoms.length f1,.slice G1 a1.changes.length g1][i]?))) (by kernel_rfl) (⟨Blk.cell blks,Blk.cell blks⟩) (fun hHeld=>?_)
 refine tk 0 ?_ rfl (fun w hSw=>?_) hHeld ?_
 rotate_left
 ·((try dsimp only at hSw);go_split_ands;go_simp;(try with_reducible rfl))
 try simp only[Act.put,zA,zB,zC,zD,zE,zF]
 refine tk 2 ?_ rfl (fun w hSw=>?_) hHeld ?_
 rotate_left
 ·((try dsimp only at hSw);go_split_ands;go_simp;(try with_reducible rfl))
 try simp only[Act.put,zA,zB,zC,zD,zE,zF]
 refine tk 4 ?_ rfl (fun w hSw=>?_) hHeld ?_
 rotate_left
 ·((try dsimp only at hSw);go_split_ands;go_simp;(try with_reducible rfl))
 try simp only[Act.put,zA,zB,zC,zD,zE,zF]
 refine wpAnyH_ready (rs:=[1,10]) (by kernel_rfl) (by simp) ?_
 refine AllReadyH.cons rfl (fun K hK=>?_) (AllReadyH.cons rfl (fun K hK=>?_) AllReadyH.nil)
 ·skip
  try simp only[List.getElem_toArray,List.getElem_cons_zero,List.getElem_cons_succ]
  (go_simp;refine (to_asn _ a0 _ (hV0.out.below bel)).mono ?_;rintro e us0 ⟨ys0,rfl,os0,hBx⟩;have zus0:ws1.heap.size≤us0.heap.size:=(by have:=hBx.size;simpa using this);have hS:=bgo (w:=ws1) bel hBx;replace hB:=bgo hB hS;replace p0:=p0.next hS;replace p1:=p1.next hS;clear hS hBx)
  refine hK.out _ _ (⟨Blk.cell blks,Blk.cell blks⟩) (fun hHeldN=>?_)
  clear hHeld hK K
  have hHeld:=hHeldN
  clear hHeldN
  try simp only[Act.put,List.getElem_toArray,List.getElem_cons_zero,List.getElem_cons_succ,List.setIfInBounds_toArray,List.set_cons_zero,List.set_cons_succ]
  refine wpAnyH_ready (rs:=[3,10]) (by kernel_rfl) (by simp) ?_
  refine AllReadyH.cons rfl (fun K hK=>?_) (AllReadyH.cons rfl (fun K hK=>?_) AllReadyH.nil)
  ·skip
   try simp only[List.getElem_toArray,List.getElem_cons_zero,List.getElem_cons_succ]
   (go_simp;refine (to_ctr _ a1 _ (hV1.out.below bel)).mono ?_;rintro e us1 ⟨ys1,rfl,os1,hBx⟩;have zus1:us0.heap.size≤us1.heap.size:=(by have:=hBx.size;simpa using this);have hS:=bgo (w:=us0) bel hBx;replace hB:=bgo hB hS;replace p0:=p0.next hS;replace p1:=p1.next hS;replace os0:=os0.below hS;clear hS hBx)
   refine hK.out _ _ (⟨Blk.cell blks,Blk.cell blks⟩) (fun hHeldN=>?_)
   clear hHeld hK K
   have hHeld:=hHeldN
   clear hHeldN
   try simp only[Act.put,List.getElem_toArray,List.getElem_cons_zero,List.getElem_cons_succ,List.setIfInBounds_toArray,List.set_cons_zero,List.set_cons_succ]
   refine wpAnyH_ready (rs:=[5,10]) (by kernel_rfl) (by simp) ?_
   refine AllReadyH.cons rfl (fun K hK=>?_) (AllReadyH.cons rfl (fun K hK=>?_) AllReadyH.nil)
   ·skip
    try simp only[List.getElem_toArray,List.getElem_cons_zero,List.getElem_cons_succ]
    (go_simp;refine (to_ints _ _ a2 _ (hV2.out.below bel)).mono ?_;rintro e us2 ⟨ys2,rfl,os2,hBx⟩;have zus2:us1.heap.size≤us2.heap.size:=(by have:=hBx.size;simpa using this);have hS:=bgo (w:=us1) bel hBx;replace hB:=bgo hB hS;replace p0:=p0.next hS;replace p1:=p1.next hS;replace os0:=os0.below hS;replace os1:=os1.below hS;clear hS hBx);obtain ⟨Ks2,es2,rfl⟩:=os2.form
    refine hK.out _ _ (⟨Blk.cell blks,Blk.cell blks⟩) (fun hHeldN=>?_)
    clear hHeld hK K
    have hHeld:=hHeldN
    clear hHeldN
    try simp only[Act.put,List.getElem_toArray,List.getElem_cons_zero,List.getElem_cons_succ,List.setIfInBounds_toArray,List.set_cons_zero,List.set_cons_succ]
    refine wpAnyH_ready (rs:=[6,10]) (by kernel_rfl) (by simp) ?_
    refine AllReadyH.cons rfl (fun K hK=>?_) (AllReadyH.cons rfl (fun K hK=>?_) AllReadyH.nil)
    ·skip
     try simp only[List.getElem_toArray,List.getElem_cons_zero,List.getElem_cons_succ]
     (go_simp;refine (c_spec_CallPost _ _ a0 a1 _ _ a2 _ (os0.below bel).reads (Nat.le_refl _) (os1.below bel).reads (os2.below bel).reads).mono ?_;rintro e us3 ⟨rz,rfl,oX,hBx⟩;have zus3:us2.heap.size≤us3.heap.size:=(by have:=hBx.size;simpa using this);have hS:=bgo (w:=us2) bel hBx;replace hB:=bgo hB hS;replace p0:=p0.next hS;replace p1:=p1.next hS;replace os0:=os0.below hS;replace os1:=os1.below hS;replace os2:=os2.below hS;have oz:=oX.lower (base':=us2.heap.size) (by (try simp)<;>omega);clear oX;clear hS hBx);rw[HD.out] at oz;rw[HSB.out];replace oz:=oz.I;obtain ⟨Aw,cw,Bw,dw,rfl⟩:=oz.form
     refine hK.out _ _ (⟨Blk.cell blks,Blk.cell blks⟩) (fun hHeldN=>?_)
     clear hHeld hK K
     have hHeld:=hHeldN
     clear hHeldN
     try simp only[Act.put,List.getElem_toArray,List.getElem_cons_zero,List.getElem_cons_succ,List.setIfInBounds_toArray,List.set_cons_zero,List.set_cons_succ]
     refine tk 7 ?_ rfl (fun w hSw=>?_) hHeld ?_
     rotate_left
     ·((try dsimp only at hSw);go_split_ands;go_simp;(try with_reducible rfl))
     try simp only[Act.put,zA,zB,zC,zD,zE,zF]
     refine tk 8 ?_ rfl (fun w hSw=>?_) hHeld ?_
     rotate_left
     ·((try dsimp only at hSw);go_split_ands;go_simp;(try with_reducible rfl))
     try simp only[Act.put,zA,zB,zC,zD,zE,zF]
     refine tk 9 ?_ rfl (fun w hSw=>?_) hHeld ?_
     rotate_left
     ·((try dsimp only at hSw);go_split_ands;go_simp;(try with_reducible rfl))
     try simp only[Act.put,zA,zB,zC,zD,zE,zF]
     refine rdc 10 rfl fun K hK=>?_
     try simp only[zA,zB,zC]
     go_simp
     refine hK.out _ _ (⟨Blk.cell blks,Blk.cell blks⟩) ?_
     clear hHeld hK K
     intro hHeld
     try simp only[Act.put,zA,zB,zC,zD,zE,zF]
     refine rdc 11 rfl fun K hK=>?_
     try simp only[zA,zB,zC]
     go_simp
     refine hK.out _ _ (⟨Blk.cell blks,Blk.cell blks⟩) ?_
     clear hHeld hK K
     intro hHeld
     try simp only[Act.put,zA,zB,zC,zD,zE,zF]
     refine tk 12 ?_ rfl (fun w hSw=>?_) hHeld ?_
     rotate_left
     ·((try dsimp only at hSw);go_split_ands;go_simp;(try with_reducible rfl))
     try simp only[Act.put,zA,zB,zC,zD,zE,zF]
     refine wpAnyH_done (by kernel_rfl) ?_ _
     refine NoPanic.normal ?_
     refine absThen ?_
     intro V hV
     have f0:Below w.heap.size w V:=by rw[hV];exact bel
     have fp0:Blk V (w.heap.size) 25 #[.slice A0 a0.facts.length c0,.slice B0 a0.atoms.length d0]:=by rw[hV];exact blks
     have fp1:Blk V (w.heap.size+1) 28 #[.slice A1 a1.pre.facts.length c1,.slice B1 a1.pre.atoms.length d1,.slice E1 a1.post.facts.length e1,.slice F1 a1.post.atoms.length f1,.slice G1 a1.changes.length g1]:=by rw[hV];exact blks
     have fv:Blk V (us3.heap.size) 34 #[.slice Aw D.facts.length cw,.slice Bw D.atoms.length dw]:=by rw[hV];exact blks
     have goz:=oz.below (bbox (Below.refl us3.heap.size us3) (.cells #[.slice Aw D.facts.length cw,.slice Bw D.atoms.length dw] 34))
     rw[←hV] at goz
     obtain ⟨P,hP⟩:∃ P,P=us3.heap.size:=⟨_,rfl⟩
     have zP:ws1.heap.size≤P:=by omega
     have zV:us3.heap.size≤V.heap.size:=by rw[hV];(try simp)<;>omega
     obtain ⟨lo,hlo⟩:∃ lo,lo=us2.heap.size:=⟨_,rfl⟩
     obtain ⟨hi,hhi⟩:∃ hi,hi=us3.heap.size:=⟨_,rfl⟩
     have zlo:ws1.heap.size≤lo:=by omega
     have zhi:hi≤V.heap.size:=by omega
     have zd:P<lo∨hi≤P:=by omega
     rw[←hlo,←hhi] at goz
     rw[←hP] at fv ⊢
     clear zV hV hP hlo hhi oz os0 os1 os2 zus0 zus1 zus2 zus3 hHeld p0 p1 hB
     revert V P lo hi ys0 ys1 Ks2 es2 Aw cw Bw dw f0 fp0 fp1 fv goz zP zlo zhi zd
     exact key.out
    ·skip
     try simp only[List.getElem_toArray,List.getElem_cons_zero,List.getElem_cons_succ]
     go_simp
     refine hK.out _ _ (⟨Blk.cell blks,Blk.cell blks⟩) (fun hHeldN=>?_)
     clear hHeld hK K
     have hHeld:=hHeldN
     clear hHeldN
     try simp only[Act.put,List.getElem_toArray,List.getElem_cons_zero,List.getElem_cons_succ,List.setIfInBounds_toArray,List.set_cons_zero,List.set_cons_succ]
     refine wpAnyH_ready (rs:=[6]) (by kernel_rfl) (by simp) ?_
     refine AllReadyH.cons rfl (fun K hK=>?_) AllReadyH.nil
     try simp only[List.getElem_toArray,List.getElem_cons_zero,List.getElem_cons_succ]
     (go_simp;refine (c_spec_CallPost _ _ a0 a1 _ _ a2 _ (os0.below bel).reads (Nat.le_refl _) (os1.below bel).reads (os2.below bel).reads).mono ?_;rintro e us3 ⟨rz,rfl,oX,hBx⟩;have zus3:us2.heap.size+1≤us3.heap.size:=(by have:=hBx.size;simpa using this);have hS:=bgo (w:=us2) bel hBx;replace hB:=bgo hB hS;replace p0:=p0.next hS;replace p1:=p1.next hS;replace os0:=os0.below hS;replace os1:=os1.below hS;replace os2:=os2.below hS;have pv:=Blk.next (g:=us2.heap.size) (t:=34) (cs:=#[.slice none 0 0,.slice none 0 0]) blks hBx;(replace qpv:=pv.cell;replace rpv:=pv.frozen;replace lpv:=pv.lt);have oz:=oX.lower (base':=us2.heap.size+1) (by (try simp)<;>omega);clear oX;clear hS hBx);rw[HD.out] at oz;rw[HSB.out];replace oz:=oz.I;obtain ⟨Aw,cw,Bw,dw,rfl⟩:=oz.form
     refine hK.out _ _ (⟨Blk.cell blks,Blk.cell blks⟩) (fun hHeldN=>?_)
     clear hHeld hK K
     have hHeld:=hHeldN
     clear hHeldN
     try simp only[Act.put,List.getElem_toArray,List.getElem_cons_zero,List.getElem_cons_succ,List.setIfInBounds_toArray,List.set_cons_zero,List.set_cons_succ]
     refine tk 7 ?_ rfl (fun w hSw=>?_) hHeld ?_
     rotate_left
     ·((try dsimp only at hSw);go_split_ands;go_simp;(try with_reducible rfl))
     try simp only[Act.put,zA,zB,zC,zD,zE,zF]
     refine tk 8 ?_ rfl (fun w hSw=>?_) hHeld ?_
     rotate_left
     ·((try dsimp only at hSw);go_split_ands;go_simp;(try with_reducible rfl))
     try simp only[Act.put,zA,zB,zC,zD,zE,zF]
     refine tk 9 ?_ rfl (fun w hSw=>?_) hHeld ?_
     rotate_left
     ·((try dsimp only at hSw);go_split_ands;go_simp;(try with_reducible rfl))
     try simp only[Act.put,zA,zB,zC,zD,zE,zF]
     refine rdc 11 rfl fun K hK=>?_
     try simp only[zA,zB,zC]
     go_simp
     refine hK.out _ _ (⟨Blk.cell blks,Blk.cell blks⟩) ?_
     clear hHeld hK K
     intro hHeld
     try simp only[Act.put,zA,zB,zC,zD,zE,zF]
     refine tk 12 ?_ rfl (fun w hSw=>?_) hHeld ?_
     rotate_left
     ·((try dsimp only at hSw);go_split_ands;go_simp;(try with_reducible rfl))
     try simp only[Act.put,zA,zB,zC,zD,zE,zF]
     refine wpAnyH_done (by kernel_rfl) ?_ _
     refine NoPanic.normal ?_
     refine absThen ?_
     intro V hV
     have f0:Below w.heap.size w V:=by rw[hV];exact bel
     have fp0:Blk V (w.heap.size) 25 #[.slice A0 a0.facts.length c0,.slice B0 a0.atoms.length d0]:=by rw[hV];exact blks
     have fp1:Blk V (w.heap.size+1) 28 #[.slice A1 a1.pre.facts.length c1,.slice B1 a1.pre.atoms.length d1,.slice E1 a1.post.facts.length e1,.slice F1 a1.post.atoms.length f1,.slice G1 a1.changes.length g1]:=by rw[hV];exact blks
     have fv:Blk V (us2.heap.size) 34 #[.slice Aw D.facts.length cw,.slice Bw D.atoms.length dw]:=by rw[hV];exact ((pv.set_ 0 _).set_ 1 _)
     have goz:=(((oz).setT pv (by decide) (by decide) 0 (.slice Aw D.facts.length cw)).setT (pv.set_ 0 _) (by decide) (by decide) 1 (.slice Bw D.atoms.length dw))
     rw[←hV] at goz
     obtain ⟨P,hP⟩:∃ P,P=us2.heap.size:=⟨_,rfl⟩
     have zP:ws1.heap.size≤P:=by omega
     have zV:us3.heap.size≤V.heap.size:=by rw[hV];(try simp)<;>omega
     obtain ⟨lo,hlo⟩:∃ lo,lo=us2.heap.size+1:=⟨_,rfl⟩
     obtain ⟨hi,hhi⟩:∃ hi,hi=us3.heap.size:=⟨_,rfl⟩
     have zlo:ws1.heap.size≤lo:=by omega
     have zhi:hi≤V.heap.size:=by omega
     have zd:P<lo∨hi≤P:=by omega
     rw[←hlo,←hhi] at goz
     rw[←hP] at fv ⊢
     clear zV hV hP hlo hhi oz os0 os1 os2 zus0 zus1 zus2 zus3 hHeld p0 p1 hB pv qpv rpv lpv
     revert V P lo hi ys0 ys1 Ks2 es2 Aw cw Bw dw f0 fp0 fp1 fv goz zP zlo zhi zd
     exact key.out
   ·skip
    try simp only[List.getElem_toArray,List.getElem_cons_zero,List.getElem_cons_succ]
    go_simp
    refine hK.out _ _ (⟨Blk.cell blks,Blk.cell blks⟩) (fun hHeldN=>?_)
    clear hHeld hK K
    have hHeld:=hHeldN
    clear hHeldN
    try simp only[Act.put,List.getElem_toArray,List.getElem_cons_zero,List.getElem_cons_succ,List.setIfInBounds_toArray,List.set_cons_zero,List.set_cons_succ]
    refine wpAnyH_ready (rs:=[5]) (by kernel_rfl) (by simp) ?_
    refine AllReadyH.cons rfl (fun K hK=>?_) AllReadyH.nil
    try simp only[List.getElem_toArray,List.getElem_cons_zero,List.getElem_cons_succ]
    (go_simp;refine (to_ints _ _ a2 _ (hV2.out.below bel)).mono ?_;rintro e us2 ⟨ys2,rfl,os2,hBx⟩;have zus2:us1.heap.size+1≤us2.heap.size:=(by have:=hBx.size;simpa using this);have hS:=bgo (w:=us1) bel hBx;replace hB:=bgo hB hS;replace p0:=p0.next hS;replace p1:=p1.next hS;replace os0:=os0.below hS;replace os1:=os1.below hS;have pv:=Blk.next (g:=us1.heap.size) (t:=34) (cs:=#[.slice none 0 0,.slice none 0 0]) blks hBx;(replace qpv:=pv.cell;replace rpv:=pv.frozen;replace lpv:=pv.lt);clear hS hBx);obtain ⟨Ks2,es2,rfl⟩:=os2.form
    refine hK.out _ _ (⟨Blk.cell blks,Blk.cell blks⟩) (fun hHeldN=>?_)
    clear hHeld hK K
    have hHeld:=hHeldN
    clear hHeldN
    try simp only[Act.put,List.getElem_toArray,List.getElem_cons_zero,List.getElem_cons_succ,List.setIfInBounds_toArray,List.set_cons_zero,List.set_cons_succ]
    refine wpAnyH_ready (rs:=[6]) (by kernel_rfl) (by simp) ?_
    refine AllReadyH.cons rfl (fun K hK=>?_) AllReadyH.nil
    try simp only[List.getElem_toArray,List.getElem_cons_zero,List.getElem_cons_succ]
    (go_simp;refine (c_spec_CallPost _ _ a0 a1 _ _ a2 _ (os0.below bel).reads (Nat.le_refl _) (os1.below bel).reads (os2.below bel).reads).mono ?_;rintro e us3 ⟨rz,rfl,oX,hBx⟩;have zus3:us2.heap.size≤us3.heap.size:=(by have:=hBx.size;simpa using this);have hS:=bgo (w:=us2) bel hBx;replace hB:=bgo hB hS;replace p0:=p0.next hS;replace p1:=p1.next hS;replace os0:=os0.below hS;replace os1:=os1.below hS;replace os2:=os2.below hS;replace pv:=pv.next hS;(replace qpv:=pv.cell;replace rpv:=pv.frozen;replace lpv:=pv.lt);have oz:=oX.lower (base':=us2.heap.size) (by (try simp)<;>omega);clear oX;clear hS hBx);rw[HD.out] at oz;rw[HSB.out];replace oz:=oz.I;obtain ⟨Aw,cw,Bw,dw,rfl⟩:=oz.form
    refine hK.out _ _ (⟨Blk.cell blks,Blk.cell blks⟩) (fun hHeldN=>?_)
    clear hHeld hK K
    have hHeld:=hHeldN
    clear hHeldN
    try simp only[Act.put,List.getElem_toArray,List.getElem_cons_zero,List.getElem_cons_succ,List.setIfInBounds_toArray,List.set_cons_zero,List.set_cons_succ]
    refine tk 7 ?_ rfl (fun w hSw=>?_) hHeld ?_
    rotate_left
    ·((try dsimp only at hSw);go_split_ands;go_simp;(try with_reducible rfl))
    try simp only[Act.put,zA,zB,zC,zD,zE,zF]
    refine tk 8 ?_ rfl (fun w hSw=>?_) hHeld ?_
    rotate_left
    ·((try dsimp only at hSw);go_split_ands;go_simp;(try with_reducible rfl))
    try simp only[Act.put,zA,zB,zC,zD,zE,zF]
    refine tk 9 ?_ rfl (fun w hSw=>?_) hHeld ?_
    rotate_left
    ·((try dsimp only at hSw);go_split_ands;go_simp;(try with_reducible rfl))
    try simp only[Act.put,zA,zB,zC,zD,zE,zF]
    refine rdc 11 rfl fun K hK=>?_
    try simp only[zA,zB,zC]
    go_simp
    refine hK.out _ _ (⟨Blk.cell blks,Blk.cell blks⟩) ?_
    clear hHeld hK K
    intro hHeld
    try simp only[Act.put,zA,zB,zC,zD,zE,zF]
    refine tk 12 ?_ rfl (fun w hSw=>?_) hHeld ?_
    rotate_left
    ·((try dsimp only at hSw);go_split_ands;go_simp;(try with_reducible rfl))
    try simp only[Act.put,zA,zB,zC,zD,zE,zF]
    refine wpAnyH_done (by kernel_rfl) ?_ _
    refine NoPanic.normal ?_
    refine absThen ?_
    intro V hV
    have f0:Below w.heap.size w V:=by rw[hV];exact bel
    have fp0:Blk V (w.heap.size) 25 #[.slice A0 a0.facts.length c0,.slice B0 a0.atoms.length d0]:=by rw[hV];exact blks
    have fp1:Blk V (w.heap.size+1) 28 #[.slice A1 a1.pre.facts.length c1,.slice B1 a1.pre.atoms.length d1,.slice E1 a1.post.facts.length e1,.slice F1 a1.post.atoms.length f1,.slice G1 a1.changes.length g1]:=by rw[hV];exact blks
    have fv:Blk V (us1.heap.size) 34 #[.slice Aw D.facts.length cw,.slice Bw D.atoms.length dw]:=by rw[hV];exact ((pv.set_ 0 _).set_ 1 _)
    have goz:=(((oz).setT pv (by decide) (by decide) 0 (.slice Aw D.facts.length cw)).setT (pv.set_ 0 _) (by decide) (by decide) 1 (.slice Bw D.atoms.length dw))
    rw[←hV] at goz
    obtain ⟨P,hP⟩:∃ P,P=us1.heap.size:=⟨_,rfl⟩
    have zP:ws1.heap.size≤P:=by omega
    have zV:us3.heap.size≤V.heap.size:=by rw[hV];(try simp)<;>omega
    obtain ⟨lo,hlo⟩:∃ lo,lo=us2.heap.size:=⟨_,rfl⟩
    obtain ⟨hi,hhi⟩:∃ hi,hi=us3.heap.size:=⟨_,rfl⟩
    have zlo:ws1.heap.size≤lo:=by omega
    have zhi:hi≤V.heap.size:=by omega
    have zd:P<lo∨hi≤P:=by omega
    rw[←hlo,←hhi] at goz
    rw[←hP] at fv ⊢
    clear zV hV hP hlo hhi oz os0 os1 os2 zus0 zus1 zus2 zus3 hHeld p0 p1 hB pv qpv rpv lpv
    revert V P lo hi ys0 ys1 Ks2 es2 Aw cw Bw dw f0 fp0 fp1 fv goz zP zlo zhi zd
    exact key.out
  ·skip
   try simp only[List.getElem_toArray,List.getElem_cons_zero,List.getElem_cons_succ]
   go_simp
   refine hK.out _ _ (⟨Blk.cell blks,Blk.cell blks⟩) (fun hHeldN=>?_)
   clear hHeld hK K
   have hHeld:=hHeldN
   clear hHeldN
   try simp only[Act.put,List.getElem_toArray,List.getElem_cons_zero,List.getElem_cons_succ,List.setIfInBounds_toArray,List.set_cons_zero,List.set_cons_succ]
   refine wpAnyH_ready (rs:=[3]) (by kernel_rfl) (by simp) ?_
   refine AllReadyH.cons rfl (fun K hK=>?_) AllReadyH.nil
   try simp only[List.getElem_toArray,List.getElem_cons_zero,List.getElem_cons_succ]
   (go_simp;refine (to_ctr _ a1 _ (hV1.out.below bel)).mono ?_;rintro e us1 ⟨ys1,rfl,os1,hBx⟩;have zus1:us0.heap.size+1≤us1.heap.size:=(by have:=hBx.size;simpa using this);have hS:=bgo (w:=us0) bel hBx;replace hB:=bgo hB hS;replace p0:=p0.next hS;replace p1:=p1.next hS;replace os0:=os0.below hS;have pv:=Blk.next (g:=us0.heap.size) (t:=34) (cs:=#[.slice none 0 0,.slice none 0 0]) blks hBx;(replace qpv:=pv.cell;replace rpv:=pv.frozen;replace lpv:=pv.lt);clear hS hBx)
   refine hK.out _ _ (⟨Blk.cell blks,Blk.cell blks⟩) (fun hHeldN=>?_)
   clear hHeld hK K
   have hHeld:=hHeldN
   clear hHeldN
   try simp only[Act.put,List.getElem_toArray,List.getElem_cons_zero,List.getElem_cons_succ,List.setIfInBounds_toArray,List.set_cons_zero,List.set_cons_succ]
   refine wpAnyH_ready (rs:=[5]) (by kernel_rfl) (by simp) ?_
   refine AllReadyH.cons rfl (fun K hK=>?_) AllReadyH.nil
   try simp only[List.getElem_toArray,List.getElem_cons_zero,List.getElem_cons_succ]
   (go_simp;refine (to_ints _ _ a2 _ (hV2.out.below bel)).mono ?_;rintro e us2 ⟨ys2,rfl,os2,hBx⟩;have zus2:us1.heap.size≤us2.heap.size:=(by have:=hBx.size;simpa using this);have hS:=bgo (w:=us1) bel hBx;replace hB:=bgo hB hS;replace p0:=p0.next hS;replace p1:=p1.next hS;replace os0:=os0.below hS;replace os1:=os1.below hS;replace pv:=pv.next hS;(replace qpv:=pv.cell;replace rpv:=pv.frozen;replace lpv:=pv.lt);clear hS hBx);obtain ⟨Ks2,es2,rfl⟩:=os2.form
   refine hK.out _ _ (⟨Blk.cell blks,Blk.cell blks⟩) (fun hHeldN=>?_)
   clear hHeld hK K
   have hHeld:=hHeldN
   clear hHeldN
   try simp only[Act.put,List.getElem_toArray,List.getElem_cons_zero,List.getElem_cons_succ,List.setIfInBounds_toArray,List.set_cons_zero,List.set_cons_succ]
   refine wpAnyH_ready (rs:=[6]) (by kernel_rfl) (by simp) ?_
   refine AllReadyH.cons rfl (fun K hK=>?_) AllReadyH.nil
   try simp only[List.getElem_toArray,List.getElem_cons_zero,List.getElem_cons_succ]
   (go_simp;refine (c_spec_CallPost _ _ a0 a1 _ _ a2 _ (os0.below bel).reads (Nat.le_refl _) (os1.below bel).reads (os2.below bel).reads).mono ?_;rintro e us3 ⟨rz,rfl,oX,hBx⟩;have zus3:us2.heap.size≤us3.heap.size:=(by have:=hBx.size;simpa using this);have hS:=bgo (w:=us2) bel hBx;replace hB:=bgo hB hS;replace p0:=p0.next hS;replace p1:=p1.next hS;replace os0:=os0.below hS;replace os1:=os1.below hS;replace os2:=os2.below hS;replace pv:=pv.next hS;(replace qpv:=pv.cell;replace rpv:=pv.frozen;replace lpv:=pv.lt);have oz:=oX.lower (base':=us2.heap.size) (by (try simp)<;>omega);clear oX;clear hS hBx);rw[HD.out] at oz;rw[HSB.out];replace oz:=oz.I;obtain ⟨Aw,cw,Bw,dw,rfl⟩:=oz.form
   refine hK.out _ _ (⟨Blk.cell blks,Blk.cell blks⟩) (fun hHeldN=>?_)
   clear hHeld hK K
   have hHeld:=hHeldN
   clear hHeldN
   try simp only[Act.put,List.getElem_toArray,List.getElem_cons_zero,List.getElem_cons_succ,List.setIfInBounds_toArray,List.set_cons_zero,List.set_cons_succ]
   refine tk 7 ?_ rfl (fun w hSw=>?_) hHeld ?_
   rotate_left
   ·((try dsimp only at hSw);go_split_ands;go_simp;(try with_reducible rfl))
   try simp only[Act.put,zA,zB,zC,zD,zE,zF]
   refine tk 8 ?_ rfl (fun w hSw=>?_) hHeld ?_
   rotate_left
   ·((try dsimp only at hSw);go_split_ands;go_simp;(try with_reducible rfl))
   try simp only[Act.put,zA,zB,zC,zD,zE,zF]
   refine tk 9 ?_ rfl (fun w hSw=>?_) hHeld ?_
   rotate_left
   ·((try dsimp only at hSw);go_split_ands;go_simp;(try with_reducible rfl))
   try simp only[Act.put,zA,zB,zC,zD,zE,zF]
   refine rdc 11 rfl fun K hK=>?_
   try simp only[zA,zB,zC]
   go_simp
   refine hK.out _ _ (⟨Blk.cell blks,Blk.cell blks⟩) ?_
   clear hHeld hK K
   intro hHeld
   try simp only[Act.put,zA,zB,zC,zD,zE,zF]
   refine tk 12 ?_ rfl (fun w hSw=>?_) hHeld ?_
   rotate_left
   ·((try dsimp only at hSw);go_split_ands;go_simp;(try with_reducible rfl))
   try simp only[Act.put,zA,zB,zC,zD,zE,zF]
   refine wpAnyH_done (by kernel_rfl) ?_ _
   refine NoPanic.normal ?_
   refine absThen ?_
   intro V hV
   have f0:Below w.heap.size w V:=by rw[hV];exact bel
   have fp0:Blk V (w.heap.size) 25 #[.slice A0 a0.facts.length c0,.slice B0 a0.atoms.length d0]:=by rw[hV];exact blks
   have fp1:Blk V (w.heap.size+1) 28 #[.slice A1 a1.pre.facts.length c1,.slice B1 a1.pre.atoms.length d1,.slice E1 a1.post.facts.length e1,.slice F1 a1.post.atoms.length f1,.slice G1 a1.changes.length g1]:=by rw[hV];exact blks
   have fv:Blk V (us0.heap.size) 34 #[.slice Aw D.facts.length cw,.slice Bw D.atoms.length dw]:=by rw[hV];exact ((pv.set_ 0 _).set_ 1 _)
   have goz:=(((oz).setT pv (by decide) (by decide) 0 (.slice Aw D.facts.length cw)).setT (pv.set_ 0 _) (by decide) (by decide) 1 (.slice Bw D.atoms.length dw))
   rw[←hV] at goz
   obtain ⟨P,hP⟩:∃ P,P=us0.heap.size:=⟨_,rfl⟩
   have zP:ws1.heap.size≤P:=by omega
   have zV:us3.heap.size≤V.heap.size:=by rw[hV];(try simp)<;>omega
   obtain ⟨lo,hlo⟩:∃ lo,lo=us2.heap.size:=⟨_,rfl⟩
   obtain ⟨hi,hhi⟩:∃ hi,hi=us3.heap.size:=⟨_,rfl⟩
   have zlo:ws1.heap.size≤lo:=by omega
   have zhi:hi≤V.heap.size:=by omega
   have zd:P<lo∨hi≤P:=by omega
   rw[←hlo,←hhi] at goz
   rw[←hP] at fv ⊢
   clear zV hV hP hlo hhi oz os0 os1 os2 zus0 zus1 zus2 zus3 hHeld p0 p1 hB pv qpv rpv lpv
   revert V P lo hi ys0 ys1 Ks2 es2 Aw cw Bw dw f0 fp0 fp1 fv goz zP zlo zhi zd
   exact key.out
 ·skip
  try simp only[List.getElem_toArray,List.getElem_cons_zero,List.getElem_cons_succ]
  go_simp
  refine hK.out _ _ (⟨Blk.cell blks,Blk.cell blks⟩) (fun hHeldN=>?_)
  clear hHeld hK K
  have hHeld:=hHeldN
  clear hHeldN
  try simp only[Act.put,List.getElem_toArray,List.getElem_cons_zero,List.getElem_cons_succ,List.setIfInBounds_toArray,List.set_cons_zero,List.set_cons_succ]
  refine wpAnyH_ready (rs:=[1]) (by kernel_rfl) (by simp) ?_
  refine AllReadyH.cons rfl (fun K hK=>?_) AllReadyH.nil
  try simp only[List.getElem_toArray,List.getElem_cons_zero,List.getElem_cons_succ]
  (go_simp;refine (to_asn _ a0 _ (hV0.out.below bel)).mono ?_;rintro e us0 ⟨ys0,rfl,os0,hBx⟩;have zus0:ws1.heap.size+1≤us0.heap.size:=(by have:=hBx.size;simpa using this);have hS:=bgo (w:=ws1) bel hBx;replace hB:=bgo hB hS;replace p0:=p0.next hS;replace p1:=p1.next hS;have pv:=Blk.next (g:=ws1.heap.size) (t:=34) (cs:=#[.slice none 0 0,.slice none 0 0]) blks hBx;(replace qpv:=pv.cell;replace rpv:=pv.frozen;replace lpv:=pv.lt);clear hS hBx)
  refine hK.out _ _ (⟨Blk.cell blks,Blk.cell blks⟩) (fun hHeldN=>?_)
  clear hHeld hK K
  have hHeld:=hHeldN
  clear hHeldN
  try simp only[Act.put,List.getElem_toArray,List.getElem_cons_zero,List.getElem_cons_succ,List.setIfInBounds_toArray,List.set_cons_zero,List.set_cons_succ]
  refine wpAnyH_ready (rs:=[3]) (by kernel_rfl) (by simp) ?_
  refine AllReadyH.cons rfl (fun K hK=>?_) AllReadyH.nil
  try simp only[List.getElem_toArray,List.getElem_cons_zero,List.getElem_cons_succ]
  (go_simp;refine (to_ctr _ a1 _ (hV1.out.below bel)).mono ?_;rintro e us1 ⟨ys1,rfl,os1,hBx⟩;have zus1:us0.heap.size≤us1.heap.size:=(by have:=hBx.size;simpa using this);have hS:=bgo (w:=us0) bel hBx;replace hB:=bgo hB hS;replace p0:=p0.next hS;replace p1:=p1.next hS;replace os0:=os0.below hS;replace pv:=pv.next hS;(replace qpv:=pv.cell;replace rpv:=pv.frozen;replace lpv:=pv.lt);clear hS hBx)
  refine hK.out _ _ (⟨Blk.cell blks,Blk.cell blks⟩) (fun hHeldN=>?_)
  clear hHeld hK K
  have hHeld:=hHeldN
  clear hHeldN
  try simp only[Act.put,List.getElem_toArray,List.getElem_cons_zero,List.getElem_cons_succ,List.setIfInBounds_toArray,List.set_cons_zero,List.set_cons_succ]
  refine wpAnyH_ready (rs:=[5]) (by kernel_rfl) (by simp) ?_
  refine AllReadyH.cons rfl (fun K hK=>?_) AllReadyH.nil
  try simp only[List.getElem_toArray,List.getElem_cons_zero,List.getElem_cons_succ]
  (go_simp;refine (to_ints _ _ a2 _ (hV2.out.below bel)).mono ?_;rintro e us2 ⟨ys2,rfl,os2,hBx⟩;have zus2:us1.heap.size≤us2.heap.size:=(by have:=hBx.size;simpa using this);have hS:=bgo (w:=us1) bel hBx;replace hB:=bgo hB hS;replace p0:=p0.next hS;replace p1:=p1.next hS;replace os0:=os0.below hS;replace os1:=os1.below hS;replace pv:=pv.next hS;(replace qpv:=pv.cell;replace rpv:=pv.frozen;replace lpv:=pv.lt);clear hS hBx);obtain ⟨Ks2,es2,rfl⟩:=os2.form
  refine hK.out _ _ (⟨Blk.cell blks,Blk.cell blks⟩) (fun hHeldN=>?_)
  clear hHeld hK K
  have hHeld:=hHeldN
  clear hHeldN
  try simp only[Act.put,List.getElem_toArray,List.getElem_cons_zero,List.getElem_cons_succ,List.setIfInBounds_toArray,List.set_cons_zero,List.set_cons_succ]
  refine wpAnyH_ready (rs:=[6]) (by kernel_rfl) (by simp) ?_
  refine AllReadyH.cons rfl (fun K hK=>?_) AllReadyH.nil
  try simp only[List.getElem_toArray,List.getElem_cons_zero,List.getElem_cons_succ]
  (go_simp;refine (c_spec_CallPost _ _ a0 a1 _ _ a2 _ (os0.below bel).reads (Nat.le_refl _) (os1.below bel).reads (os2.below bel).reads).mono ?_;rintro e us3 ⟨rz,rfl,oX,hBx⟩;have zus3:us2.heap.size≤us3.heap.size:=(by have:=hBx.size;simpa using this);have hS:=bgo (w:=us2) bel hBx;replace hB:=bgo hB hS;replace p0:=p0.next hS;replace p1:=p1.next hS;replace os0:=os0.below hS;replace os1:=os1.below hS;replace os2:=os2.below hS;replace pv:=pv.next hS;(replace qpv:=pv.cell;replace rpv:=pv.frozen;replace lpv:=pv.lt);have oz:=oX.lower (base':=us2.heap.size) (by (try simp)<;>omega);clear oX;clear hS hBx);rw[HD.out] at oz;rw[HSB.out];replace oz:=oz.I;obtain ⟨Aw,cw,Bw,dw,rfl⟩:=oz.form
  refine hK.out _ _ (⟨Blk.cell blks,Blk.cell blks⟩) (fun hHeldN=>?_)
  clear hHeld hK K
  have hHeld:=hHeldN
  clear hHeldN
  try simp only[Act.put,List.getElem_toArray,List.getElem_cons_zero,List.getElem_cons_succ,List.setIfInBounds_toArray,List.set_cons_zero,List.set_cons_succ]
  refine tk 7 ?_ rfl (fun w hSw=>?_) hHeld ?_
  rotate_left
  ·((try dsimp only at hSw);go_split_ands;go_simp;(try with_reducible rfl))
  try simp only[Act.put,zA,zB,zC,zD,zE,zF]
  refine tk 8 ?_ rfl (fun w hSw=>?_) hHeld ?_
  rotate_left
  ·((try dsimp only at hSw);go_split_ands;go_simp;(try with_reducible rfl))
  try simp only[Act.put,zA,zB,zC,zD,zE,zF]
  refine tk 9 ?_ rfl (fun w hSw=>?_) hHeld ?_
  rotate_left
  ·((try dsimp only at hSw);go_split_ands;go_simp;(try with_reducible rfl))
  try simp only[Act.put,zA,zB,zC,zD,zE,zF]
  refine rdc 11 rfl fun K hK=>?_
  try simp only[zA,zB,zC]
  go_simp
  refine hK.out _ _ (⟨Blk.cell blks,Blk.cell blks⟩) ?_
  clear hHeld hK K
  intro hHeld
  try simp only[Act.put,zA,zB,zC,zD,zE,zF]
  refine tk 12 ?_ rfl (fun w hSw=>?_) hHeld ?_
  rotate_left
  ·((try dsimp only at hSw);go_split_ands;go_simp;(try with_reducible rfl))
  try simp only[Act.put,zA,zB,zC,zD,zE,zF]
  refine wpAnyH_done (by kernel_rfl) ?_ _
  refine NoPanic.normal ?_
  refine absThen ?_
  intro V hV
  have f0:Below w.heap.size w V:=by rw[hV];exact bel
  have fp0:Blk V (w.heap.size) 25 #[.slice A0 a0.facts.length c0,.slice B0 a0.atoms.length d0]:=by rw[hV];exact blks
  have fp1:Blk V (w.heap.size+1) 28 #[.slice A1 a1.pre.facts.length c1,.slice B1 a1.pre.atoms.length d1,.slice E1 a1.post.facts.length e1,.slice F1 a1.post.atoms.length f1,.slice G1 a1.changes.length g1]:=by rw[hV];exact blks
  have fv:Blk V (ws1.heap.size) 34 #[.slice Aw D.facts.length cw,.slice Bw D.atoms.length dw]:=by rw[hV];exact ((pv.set_ 0 _).set_ 1 _)
  have goz:=(((oz).setT pv (by decide) (by decide) 0 (.slice Aw D.facts.length cw)).setT (pv.set_ 0 _) (by decide) (by decide) 1 (.slice Bw D.atoms.length dw))
  rw[←hV] at goz
  obtain ⟨P,hP⟩:∃ P,P=ws1.heap.size:=⟨_,rfl⟩
  have zP:ws1.heap.size≤P:=by omega
  have zV:us3.heap.size≤V.heap.size:=by rw[hV];(try simp)<;>omega
  obtain ⟨lo,hlo⟩:∃ lo,lo=us2.heap.size:=⟨_,rfl⟩
  obtain ⟨hi,hhi⟩:∃ hi,hi=us3.heap.size:=⟨_,rfl⟩
  have zlo:ws1.heap.size≤lo:=by omega
  have zhi:hi≤V.heap.size:=by omega
  have zd:P<lo∨hi≤P:=by omega
  rw[←hlo,←hhi] at goz
  rw[←hP] at fv ⊢
  clear zV hV hP hlo hhi oz os0 os1 os2 zus0 zus1 zus2 zus3 hHeld p0 p1 hB pv qpv rpv lpv
  revert V P lo hi ys0 ys1 Ks2 es2 Aw cw Bw dw f0 fp0 fp1 fv goz zP zlo zhi zd
  exact key.out
 skip
 intro ys0 ys1 Ks2 es2 Aw cw Bw dw Ws hB2 fp0 fp1 Ps pw zWsp ls hs Xw zWslo zWshi zWsd
 replace p0:=fp0
 clear fp0
 replace p1:=fp1
 clear fp1
 clear hB
 have hB:=hB2
 clear hB2
 (replace qp0:=p0.cell;replace rp0:=p0.frozen;replace lp0:=p0.lt)
 (replace qp1:=p1.cell;replace rp1:=p1.frozen;replace lp1:=p1.lt)
 (replace qpw:=pw.cell;replace rpw:=pw.frozen;replace lpw:=pw.lt)
 have zWsl:=lpw
 go_wp2_with fail
 refine (to_asn _ a0 _ (hV0.out.below bel)).mono ?_
 rintro e w1 ⟨y,rfl,X0,hBx⟩
 have hS:=bgo (w:=Ws) bel hBx
 have zw1:=hBx.size
 replace hB:=bgo hB hS
 replace p0:=p0.next hS
 replace p1:=p1.next hS
 replace pw:=pw.next hS
 replace Xw:=Xw.below hS
 clear hS hBx
 (replace qp0:=p0.cell;replace rp0:=p0.frozen;replace lp0:=p0.lt)
 (replace qp1:=p1.cell;replace rp1:=p1.frozen;replace lp1:=p1.lt)
 (replace qpw:=pw.cell;replace rpw:=pw.frozen;replace lpw:=pw.lt)
 obtain ⟨Ax0,cx0,Bx0,dx0,rfl⟩:=X0.form
 go_wp2_with fail
 refine (to_ctr _ a1 _ (hV1.out.below bel)).mono ?_
 rintro e w2 ⟨y,rfl,X1,hBx⟩
 rw[World.size_alloc] at X1
 have hS:=bgo (w:=w1) bel hBx
 have zw2:=hBx.size
 simp only[World.size_alloc] at zw2
 replace hB:=bgo hB hS
 replace p0:=p0.next hS
 replace p1:=p1.next hS
 replace pw:=pw.next hS
 replace Xw:=Xw.below hS
 replace X0:=X0.below hS
 have px0:=Blk.next (g:=w1.heap.size) (t:=34) (cs:=#[.slice Ax0 a0.facts.length cx0,.slice Bx0 a0.atoms.length dx0]) blks hBx
 clear hS hBx
 (replace qp0:=p0.cell;replace rp0:=p0.frozen;replace lp0:=p0.lt)
 (replace qp1:=p1.cell;replace rp1:=p1.frozen;replace lp1:=p1.lt)
 (replace qpw:=pw.cell;replace rpw:=pw.frozen;replace lpw:=pw.lt)
 (replace qpx0:=px0.cell;replace rpx0:=px0.frozen;replace lpx0:=px0.lt)
 obtain ⟨Ax1,cx1,Bx1,dx1,Ex1,ex1,Fx1,fx1,Gx1,gx1,rfl⟩:=X1.form
 go_wp2_with fail
 refine (to_ints _ _ a2 _ (hV2.out.below bel)).mono ?_
 rintro e w3 ⟨y,rfl,X2,hBx⟩
 rw[World.size_alloc] at X2
 have hS:=bgo (w:=w2) bel hBx
 have zw3:=hBx.size
 simp only[World.size_alloc] at zw3
 replace hB:=bgo hB hS
 replace p0:=p0.next hS
 replace p1:=p1.next hS
 replace pw:=pw.next hS
 replace px0:=px0.next hS
 replace Xw:=Xw.below hS
 replace X0:=X0.below hS
 replace X1:=X1.below hS
 have px1:=Blk.next (g:=w2.heap.size) (t:=39) (cs:=#[.slice Ax1 a1.pre.facts.length cx1,.slice Bx1 a1.pre.atoms.length dx1,.slice Ex1 a1.post.facts.length ex1,.slice Fx1 a1.post.atoms.length fx1,.slice Gx1 a1.changes.length gx1]) blks hBx
 clear hS hBx
 (replace qp0:=p0.cell;replace rp0:=p0.frozen;replace lp0:=p0.lt)
 (replace qp1:=p1.cell;replace rp1:=p1.frozen;replace lp1:=p1.lt)
 (replace qpw:=pw.cell;replace rpw:=pw.frozen;replace lpw:=pw.lt)
 (replace qpx0:=px0.cell;replace rpx0:=px0.frozen;replace lpx0:=px0.lt)
 (replace qpx1:=px1.cell;replace rpx1:=px1.frozen;replace lpx1:=px1.lt)
 obtain ⟨Ax2,cx2,rfl⟩:=X2.form
 go_wp2_with fail
 refine (c_impl_CallPost _ _ a0 a1 _ _ a2 _ (X0.below bel).reads (Nat.le_refl _) (X1.below bel).reads (X2.below bel).reads).mono ?_
 rintro e w4 ⟨rg0,rfl,org0,hBx⟩
 rw[HD.out] at org0
 have Xg:=org0.I
 clear org0
 rw[HSB.out]
 have hS:=bgo (w:=w3) bel hBx
 have zw4:=hBx.size
 replace hB:=bgo hB hS
 replace p0:=p0.next hS
 replace p1:=p1.next hS
 replace pw:=pw.next hS
 replace px0:=px0.next hS
 replace px1:=px1.next hS
 replace Xw:=Xw.below hS
 replace X0:=X0.below hS
 replace X1:=X1.below hS
 replace X2:=X2.below hS
 clear hS hBx
 (replace qp0:=p0.cell;replace rp0:=p0.frozen;replace lp0:=p0.lt)
 (replace qp1:=p1.cell;replace rp1:=p1.frozen;replace lp1:=p1.lt)
 (replace qpw:=pw.cell;replace rpw:=pw.frozen;replace lpw:=pw.lt)
 (replace qpx0:=px0.cell;replace rpx0:=px0.frozen;replace lpx0:=px0.lt)
 (replace qpx1:=px1.cell;replace rpx1:=px1.frozen;replace lpx1:=px1.lt)
 obtain ⟨Ag,cg,Bg,dg,rfl⟩:=Xg.form
 have hLD:=Xg.len
 go_wp2_with fail
 refine (t_asn _ _ D _ (Xg.below bel).reads (Xw.below bel).reads).mono ?_
 rintro e w5 ⟨rfl,hBx⟩
 have hS:=bgo (w:=w4) bel hBx
 have zw5:=hBx.size
 simp only[World.size_alloc] at zw5
 replace hB:=bgo hB hS
 replace p0:=p0.next hS
 replace p1:=p1.next hS
 replace pw:=pw.next hS
 replace px0:=px0.next hS
 replace px1:=px1.next hS
 replace Xw:=Xw.below hS
 replace X0:=X0.below hS
 replace X1:=X1.below hS
 replace X2:=X2.below hS
 replace Xg:=Xg.below hS
 have pg:=Blk.next (g:=w4.heap.size) (t:=34) (cs:=#[.slice Ag D.facts.length cg,.slice Bg D.atoms.length dg]) blks hBx
 clear hS hBx
 (replace qp0:=p0.cell;replace rp0:=p0.frozen;replace lp0:=p0.lt)
 (replace qp1:=p1.cell;replace rp1:=p1.frozen;replace lp1:=p1.lt)
 (replace qpw:=pw.cell;replace rpw:=pw.frozen;replace lpw:=pw.lt)
 (replace qpx0:=px0.cell;replace rpx0:=px0.frozen;replace lpx0:=px0.lt)
 (replace qpx1:=px1.cell;replace rpx1:=px1.frozen;replace lpx1:=px1.lt)
 (replace qpg:=pg.cell;replace rpg:=pg.frozen;replace lpg:=pg.lt)
 go_wp2_with fail
 go_region_held3 (fun w'=>(∀ i,w'.cell? ⟨w.heap.size,i,none⟩=#[.slice A0 a0.facts.length c0,.slice B0 a0.atoms.length d0][i]?)∧(∀ i,w'.cell? ⟨w1.heap.size,i,none⟩=#[.slice Ax0 a0.facts.length cx0,.slice Bx0 a0.atoms.length dx0][i]?))
  (first|exact ⟨p0.cell,px0.cell⟩|exact ⟨p0.drew.cell,px0.drew.cell⟩)
  (first
   | (go_at_call 13;refine (to_asn _ a0 _ (hV0.out.below bel)).mono ?_;rintro e w6 ⟨y,rfl,oz,hBx⟩;have hS:Below w5.heap.size w5 w6:=bgo (Below.refl w5.heap.size w5).drew hBx;replace hB:=bgo hB hS;replace p0:=p0.drew.next hBx;replace p1:=p1.drew.next hBx;replace pw:=pw.drew.next hBx;replace px0:=px0.drew.next hBx;replace px1:=px1.drew.next hBx;replace pg:=pg.drew.next hBx)
   | (go_at_call 17;refine (t_asn _ _ a0 _ (X0.below hS).reads oz.reads).mono ?_;rintro e w7 ⟨rfl,hBx⟩;replace hS:=bgo hS hBx;replace hB:=bgo hB hBx;replace p0:=p0.next hBx;replace p1:=p1.next hBx;replace pw:=pw.next hBx;replace px0:=px0.next hBx;replace px1:=px1.next hBx;replace pg:=pg.next hBx))
 have zw7:=hS.size
 replace Xw:=Xw.below hS
 replace X0:=X0.below hS
 replace X1:=X1.below hS
 replace X2:=X2.below hS
 replace Xg:=Xg.below hS
 clear hS oz
 (replace qp0:=p0.cell;replace rp0:=p0.frozen;replace lp0:=p0.lt)
 (replace qp1:=p1.cell;replace rp1:=p1.frozen;replace lp1:=p1.lt)
 (replace qpw:=pw.cell;replace rpw:=pw.frozen;replace lpw:=pw.lt)
 (replace qpx0:=px0.cell;replace rpx0:=px0.frozen;replace lpx0:=px0.lt)
 (replace qpx1:=px1.cell;replace rpx1:=px1.frozen;replace lpx1:=px1.lt)
 (replace qpg:=pg.cell;replace rpg:=pg.frozen;replace lpg:=pg.lt)
 go_wp2_with fail
 go_region_held3 (fun w'=>(∀ i,w'.cell? ⟨w.heap.size+1,i,none⟩=#[.slice A1 a1.pre.facts.length c1,.slice B1 a1.pre.atoms.length d1,.slice E1 a1.post.facts.length e1,.slice F1 a1.post.atoms.length f1,.slice G1 a1.changes.length g1][i]?)∧(∀ i,w'.cell? ⟨w2.heap.size,i,none⟩=#[.slice Ax1 a1.pre.facts.length cx1,.slice Bx1 a1.pre.atoms.length dx1,.slice Ex1 a1.post.facts.length ex1,.slice Fx1 a1.post.atoms.length fx1,.slice Gx1 a1.changes.length gx1][i]?))
  (first|exact ⟨p1.cell,px1.cell⟩|exact ⟨p1.drew.cell,px1.drew.cell⟩)
  (first
   | (go_at_call 14;refine (to_ctr _ a1 _ (hV1.out.below bel)).mono ?_;rintro e w8 ⟨y,rfl,oz,hBx⟩;have hS:Below w7.heap.size w7 w8:=bgo (Below.refl w7.heap.size w7).drew hBx;replace hB:=bgo hB hS;replace p0:=p0.drew.next hBx;replace p1:=p1.drew.next hBx;replace pw:=pw.drew.next hBx;replace px0:=px0.drew.next hBx;replace px1:=px1.drew.next hBx;replace pg:=pg.drew.next hBx)
   | (go_at_call 18;refine (t_ctr _ _ a1 _ (X1.below hS).reads oz.reads).mono ?_;rintro e w9 ⟨rfl,hBx⟩;replace hS:=bgo hS hBx;replace hB:=bgo hB hBx;replace p0:=p0.next hBx;replace p1:=p1.next hBx;replace pw:=pw.next hBx;replace px0:=px0.next hBx;replace px1:=px1.next hBx;replace pg:=pg.next hBx))
 have zw9:=hS.size
 replace Xw:=Xw.below hS
 replace X0:=X0.below hS
 replace X1:=X1.below hS
 replace X2:=X2.below hS
 replace Xg:=Xg.below hS
 clear hS oz
 (replace qp0:=p0.cell;replace rp0:=p0.frozen;replace lp0:=p0.lt)
 (replace qp1:=p1.cell;replace rp1:=p1.frozen;replace lp1:=p1.lt)
 (replace qpw:=pw.cell;replace rpw:=pw.frozen;replace lpw:=pw.lt)
 (replace qpx0:=px0.cell;replace rpx0:=px0.frozen;replace lpx0:=px0.lt)
 (replace qpx1:=px1.cell;replace rpx1:=px1.frozen;replace lpx1:=px1.lt)
 (replace qpg:=pg.cell;replace rpg:=pg.frozen;replace lpg:=pg.lt)
 go_wp2_with fail
 refine (to_ints _ _ a2 _ (hV2.out.below bel)).mono ?_
 rintro e w10 ⟨y,rfl,oz,hBx⟩
 have hS:=bgo (w:=w9) bel hBx
 have zw10:=hBx.size
 replace hB:=bgo hB hS
 replace p0:=p0.next hS
 replace p1:=p1.next hS
 replace pw:=pw.next hS
 replace px0:=px0.next hS
 replace px1:=px1.next hS
 replace pg:=pg.next hS
 replace Xw:=Xw.below hS
 replace X0:=X0.below hS
 replace X1:=X1.below hS
 replace X2:=X2.below hS
 replace Xg:=Xg.below hS
 clear hS hBx
 (replace qp0:=p0.cell;replace rp0:=p0.frozen;replace lp0:=p0.lt)
 (replace qp1:=p1.cell;replace rp1:=p1.frozen;replace lp1:=p1.lt)
 (replace qpw:=pw.cell;replace rpw:=pw.frozen;replace lpw:=pw.lt)
 (replace qpx0:=px0.cell;replace rpx0:=px0.frozen;replace lpx0:=px0.lt)
 (replace qpx1:=px1.cell;replace rpx1:=px1.frozen;replace lpx1:=px1.lt)
 (replace qpg:=pg.cell;replace rpg:=pg.frozen;replace lpg:=pg.lt)
 obtain ⟨Az2,cz2,rfl⟩:=oz.form
 go_wp2_with fail
 refine (t_ints _ _ _ _ a2 _ (X2.below bel).reads (oz.below bel).reads).mono ?_
 rintro e w11 ⟨rfl,hBx⟩
 have hS:=bgo (w:=w10) bel hBx
 have zw11:=hBx.size
 replace hB:=bgo hB hS
 replace p0:=p0.next hS
 replace p1:=p1.next hS
 replace pw:=pw.next hS
 replace px0:=px0.next hS
 replace px1:=px1.next hS
 replace pg:=pg.next hS
 replace Xw:=Xw.below hS
 replace X0:=X0.below hS
 replace X1:=X1.below hS
 replace X2:=X2.below hS
 replace Xg:=Xg.below hS
 replace oz:=oz.below hS
 clear hS hBx
 (replace qp0:=p0.cell;replace rp0:=p0.frozen;replace lp0:=p0.lt)
 (replace qp1:=p1.cell;replace rp1:=p1.frozen;replace lp1:=p1.lt)
 (replace qpw:=pw.cell;replace rpw:=pw.frozen;replace lpw:=pw.lt)
 (replace qpx0:=px0.cell;replace rpx0:=px0.frozen;replace lpx0:=px0.lt)
 (replace qpx1:=px1.cell;replace rpx1:=px1.frozen;replace lpx1:=px1.lt)
 (replace qpg:=pg.cell;replace rpg:=pg.frozen;replace lpg:=pg.lt)
 clear oz
 go_wp2_with fail
 refine (m_asn _ a0 _ _ _ _ X0 (by omega) (by omega)).mono ?_
 rintro e w12 ⟨rfl,X0m,hM⟩
 have hsz:=hM.size
 replace hB:=Mk.keepB hB hM (by omega) (by have:=hB.size;omega)
 replace p0:=hM.blk p0 (by omega)
 replace p1:=hM.blk p1 (by omega)
 replace pw:=hM.blk pw (by omega)
 replace px0:=hM.blk px0 (by omega)
 replace px1:=hM.blk px1 (by omega)
 replace pg:=hM.blk pg (by omega)
 replace Xw:=Xw.mk hM (by omega)
 replace X1:=X1.mk hM (by omega)
 replace X2:=X2.mk hM (by omega)
 replace Xg:=Xg.mk hM (by omega)
 clear X0 hM
 have zw12:=hsz
 clear hsz
 (replace qp0:=p0.cell;replace rp0:=p0.frozen;replace lp0:=p0.lt)
 (replace qp1:=p1.cell;replace rp1:=p1.frozen;replace lp1:=p1.lt)
 (replace qpw:=pw.cell;replace rpw:=pw.frozen;replace lpw:=pw.lt)
 (replace qpx0:=px0.cell;replace rpx0:=px0.frozen;replace lpx0:=px0.lt)
 (replace qpx1:=px1.cell;replace rpx1:=px1.frozen;replace lpx1:=px1.lt)
 (replace qpg:=pg.cell;replace rpg:=pg.frozen;replace lpg:=pg.lt)
 clear X0m
 go_wp2_with fail
 refine (m_ctr _ a1 _ _ _ _ X1 (by omega) (by omega)).mono ?_
 rintro e w13 ⟨rfl,X1m,hM⟩
 have hsz:=hM.size
 replace hB:=Mk.keepB hB hM (by omega) (by have:=hB.size;omega)
 replace p0:=hM.blk p0 (by omega)
 replace p1:=hM.blk p1 (by omega)
 replace pw:=hM.blk pw (by omega)
 replace px0:=hM.blk px0 (by omega)
 replace px1:=hM.blk px1 (by omega)
 replace pg:=hM.blk pg (by omega)
 replace Xw:=Xw.mk hM (by omega)
 replace X2:=X2.mk hM (by omega)
 replace Xg:=Xg.mk hM (by omega)
 clear X1 hM
 have zw13:=hsz
 clear hsz
 (replace qp0:=p0.cell;replace rp0:=p0.frozen;replace lp0:=p0.lt)
 (replace qp1:=p1.cell;replace rp1:=p1.frozen;replace lp1:=p1.lt)
 (replace qpw:=pw.cell;replace rpw:=pw.frozen;replace lpw:=pw.lt)
 (replace qpx0:=px0.cell;replace rpx0:=px0.frozen;replace lpx0:=px0.lt)
 (replace qpx1:=px1.cell;replace rpx1:=px1.frozen;replace lpx1:=px1.lt)
 (replace qpg:=pg.cell;replace rpg:=pg.frozen;replace lpg:=pg.lt)
 clear X1m
 go_wp2_with fail
 refine (m_ints _ a2 _ _ _ _ X2 (by omega) (by omega)).mono ?_
 rintro e w14 ⟨rfl,X2m,hM⟩
 have hsz:=hM.size
 replace hB:=Mk.keepB hB hM (by omega) (by have:=hB.size;omega)
 replace p0:=hM.blk p0 (by omega)
 replace p1:=hM.blk p1 (by omega)
 replace pw:=hM.blk pw (by omega)
 replace px0:=hM.blk px0 (by omega)
 replace px1:=hM.blk px1 (by omega)
 replace pg:=hM.blk pg (by omega)
 replace Xw:=Xw.mk hM (by omega)
 replace Xg:=Xg.mk hM (by omega)
 clear X2 hM
 have zw14:=hsz
 clear hsz
 (replace qp0:=p0.cell;replace rp0:=p0.frozen;replace lp0:=p0.lt)
 (replace qp1:=p1.cell;replace rp1:=p1.frozen;replace lp1:=p1.lt)
 (replace qpw:=pw.cell;replace rpw:=pw.frozen;replace lpw:=pw.lt)
 (replace qpx0:=px0.cell;replace rpx0:=px0.frozen;replace lpx0:=px0.lt)
 (replace qpx1:=px1.cell;replace rpx1:=px1.frozen;replace lpx1:=px1.lt)
 (replace qpg:=pg.cell;replace rpg:=pg.frozen;replace lpg:=pg.lt)
 clear X2m
 go_wp2_with fail
 refine (t_asn _ _ D _ (Xg.below bel).reads (Xw.below bel).reads).mono ?_
 rintro e w15 ⟨rfl,hBx⟩
 have hS:=bgo (w:=w14) bel hBx
 have zw15:=hBx.size
 replace hB:=bgo hB hS
 replace p0:=p0.next hS
 replace p1:=p1.next hS
 replace pw:=pw.next hS
 replace px0:=px0.next hS
 replace px1:=px1.next hS
 replace pg:=pg.next hS
 replace Xw:=Xw.below hS
 replace Xg:=Xg.below hS
 clear hS hBx
 (replace qp0:=p0.cell;replace rp0:=p0.frozen;replace lp0:=p0.lt)
 (replace qp1:=p1.cell;replace rp1:=p1.frozen;replace lp1:=p1.lt)
 (replace qpw:=pw.cell;replace rpw:=pw.frozen;replace lpw:=pw.lt)
 (replace qpx0:=px0.cell;replace rpx0:=px0.frozen;replace lpx0:=px0.lt)
 (replace qpx1:=px1.cell;replace rpx1:=px1.frozen;replace lpx1:=px1.lt)
 (replace qpg:=pg.cell;replace rpg:=pg.frozen;replace lpg:=pg.lt)
 go_wp2_with fail
 refine (m_asn _ D _ _ _ _ Xg (by omega) (by omega)).mono ?_
 rintro e w16 ⟨rfl,Xgm,hM⟩
 have hsz:=hM.size
 replace hB:=Mk.keepB hB hM (by omega) (by have:=hB.size;omega)
 replace p0:=hM.blk p0 (by omega)
 replace p1:=hM.blk p1 (by omega)
 replace pw:=hM.blk pw (by omega)
 replace px0:=hM.blk px0 (by omega)
 replace px1:=hM.blk px1 (by omega)
 replace pg:=hM.blk pg (by omega)
 replace Xw:=Xw.mk hM (by omega)
 clear Xg hM
 have zw16:=hsz
 clear hsz
 (replace qp0:=p0.cell;replace rp0:=p0.frozen;replace lp0:=p0.lt)
 (replace qp1:=p1.cell;replace rp1:=p1.frozen;replace lp1:=p1.lt)
 (replace qpw:=pw.cell;replace rpw:=pw.frozen;replace lpw:=pw.lt)
 (replace qpx0:=px0.cell;replace rpx0:=px0.frozen;replace lpx0:=px0.lt)
 (replace qpx1:=px1.cell;replace rpx1:=px1.frozen;replace lpx1:=px1.lt)
 (replace qpg:=pg.cell;replace rpg:=pg.frozen;replace lpg:=pg.lt)
 go_wp2_with fail
 refine (h_asn _ _ D _ _ 1 _ (Xgm.below bel) (by omega) (by omega)).mono ?_
 rintro e w17 ⟨rfl,hBx⟩
 have hS:=bgo (w:=w16) bel hBx
 have zw17:=hBx.size
 replace hB:=bgo hB hS
 replace p0:=p0.next hS
 replace p1:=p1.next hS
 replace pw:=pw.next hS
 replace px0:=px0.next hS
 replace px1:=px1.next hS
 replace pg:=pg.next hS
 replace Xw:=Xw.below hS
 replace Xgm:=Xgm.below hS
 clear hS hBx
 (replace qp0:=p0.cell;replace rp0:=p0.frozen;replace lp0:=p0.lt)
 (replace qp1:=p1.cell;replace rp1:=p1.frozen;replace lp1:=p1.lt)
 (replace qpw:=pw.cell;replace rpw:=pw.frozen;replace lpw:=pw.lt)
 (replace qpx0:=px0.cell;replace rpx0:=px0.frozen;replace lpx0:=px0.lt)
 (replace qpx1:=px1.cell;replace rpx1:=px1.frozen;replace lpx1:=px1.lt)
 (replace qpg:=pg.cell;replace rpg:=pg.frozen;replace lpg:=pg.lt)
 go_wp2_with fail
 apply Merge
 rotate_left
 intro key
 refine wp_region_noPanic ?_
 refine wp_region_held_drew (S:=(fun w'=>(∀ i,w'.cell? ⟨w.heap.size,i,none⟩=#[.slice A0 a0.facts.length c0,.slice B0 a0.atoms.length d0][i]?)∧(∀ i,w'.cell? ⟨w.heap.size+1,i,none⟩=#[.slice A1 a1.pre.facts.length c1,.slice B1 a1.pre.atoms.length d1,.slice E1 a1.post.facts.length e1,.slice F1 a1.post.atoms.length f1,.slice G1 a1.changes.length g1][i]?))) (by kernel_rfl) (⟨Blk.cell blks,Blk.cell blks⟩) (fun hHeld=>?_)
 refine tk 0 ?_ rfl (fun w hSw=>?_) hHeld ?_
 rotate_left
 ·((try dsimp only at hSw);go_split_ands;go_simp;(try with_reducible rfl))
 try simp only[Act.put,zA,zB,zC,zD,zE,zF]
 refine tk 2 ?_ rfl (fun w hSw=>?_) hHeld ?_
 rotate_left
 ·((try dsimp only at hSw);go_split_ands;go_simp;(try with_reducible rfl))
 try simp only[Act.put,zA,zB,zC,zD,zE,zF]
 refine tk 4 ?_ rfl (fun w hSw=>?_) hHeld ?_
 rotate_left
 ·((try dsimp only at hSw);go_split_ands;go_simp;(try with_reducible rfl))
 try simp only[Act.put,zA,zB,zC,zD,zE,zF]
 refine wpAnyH_ready (rs:=[1,10]) (by kernel_rfl) (by simp) ?_
 refine AllReadyH.cons rfl (fun K hK=>?_) (AllReadyH.cons rfl (fun K hK=>?_) AllReadyH.nil)
 ·skip
  try simp only[List.getElem_toArray,List.getElem_cons_zero,List.getElem_cons_succ]
  (go_simp;refine (to_asn _ a0 _ (hV0.out.below bel)).mono ?_;rintro e uh0 ⟨yh0,rfl,oh0,hBx⟩;have zuh0:w17.heap.size≤uh0.heap.size:=(by have:=hBx.size;simpa using this);have hS:=bgo (w:=w17) bel hBx;replace hB:=bgo hB hS;replace p0:=p0.next hS;replace p1:=p1.next hS;replace pw:=pw.next hS;replace px0:=px0.next hS;replace px1:=px1.next hS;replace pg:=pg.next hS;replace Xw:=Xw.below hS;replace Xgm:=Xgm.below hS;clear hS hBx)
  refine hK.out _ _ (⟨Blk.cell blks,Blk.cell blks⟩) (fun hHeldN=>?_)
  clear hHeld hK K
  have hHeld:=hHeldN
  clear hHeldN
  try simp only[Act.put,List.getElem_toArray,List.getElem_cons_zero,List.getElem_cons_succ,List.setIfInBounds_toArray,List.set_cons_zero,List.set_cons_succ]
  refine wpAnyH_ready (rs:=[3,10]) (by kernel_rfl) (by simp) ?_
  refine AllReadyH.cons rfl (fun K hK=>?_) (AllReadyH.cons rfl (fun K hK=>?_) AllReadyH.nil)
  ·skip
   try simp only[List.getElem_toArray,List.getElem_cons_zero,List.getElem_cons_succ]
   (go_simp;refine (to_ctr _ a1 _ (hV1.out.below bel)).mono ?_;rintro e uh1 ⟨yh1,rfl,oh1,hBx⟩;have zuh1:uh0.heap.size≤uh1.heap.size:=(by have:=hBx.size;simpa using this);have hS:=bgo (w:=uh0) bel hBx;replace hB:=bgo hB hS;replace p0:=p0.next hS;replace p1:=p1.next hS;replace pw:=pw.next hS;replace px0:=px0.next hS;replace px1:=px1.next hS;replace pg:=pg.next hS;replace Xw:=Xw.below hS;replace Xgm:=Xgm.below hS;replace oh0:=oh0.below hS;clear hS hBx)
   refine hK.out _ _ (⟨Blk.cell blks,Blk.cell blks⟩) (fun hHeldN=>?_)
   clear hHeld hK K
   have hHeld:=hHeldN
   clear hHeldN
   try simp only[Act.put,List.getElem_toArray,List.getElem_cons_zero,List.getElem_cons_succ,List.setIfInBounds_toArray,List.set_cons_zero,List.set_cons_succ]
   refine wpAnyH_ready (rs:=[5,10]) (by kernel_rfl) (by simp) ?_
   refine AllReadyH.cons rfl (fun K hK=>?_) (AllReadyH.cons rfl (fun K hK=>?_) AllReadyH.nil)
   ·skip
    try simp only[List.getElem_toArray,List.getElem_cons_zero,List.getElem_cons_succ]
    (go_simp;refine (to_ints _ _ a2 _ (hV2.out.below bel)).mono ?_;rintro e uh2 ⟨yh2,rfl,oh2,hBx⟩;have zuh2:uh1.heap.size≤uh2.heap.size:=(by have:=hBx.size;simpa using this);have hS:=bgo (w:=uh1) bel hBx;replace hB:=bgo hB hS;replace p0:=p0.next hS;replace p1:=p1.next hS;replace pw:=pw.next hS;replace px0:=px0.next hS;replace px1:=px1.next hS;replace pg:=pg.next hS;replace Xw:=Xw.below hS;replace Xgm:=Xgm.below hS;replace oh0:=oh0.below hS;replace oh1:=oh1.below hS;clear hS hBx);obtain ⟨Kh2,eh2,rfl⟩:=oh2.form
    refine hK.out _ _ (⟨Blk.cell blks,Blk.cell blks⟩) (fun hHeldN=>?_)
    clear hHeld hK K
    have hHeld:=hHeldN
    clear hHeldN
    try simp only[Act.put,List.getElem_toArray,List.getElem_cons_zero,List.getElem_cons_succ,List.setIfInBounds_toArray,List.set_cons_zero,List.set_cons_succ]
    refine wpAnyH_ready (rs:=[6,10]) (by kernel_rfl) (by simp) ?_
    refine AllReadyH.cons rfl (fun K hK=>?_) (AllReadyH.cons rfl (fun K hK=>?_) AllReadyH.nil)
    ·skip
     try simp only[List.getElem_toArray,List.getElem_cons_zero,List.getElem_cons_succ]
     (go_simp;refine (c_impl_CallPost _ _ a0 a1 _ _ a2 _ (oh0.below bel).reads (Nat.le_refl _) (oh1.below bel).reads (oh2.below bel).reads).mono ?_;rintro e uh3 ⟨rz,rfl,oX,hBx⟩;have zuh3:uh2.heap.size≤uh3.heap.size:=(by have:=hBx.size;simpa using this);have hS:=bgo (w:=uh2) bel hBx;replace hB:=bgo hB hS;replace p0:=p0.next hS;replace p1:=p1.next hS;replace pw:=pw.next hS;replace px0:=px0.next hS;replace px1:=px1.next hS;replace pg:=pg.next hS;replace Xw:=Xw.below hS;replace Xgm:=Xgm.below hS;replace oh0:=oh0.below hS;replace oh1:=oh1.below hS;replace oh2:=oh2.below hS;have oz:=oX.lower (base':=uh2.heap.size) (by (try simp)<;>omega);clear oX;clear hS hBx);rw[HD.out] at oz;rw[HSB.out];replace oz:=oz.I;obtain ⟨Ah,ch,Bh,dh,rfl⟩:=oz.form
     refine hK.out _ _ (⟨Blk.cell blks,Blk.cell blks⟩) (fun hHeldN=>?_)
     clear hHeld hK K
     have hHeld:=hHeldN
     clear hHeldN
     try simp only[Act.put,List.getElem_toArray,List.getElem_cons_zero,List.getElem_cons_succ,List.setIfInBounds_toArray,List.set_cons_zero,List.set_cons_succ]
     refine tk 7 ?_ rfl (fun w hSw=>?_) hHeld ?_
     rotate_left
     ·((try dsimp only at hSw);go_split_ands;go_simp;(try with_reducible rfl))
     try simp only[Act.put,zA,zB,zC,zD,zE,zF]
     refine tk 8 ?_ rfl (fun w hSw=>?_) hHeld ?_
     rotate_left
     ·((try dsimp only at hSw);go_split_ands;go_simp;(try with_reducible rfl))
     try simp only[Act.put,zA,zB,zC,zD,zE,zF]
     refine tk 9 ?_ rfl (fun w hSw=>?_) hHeld ?_
     rotate_left
     ·((try dsimp only at hSw);go_split_ands;go_simp;(try with_reducible rfl))
     try simp only[Act.put,zA,zB,zC,zD,zE,zF]
     refine rdc 10 rfl fun K hK=>?_
     try simp only[zA,zB,zC]
     go_simp
     refine hK.out _ _ (⟨Blk.cell blks,Blk.cell blks⟩) ?_
     clear hHeld hK K
     intro hHeld
     try simp only[Act.put,zA,zB,zC,zD,zE,zF]
     refine rdc 11 rfl fun K hK=>?_
     try simp only[zA,zB,zC]
     go_simp
     refine hK.out _ _ (⟨Blk.cell blks,Blk.cell blks⟩) ?_
     clear hHeld hK K
     intro hHeld
     try simp only[Act.put,zA,zB,zC,zD,zE,zF]
     refine tk 12 ?_ rfl (fun w hSw=>?_) hHeld ?_
     rotate_left
     ·((try dsimp only at hSw);go_split_ands;go_simp;(try with_reducible rfl))
     try simp only[Act.put,zA,zB,zC,zD,zE,zF]
     refine wpAnyH_done (by kernel_rfl) ?_ _
     refine NoPanic.normal ?_
     refine absThen ?_
     intro V hV
     have f0:Below w.heap.size w V:=by rw[hV];exact bel
     have fp0:Blk V (w.heap.size) 25 #[.slice A0 a0.facts.length c0,.slice B0 a0.atoms.length d0]:=by rw[hV];exact blks
     have fp1:Blk V (w.heap.size+1) 28 #[.slice A1 a1.pre.facts.length c1,.slice B1 a1.pre.atoms.length d1,.slice E1 a1.post.facts.length e1,.slice F1 a1.post.atoms.length f1,.slice G1 a1.changes.length g1]:=by rw[hV];exact blks
     have fpw:Blk V (Ps) 34 #[.slice Aw D.facts.length cw,.slice Bw D.atoms.length dw]:=by rw[hV];exact blks
     have fpx0:Blk V (w1.heap.size) 34 #[.slice Ax0 a0.facts.length cx0,.slice Bx0 a0.atoms.length dx0]:=by rw[hV];exact blks
     have fpx1:Blk V (w2.heap.size) 39 #[.slice Ax1 a1.pre.facts.length cx1,.slice Bx1 a1.pre.atoms.length dx1,.slice Ex1 a1.post.facts.length ex1,.slice Fx1 a1.post.atoms.length fx1,.slice Gx1 a1.changes.length gx1]:=by rw[hV];exact blks
     have fpg:Blk V (w4.heap.size) 34 #[.slice Ag D.facts.length cg,.slice Bg D.atoms.length dg]:=by rw[hV];exact blks
     have fv:Blk V (uh3.heap.size) 34 #[.slice Ah D.facts.length ch,.slice Bh D.atoms.length dh]:=by rw[hV];exact blks
     have gXw:=Xw.below (bbox (Below.refl uh3.heap.size uh3) (.cells #[.slice Ah D.facts.length ch,.slice Bh D.atoms.length dh] 34))
     rw[←hV] at gXw
     have gXgm:=Xgm.below (bbox (Below.refl uh3.heap.size uh3) (.cells #[.slice Ah D.facts.length ch,.slice Bh D.atoms.length dh] 34))
     rw[←hV] at gXgm
     have goz:=oz.below (bbox (Below.refl uh3.heap.size uh3) (.cells #[.slice Ah D.facts.length ch,.slice Bh D.atoms.length dh] 34))
     rw[←hV] at goz
     obtain ⟨P,hP⟩:∃ P,P=uh3.heap.size:=⟨_,rfl⟩
     have zP:w17.heap.size≤P:=by omega
     have zV:uh3.heap.size≤V.heap.size:=by rw[hV];(try simp)<;>omega
     obtain ⟨lo,hlo⟩:∃ lo,lo=uh2.heap.size:=⟨_,rfl⟩
     obtain ⟨hi,hhi⟩:∃ hi,hi=uh3.heap.size:=⟨_,rfl⟩
     have zlo:w17.heap.size≤lo:=by omega
     have zhi:hi≤V.heap.size:=by omega
     have zd:P<lo∨hi≤P:=by omega
     rw[←hlo,←hhi] at goz
     rw[←hP] at fv ⊢
     clear zV hV hP hlo hhi oz oh0 oh1 oh2 zuh0 zuh1 zuh2 zuh3 hHeld p0 p1 pw px0 px1 pg Xw Xgm hB
     revert V P lo hi yh0 yh1 Kh2 eh2 Ah ch Bh dh f0 fp0 fp1 fpw fpx0 fpx1 fpg fv gXw gXgm goz zP zlo zhi zd
     exact key.out
    ·skip
     try simp only[List.getElem_toArray,List.getElem_cons_zero,List.getElem_cons_succ]
     go_simp
     refine hK.out _ _ (⟨Blk.cell blks,Blk.cell blks⟩) (fun hHeldN=>?_)
     clear hHeld hK K
     have hHeld:=hHeldN
     clear hHeldN
     try simp only[Act.put,List.getElem_toArray,List.getElem_cons_zero,List.getElem_cons_succ,List.setIfInBounds_toArray,List.set_cons_zero,List.set_cons_succ]
     refine wpAnyH_ready (rs:=[6]) (by kernel_rfl) (by simp) ?_
     refine AllReadyH.cons rfl (fun K hK=>?_) AllReadyH.nil
     try simp only[List.getElem_toArray,List.getElem_cons_zero,List.getElem_cons_succ]
     (go_simp;refine (c_impl_CallPost _ _ a0 a1 _ _ a2 _ (oh0.below bel).reads (Nat.le_refl _) (oh1.below bel).reads (oh2.below bel).reads).mono ?_;rintro e uh3 ⟨rz,rfl,oX,hBx⟩;have zuh3:uh2.heap.size+1≤uh3.heap.size:=(by have:=hBx.size;simpa using this);have hS:=bgo (w:=uh2) bel hBx;replace hB:=bgo hB hS;replace p0:=p0.next hS;replace p1:=p1.next hS;replace pw:=pw.next hS;replace px0:=px0.next hS;replace px1:=px1.next hS;replace pg:=pg.next hS;replace Xw:=Xw.below hS;replace Xgm:=Xgm.below hS;replace oh0:=oh0.below hS;replace oh1:=oh1.below hS;replace oh2:=oh2.below hS;have pv:=Blk.next (g:=uh2.heap.size) (t:=34) (cs:=#[.slice none 0 0,.slice none 0 0]) blks hBx;(replace qpv:=pv.cell;replace rpv:=pv.frozen;replace lpv:=pv.lt);have oz:=oX.lower (base':=uh2.heap.size+1) (by (try simp)<;>omega);clear oX;clear hS hBx);rw[HD.out] at oz;rw[HSB.out];replace oz:=oz.I;obtain ⟨Ah,ch,Bh,dh,rfl⟩:=oz.form
     refine hK.out _ _ (⟨Blk.cell blks,Blk.cell blks⟩) (fun hHeldN=>?_)
     clear hHeld hK K
     have hHeld:=hHeldN
     clear hHeldN
     try simp only[Act.put,List.getElem_toArray,List.getElem_cons_zero,List.getElem_cons_succ,List.setIfInBounds_toArray,List.set_cons_zero,List.set_cons_succ]
     refine tk 7 ?_ rfl (fun w hSw=>?_) hHeld ?_
     rotate_left
     ·((try dsimp only at hSw);go_split_ands;go_simp;(try with_reducible rfl))
     try simp only[Act.put,zA,zB,zC,zD,zE,zF]
     refine tk 8 ?_ rfl (fun w hSw=>?_) hHeld ?_
     rotate_left
     ·((try dsimp only at hSw);go_split_ands;go_simp;(try with_reducible rfl))
     try simp only[Act.put,zA,zB,zC,zD,zE,zF]
     refine tk 9 ?_ rfl (fun w hSw=>?_) hHeld ?_
     rotate_left
     ·((try dsimp only at hSw);go_split_ands;go_simp;(try with_reducible rfl))
     try simp only[Act.put,zA,zB,zC,zD,zE,zF]
     refine rdc 11 rfl fun K hK=>?_
     try simp only[zA,zB,zC]
     go_simp
     refine hK.out _ _ (⟨Blk.cell blks,Blk.cell blks⟩) ?_
     clear hHeld hK K
     intro hHeld
     try simp only[Act.put,zA,zB,zC,zD,zE,zF]
     refine tk 12 ?_ rfl (fun w hSw=>?_) hHeld ?_
     rotate_left
     ·((try dsimp only at hSw);go_split_ands;go_simp;(try with_reducible rfl))
     try simp only[Act.put,zA,zB,zC,zD,zE,zF]
     refine wpAnyH_done (by kernel_rfl) ?_ _
     refine NoPanic.normal ?_
     refine absThen ?_
     intro V hV
     have f0:Below w.heap.size w V:=by rw[hV];exact bel
     have fp0:Blk V (w.heap.size) 25 #[.slice A0 a0.facts.length c0,.slice B0 a0.atoms.length d0]:=by rw[hV];exact blks
     have fp1:Blk V (w.heap.size+1) 28 #[.slice A1 a1.pre.facts.length c1,.slice B1 a1.pre.atoms.length d1,.slice E1 a1.post.facts.length e1,.slice F1 a1.post.atoms.length f1,.slice G1 a1.changes.length g1]:=by rw[hV];exact blks
     have fpw:Blk V (Ps) 34 #[.slice Aw D.facts.length cw,.slice Bw D.atoms.length dw]:=by rw[hV];exact blks
     have fpx0:Blk V (w1.heap.size) 34 #[.slice Ax0 a0.facts.length cx0,.slice Bx0 a0.atoms.length dx0]:=by rw[hV];exact blks
     have fpx1:Blk V (w2.heap.size) 39 #[.slice Ax1 a1.pre.facts.length cx1,.slice Bx1 a1.pre.atoms.length dx1,.slice Ex1 a1.post.facts.length ex1,.slice Fx1 a1.post.atoms.length fx1,.slice Gx1 a1.changes.length gx1]:=by rw[hV];exact blks
     have fpg:Blk V (w4.heap.size) 34 #[.slice Ag D.facts.length cg,.slice Bg D.atoms.length dg]:=by rw[hV];exact blks
     have fv:Blk V (uh2.heap.size) 34 #[.slice Ah D.facts.length ch,.slice Bh D.atoms.length dh]:=by rw[hV];exact ((pv.set_ 0 _).set_ 1 _)
     have gXw:=(((Xw).setT pv (by decide) (by decide) 0 (.slice Ah D.facts.length ch)).setT (pv.set_ 0 _) (by decide) (by decide) 1 (.slice Bh D.atoms.length dh))
     rw[←hV] at gXw
     have gXgm:=(((Xgm).setT pv (by decide) (by decide) 0 (.slice Ah D.facts.length ch)).setT (pv.set_ 0 _) (by decide) (by decide) 1 (.slice Bh D.atoms.length dh))
     rw[←hV] at gXgm
     have goz:=(((oz).setT pv (by decide) (by decide) 0 (.slice Ah D.facts.length ch)).setT (pv.set_ 0 _) (by decide) (by decide) 1 (.slice Bh D.atoms.length dh))
     rw[←hV] at goz
     obtain ⟨P,hP⟩:∃ P,P=uh2.heap.size:=⟨_,rfl⟩
     have zP:w17.heap.size≤P:=by omega
     have zV:uh3.heap.size≤V.heap.size:=by rw[hV];(try simp)<;>omega
     obtain ⟨lo,hlo⟩:∃ lo,lo=uh2.heap.size+1:=⟨_,rfl⟩
     obtain ⟨hi,hhi⟩:∃ hi,hi=uh3.heap.size:=⟨_,rfl⟩
     have zlo:w17.heap.size≤lo:=by omega
     have zhi:hi≤V.heap.size:=by omega
     have zd:P<lo∨hi≤P:=by omega
     rw[←hlo,←hhi] at goz
     rw[←hP] at fv ⊢
     clear zV hV hP hlo hhi oz oh0 oh1 oh2 zuh0 zuh1 zuh2 zuh3 hHeld p0 p1 pw px0 px1 pg Xw Xgm hB pv qpv rpv lpv
     revert V P lo hi yh0 yh1 Kh2 eh2 Ah ch Bh dh f0 fp0 fp1 fpw fpx0 fpx1 fpg fv gXw gXgm goz zP zlo zhi zd
     exact key.out
   ·skip
    try simp only[List.getElem_toArray,List.getElem_cons_zero,List.getElem_cons_succ]
    go_simp
    refine hK.out _ _ (⟨Blk.cell blks,Blk.cell blks⟩) (fun hHeldN=>?_)
    clear hHeld hK K
    have hHeld:=hHeldN
    clear hHeldN
    try simp only[Act.put,List.getElem_toArray,List.getElem_cons_zero,List.getElem_cons_succ,List.setIfInBounds_toArray,List.set_cons_zero,List.set_cons_succ]
    refine wpAnyH_ready (rs:=[5]) (by kernel_rfl) (by simp) ?_
    refine AllReadyH.cons rfl (fun K hK=>?_) AllReadyH.nil
    try simp only[List.getElem_toArray,List.getElem_cons_zero,List.getElem_cons_succ]
    (go_simp;refine (to_ints _ _ a2 _ (hV2.out.below bel)).mono ?_;rintro e uh2 ⟨yh2,rfl,oh2,hBx⟩;have zuh2:uh1.heap.size+1≤uh2.heap.size:=(by have:=hBx.size;simpa using this);have hS:=bgo (w:=uh1) bel hBx;replace hB:=bgo hB hS;replace p0:=p0.next hS;replace p1:=p1.next hS;replace pw:=pw.next hS;replace px0:=px0.next hS;replace px1:=px1.next hS;replace pg:=pg.next hS;replace Xw:=Xw.below hS;replace Xgm:=Xgm.below hS;replace oh0:=oh0.below hS;replace oh1:=oh1.below hS;have pv:=Blk.next (g:=uh1.heap.size) (t:=34) (cs:=#[.slice none 0 0,.slice none 0 0]) blks hBx;(replace qpv:=pv.cell;replace rpv:=pv.frozen;replace lpv:=pv.lt);clear hS hBx);obtain ⟨Kh2,eh2,rfl⟩:=oh2.form
    refine hK.out _ _ (⟨Blk.cell blks,Blk.cell blks⟩) (fun hHeldN=>?_)
    clear hHeld hK K
    have hHeld:=hHeldN
    clear hHeldN
    try simp only[Act.put,List.getElem_toArray,List.getElem_cons_zero,List.getElem_cons_succ,List.setIfInBounds_toArray,List.set_cons_zero,List.set_cons_succ]
    refine wpAnyH_ready (rs:=[6]) (by kernel_rfl) (by simp) ?_
    refine AllReadyH.cons rfl (fun K hK=>?_) AllReadyH.nil
    try simp only[List.getElem_toArray,List.getElem_cons_zero,List.getElem_cons_succ]
    (go_simp;refine (c_impl_CallPost _ _ a0 a1 _ _ a2 _ (oh0.below bel).reads (Nat.le_refl _) (oh1.below bel).reads (oh2.below bel).reads).mono ?_;rintro e uh3 ⟨rz,rfl,oX,hBx⟩;have zuh3:uh2.heap.size≤uh3.heap.size:=(by have:=hBx.size;simpa using this);have hS:=bgo (w:=uh2) bel hBx;replace hB:=bgo hB hS;replace p0:=p0.next hS;replace p1:=p1.next hS;replace pw:=pw.next hS;replace px0:=px0.next hS;replace px1:=px1.next hS;replace pg:=pg.next hS;replace Xw:=Xw.below hS;replace Xgm:=Xgm.below hS;replace oh0:=oh0.below hS;replace oh1:=oh1.below hS;replace oh2:=oh2.below hS;replace pv:=pv.next hS;(replace qpv:=pv.cell;replace rpv:=pv.frozen;replace lpv:=pv.lt);have oz:=oX.lower (base':=uh2.heap.size) (by (try simp)<;>omega);clear oX;clear hS hBx);rw[HD.out] at oz;rw[HSB.out];replace oz:=oz.I;obtain ⟨Ah,ch,Bh,dh,rfl⟩:=oz.form
    refine hK.out _ _ (⟨Blk.cell blks,Blk.cell blks⟩) (fun hHeldN=>?_)
    clear hHeld hK K
    have hHeld:=hHeldN
    clear hHeldN
    try simp only[Act.put,List.getElem_toArray,List.getElem_cons_zero,List.getElem_cons_succ,List.setIfInBounds_toArray,List.set_cons_zero,List.set_cons_succ]
    refine tk 7 ?_ rfl (fun w hSw=>?_) hHeld ?_
    rotate_left
    ·((try dsimp only at hSw);go_split_ands;go_simp;(try with_reducible rfl))
    try simp only[Act.put,zA,zB,zC,zD,zE,zF]
    refine tk 8 ?_ rfl (fun w hSw=>?_) hHeld ?_
    rotate_left
    ·((try dsimp only at hSw);go_split_ands;go_simp;(try with_reducible rfl))
    try simp only[Act.put,zA,zB,zC,zD,zE,zF]
    refine tk 9 ?_ rfl (fun w hSw=>?_) hHeld ?_
    rotate_left
    ·((try dsimp only at hSw);go_split_ands;go_simp;(try with_reducible rfl))
    try simp only[Act.put,zA,zB,zC,zD,zE,zF]
    refine rdc 11 rfl fun K hK=>?_
    try simp only[zA,zB,zC]
    go_simp
    refine hK.out _ _ (⟨Blk.cell blks,Blk.cell blks⟩) ?_
    clear hHeld hK K
    intro hHeld
    try simp only[Act.put,zA,zB,zC,zD,zE,zF]
    refine tk 12 ?_ rfl (fun w hSw=>?_) hHeld ?_
    rotate_left
    ·((try dsimp only at hSw);go_split_ands;go_simp;(try with_reducible rfl))
    try simp only[Act.put,zA,zB,zC,zD,zE,zF]
    refine wpAnyH_done (by kernel_rfl) ?_ _
    refine NoPanic.normal ?_
    refine absThen ?_
    intro V hV
    have f0:Below w.heap.size w V:=by rw[hV];exact bel
    have fp0:Blk V (w.heap.size) 25 #[.slice A0 a0.facts.length c0,.slice B0 a0.atoms.length d0]:=by rw[hV];exact blks
    have fp1:Blk V (w.heap.size+1) 28 #[.slice A1 a1.pre.facts.length c1,.slice B1 a1.pre.atoms.length d1,.slice E1 a1.post.facts.length e1,.slice F1 a1.post.atoms.length f1,.slice G1 a1.changes.length g1]:=by rw[hV];exact blks
    have fpw:Blk V (Ps) 34 #[.slice Aw D.facts.length cw,.slice Bw D.atoms.length dw]:=by rw[hV];exact blks
    have fpx0:Blk V (w1.heap.size) 34 #[.slice Ax0 a0.facts.length cx0,.slice Bx0 a0.atoms.length dx0]:=by rw[hV];exact blks
    have fpx1:Blk V (w2.heap.size) 39 #[.slice Ax1 a1.pre.facts.length cx1,.slice Bx1 a1.pre.atoms.length dx1,.slice Ex1 a1.post.facts.length ex1,.slice Fx1 a1.post.atoms.length fx1,.slice Gx1 a1.changes.length gx1]:=by rw[hV];exact blks
    have fpg:Blk V (w4.heap.size) 34 #[.slice Ag D.facts.length cg,.slice Bg D.atoms.length dg]:=by rw[hV];exact blks
    have fv:Blk V (uh1.heap.size) 34 #[.slice Ah D.facts.length ch,.slice Bh D.atoms.length dh]:=by rw[hV];exact ((pv.set_ 0 _).set_ 1 _)
    have gXw:=(((Xw).setT pv (by decide) (by decide) 0 (.slice Ah D.facts.length ch)).setT (pv.set_ 0 _) (by decide) (by decide) 1 (.slice Bh D.atoms.length dh))
    rw[←hV] at gXw
    have gXgm:=(((Xgm).setT pv (by decide) (by decide) 0 (.slice Ah D.facts.length ch)).setT (pv.set_ 0 _) (by decide) (by decide) 1 (.slice Bh D.atoms.length dh))
    rw[←hV] at gXgm
    have goz:=(((oz).setT pv (by decide) (by decide) 0 (.slice Ah D.facts.length ch)).setT (pv.set_ 0 _) (by decide) (by decide) 1 (.slice Bh D.atoms.length dh))
    rw[←hV] at goz
    obtain ⟨P,hP⟩:∃ P,P=uh1.heap.size:=⟨_,rfl⟩
    have zP:w17.heap.size≤P:=by omega
    have zV:uh3.heap.size≤V.heap.size:=by rw[hV];(try simp)<;>omega
    obtain ⟨lo,hlo⟩:∃ lo,lo=uh2.heap.size:=⟨_,rfl⟩
    obtain ⟨hi,hhi⟩:∃ hi,hi=uh3.heap.size:=⟨_,rfl⟩
    have zlo:w17.heap.size≤lo:=by omega
    have zhi:hi≤V.heap.size:=by omega
    have zd:P<lo∨hi≤P:=by omega
    rw[←hlo,←hhi] at goz
    rw[←hP] at fv ⊢
    clear zV hV hP hlo hhi oz oh0 oh1 oh2 zuh0 zuh1 zuh2 zuh3 hHeld p0 p1 pw px0 px1 pg Xw Xgm hB pv qpv rpv lpv
    revert V P lo hi yh0 yh1 Kh2 eh2 Ah ch Bh dh f0 fp0 fp1 fpw fpx0 fpx1 fpg fv gXw gXgm goz zP zlo zhi zd
    exact key.out
  ·skip
   try simp only[List.getElem_toArray,List.getElem_cons_zero,List.getElem_cons_succ]
   go_simp
   refine hK.out _ _ (⟨Blk.cell blks,Blk.cell blks⟩) (fun hHeldN=>?_)
   clear hHeld hK K
   have hHeld:=hHeldN
   clear hHeldN
   try simp only[Act.put,List.getElem_toArray,List.getElem_cons_zero,List.getElem_cons_succ,List.setIfInBounds_toArray,List.set_cons_zero,List.set_cons_succ]
   refine wpAnyH_ready (rs:=[3]) (by kernel_rfl) (by simp) ?_
   refine AllReadyH.cons rfl (fun K hK=>?_) AllReadyH.nil
   try simp only[List.getElem_toArray,List.getElem_cons_zero,List.getElem_cons_succ]
   (go_simp;refine (to_ctr _ a1 _ (hV1.out.below bel)).mono ?_;rintro e uh1 ⟨yh1,rfl,oh1,hBx⟩;have zuh1:uh0.heap.size+1≤uh1.heap.size:=(by have:=hBx.size;simpa using this);have hS:=bgo (w:=uh0) bel hBx;replace hB:=bgo hB hS;replace p0:=p0.next hS;replace p1:=p1.next hS;replace pw:=pw.next hS;replace px0:=px0.next hS;replace px1:=px1.next hS;replace pg:=pg.next hS;replace Xw:=Xw.below hS;replace Xgm:=Xgm.below hS;replace oh0:=oh0.below hS;have pv:=Blk.next (g:=uh0.heap.size) (t:=34) (cs:=#[.slice none 0 0,.slice none 0 0]) blks hBx;(replace qpv:=pv.cell;replace rpv:=pv.frozen;replace lpv:=pv.lt);clear hS hBx)
   refine hK.out _ _ (⟨Blk.cell blks,Blk.cell blks⟩) (fun hHeldN=>?_)
   clear hHeld hK K
   have hHeld:=hHeldN
   clear hHeldN
   try simp only[Act.put,List.getElem_toArray,List.getElem_cons_zero,List.getElem_cons_succ,List.setIfInBounds_toArray,List.set_cons_zero,List.set_cons_succ]
   refine wpAnyH_ready (rs:=[5]) (by kernel_rfl) (by simp) ?_
   refine AllReadyH.cons rfl (fun K hK=>?_) AllReadyH.nil
   try simp only[List.getElem_toArray,List.getElem_cons_zero,List.getElem_cons_succ]
   (go_simp;refine (to_ints _ _ a2 _ (hV2.out.below bel)).mono ?_;rintro e uh2 ⟨yh2,rfl,oh2,hBx⟩;have zuh2:uh1.heap.size≤uh2.heap.size:=(by have:=hBx.size;simpa using this);have hS:=bgo (w:=uh1) bel hBx;replace hB:=bgo hB hS;replace p0:=p0.next hS;replace p1:=p1.next hS;replace pw:=pw.next hS;replace px0:=px0.next hS;replace px1:=px1.next hS;replace pg:=pg.next hS;replace Xw:=Xw.below hS;replace Xgm:=Xgm.below hS;replace oh0:=oh0.below hS;replace oh1:=oh1.below hS;replace pv:=pv.next hS;(replace qpv:=pv.cell;replace rpv:=pv.frozen;replace lpv:=pv.lt);clear hS hBx);obtain ⟨Kh2,eh2,rfl⟩:=oh2.form
   refine hK.out _ _ (⟨Blk.cell blks,Blk.cell blks⟩) (fun hHeldN=>?_)
   clear hHeld hK K
   have hHeld:=hHeldN
   clear hHeldN
   try simp only[Act.put,List.getElem_toArray,List.getElem_cons_zero,List.getElem_cons_succ,List.setIfInBounds_toArray,List.set_cons_zero,List.set_cons_succ]
   refine wpAnyH_ready (rs:=[6]) (by kernel_rfl) (by simp) ?_
   refine AllReadyH.cons rfl (fun K hK=>?_) AllReadyH.nil
   try simp only[List.getElem_toArray,List.getElem_cons_zero,List.getElem_cons_succ]
   (go_simp;refine (c_impl_CallPost _ _ a0 a1 _ _ a2 _ (oh0.below bel).reads (Nat.le_refl _) (oh1.below bel).reads (oh2.below bel).reads).mono ?_;rintro e uh3 ⟨rz,rfl,oX,hBx⟩;have zuh3:uh2.heap.size≤uh3.heap.size:=(by have:=hBx.size;simpa using this);have hS:=bgo (w:=uh2) bel hBx;replace hB:=bgo hB hS;replace p0:=p0.next hS;replace p1:=p1.next hS;replace pw:=pw.next hS;replace px0:=px0.next hS;replace px1:=px1.next hS;replace pg:=pg.next hS;replace Xw:=Xw.below hS;replace Xgm:=Xgm.below hS;replace oh0:=oh0.below hS;replace oh1:=oh1.below hS;replace oh2:=oh2.below hS;replace pv:=pv.next hS;(replace qpv:=pv.cell;replace rpv:=pv.frozen;replace lpv:=pv.lt);have oz:=oX.lower (base':=uh2.heap.size) (by (try simp)<;>omega);clear oX;clear hS hBx);rw[HD.out] at oz;rw[HSB.out];replace oz:=oz.I;obtain ⟨Ah,ch,Bh,dh,rfl⟩:=oz.form
   refine hK.out _ _ (⟨Blk.cell blks,Blk.cell blks⟩) (fun hHeldN=>?_)
   clear hHeld hK K
   have hHeld:=hHeldN
   clear hHeldN
   try simp only[Act.put,List.getElem_toArray,List.getElem_cons_zero,List.getElem_cons_succ,List.setIfInBounds_toArray,List.set_cons_zero,List.set_cons_succ]
   refine tk 7 ?_ rfl (fun w hSw=>?_) hHeld ?_
   rotate_left
   ·((try dsimp only at hSw);go_split_ands;go_simp;(try with_reducible rfl))
   try simp only[Act.put,zA,zB,zC,zD,zE,zF]
   refine tk 8 ?_ rfl (fun w hSw=>?_) hHeld ?_
   rotate_left
   ·((try dsimp only at hSw);go_split_ands;go_simp;(try with_reducible rfl))
   try simp only[Act.put,zA,zB,zC,zD,zE,zF]
   refine tk 9 ?_ rfl (fun w hSw=>?_) hHeld ?_
   rotate_left
   ·((try dsimp only at hSw);go_split_ands;go_simp;(try with_reducible rfl))
   try simp only[Act.put,zA,zB,zC,zD,zE,zF]
   refine rdc 11 rfl fun K hK=>?_
   try simp only[zA,zB,zC]
   go_simp
   refine hK.out _ _ (⟨Blk.cell blks,Blk.cell blks⟩) ?_
   clear hHeld hK K
   intro hHeld
   try simp only[Act.put,zA,zB,zC,zD,zE,zF]
   refine tk 12 ?_ rfl (fun w hSw=>?_) hHeld ?_
   rotate_left
   ·((try dsimp only at hSw);go_split_ands;go_simp;(try with_reducible rfl))
   try simp only[Act.put,zA,zB,zC,zD,zE,zF]
   refine wpAnyH_done (by kernel_rfl) ?_ _
   refine NoPanic.normal ?_
   refine absThen ?_
   intro V hV
   have f0:Below w.heap.size w V:=by rw[hV];exact bel
   have fp0:Blk V (w.heap.size) 25 #[.slice A0 a0.facts.length c0,.slice B0 a0.atoms.length d0]:=by rw[hV];exact blks
   have fp1:Blk V (w.heap.size+1) 28 #[.slice A1 a1.pre.facts.length c1,.slice B1 a1.pre.atoms.length d1,.slice E1 a1.post.facts.length e1,.slice F1 a1.post.atoms.length f1,.slice G1 a1.changes.length g1]:=by rw[hV];exact blks
   have fpw:Blk V (Ps) 34 #[.slice Aw D.facts.length cw,.slice Bw D.atoms.length dw]:=by rw[hV];exact blks
   have fpx0:Blk V (w1.heap.size) 34 #[.slice Ax0 a0.facts.length cx0,.slice Bx0 a0.atoms.length dx0]:=by rw[hV];exact blks
   have fpx1:Blk V (w2.heap.size) 39 #[.slice Ax1 a1.pre.facts.length cx1,.slice Bx1 a1.pre.atoms.length dx1,.slice Ex1 a1.post.facts.length ex1,.slice Fx1 a1.post.atoms.length fx1,.slice Gx1 a1.changes.length gx1]:=by rw[hV];exact blks
   have fpg:Blk V (w4.heap.size) 34 #[.slice Ag D.facts.length cg,.slice Bg D.atoms.length dg]:=by rw[hV];exact blks
   have fv:Blk V (uh0.heap.size) 34 #[.slice Ah D.facts.length ch,.slice Bh D.atoms.length dh]:=by rw[hV];exact ((pv.set_ 0 _).set_ 1 _)
   have gXw:=(((Xw).setT pv (by decide) (by decide) 0 (.slice Ah D.facts.length ch)).setT (pv.set_ 0 _) (by decide) (by decide) 1 (.slice Bh D.atoms.length dh))
   rw[←hV] at gXw
   have gXgm:=(((Xgm).setT pv (by decide) (by decide) 0 (.slice Ah D.facts.length ch)).setT (pv.set_ 0 _) (by decide) (by decide) 1 (.slice Bh D.atoms.length dh))
   rw[←hV] at gXgm
   have goz:=(((oz).setT pv (by decide) (by decide) 0 (.slice Ah D.facts.length ch)).setT (pv.set_ 0 _) (by decide) (by decide) 1 (.slice Bh D.atoms.length dh))
   rw[←hV] at goz
   obtain ⟨P,hP⟩:∃ P,P=uh0.heap.size:=⟨_,rfl⟩
   have zP:w17.heap.size≤P:=by omega
   have zV:uh3.heap.size≤V.heap.size:=by rw[hV];(try simp)<;>omega
   obtain ⟨lo,hlo⟩:∃ lo,lo=uh2.heap.size:=⟨_,rfl⟩
   obtain ⟨hi,hhi⟩:∃ hi,hi=uh3.heap.size:=⟨_,rfl⟩
   have zlo:w17.heap.size≤lo:=by omega
   have zhi:hi≤V.heap.size:=by omega
   have zd:P<lo∨hi≤P:=by omega
   rw[←hlo,←hhi] at goz
   rw[←hP] at fv ⊢
   clear zV hV hP hlo hhi oz oh0 oh1 oh2 zuh0 zuh1 zuh2 zuh3 hHeld p0 p1 pw px0 px1 pg Xw Xgm hB pv qpv rpv lpv
   revert V P lo hi yh0 yh1 Kh2 eh2 Ah ch Bh dh f0 fp0 fp1 fpw fpx0 fpx1 fpg fv gXw gXgm goz zP zlo zhi zd
   exact key.out
 ·skip
  try simp only[List.getElem_toArray,List.getElem_cons_zero,List.getElem_cons_succ]
  go_simp
  refine hK.out _ _ (⟨Blk.cell blks,Blk.cell blks⟩) (fun hHeldN=>?_)
  clear hHeld hK K
  have hHeld:=hHeldN
  clear hHeldN
  try simp only[Act.put,List.getElem_toArray,List.getElem_cons_zero,List.getElem_cons_succ,List.setIfInBounds_toArray,List.set_cons_zero,List.set_cons_succ]
  refine wpAnyH_ready (rs:=[1]) (by kernel_rfl) (by simp) ?_
  refine AllReadyH.cons rfl (fun K hK=>?_) AllReadyH.nil
  try simp only[List.getElem_toArray,List.getElem_cons_zero,List.getElem_cons_succ]
  (go_simp;refine (to_asn _ a0 _ (hV0.out.below bel)).mono ?_;rintro e uh0 ⟨yh0,rfl,oh0,hBx⟩;have zuh0:w17.heap.size+1≤uh0.heap.size:=(by have:=hBx.size;simpa using this);have hS:=bgo (w:=w17) bel hBx;replace hB:=bgo hB hS;replace p0:=p0.next hS;replace p1:=p1.next hS;replace pw:=pw.next hS;replace px0:=px0.next hS;replace px1:=px1.next hS;replace pg:=pg.next hS;replace Xw:=Xw.below hS;replace Xgm:=Xgm.below hS;have pv:=Blk.next (g:=w17.heap.size) (t:=34) (cs:=#[.slice none 0 0,.slice none 0 0]) blks hBx;(replace qpv:=pv.cell;replace rpv:=pv.frozen;replace lpv:=pv.lt);clear hS hBx)
  refine hK.out _ _ (⟨Blk.cell blks,Blk.cell blks⟩) (fun hHeldN=>?_)
  clear hHeld hK K
  have hHeld:=hHeldN
  clear hHeldN
  try simp only[Act.put,List.getElem_toArray,List.getElem_cons_zero,List.getElem_cons_succ,List.setIfInBounds_toArray,List.set_cons_zero,List.set_cons_succ]
  refine wpAnyH_ready (rs:=[3]) (by kernel_rfl) (by simp) ?_
  refine AllReadyH.cons rfl (fun K hK=>?_) AllReadyH.nil
  try simp only[List.getElem_toArray,List.getElem_cons_zero,List.getElem_cons_succ]
  (go_simp;refine (to_ctr _ a1 _ (hV1.out.below bel)).mono ?_;rintro e uh1 ⟨yh1,rfl,oh1,hBx⟩;have zuh1:uh0.heap.size≤uh1.heap.size:=(by have:=hBx.size;simpa using this);have hS:=bgo (w:=uh0) bel hBx;replace hB:=bgo hB hS;replace p0:=p0.next hS;replace p1:=p1.next hS;replace pw:=pw.next hS;replace px0:=px0.next hS;replace px1:=px1.next hS;replace pg:=pg.next hS;replace Xw:=Xw.below hS;replace Xgm:=Xgm.below hS;replace oh0:=oh0.below hS;replace pv:=pv.next hS;(replace qpv:=pv.cell;replace rpv:=pv.frozen;replace lpv:=pv.lt);clear hS hBx)
  refine hK.out _ _ (⟨Blk.cell blks,Blk.cell blks⟩) (fun hHeldN=>?_)
  clear hHeld hK K
  have hHeld:=hHeldN
  clear hHeldN
  try simp only[Act.put,List.getElem_toArray,List.getElem_cons_zero,List.getElem_cons_succ,List.setIfInBounds_toArray,List.set_cons_zero,List.set_cons_succ]
  refine wpAnyH_ready (rs:=[5]) (by kernel_rfl) (by simp) ?_
  refine AllReadyH.cons rfl (fun K hK=>?_) AllReadyH.nil
  try simp only[List.getElem_toArray,List.getElem_cons_zero,List.getElem_cons_succ]
  (go_simp;refine (to_ints _ _ a2 _ (hV2.out.below bel)).mono ?_;rintro e uh2 ⟨yh2,rfl,oh2,hBx⟩;have zuh2:uh1.heap.size≤uh2.heap.size:=(by have:=hBx.size;simpa using this);have hS:=bgo (w:=uh1) bel hBx;replace hB:=bgo hB hS;replace p0:=p0.next hS;replace p1:=p1.next hS;replace pw:=pw.next hS;replace px0:=px0.next hS;replace px1:=px1.next hS;replace pg:=pg.next hS;replace Xw:=Xw.below hS;replace Xgm:=Xgm.below hS;replace oh0:=oh0.below hS;replace oh1:=oh1.below hS;replace pv:=pv.next hS;(replace qpv:=pv.cell;replace rpv:=pv.frozen;replace lpv:=pv.lt);clear hS hBx);obtain ⟨Kh2,eh2,rfl⟩:=oh2.form
  refine hK.out _ _ (⟨Blk.cell blks,Blk.cell blks⟩) (fun hHeldN=>?_)
  clear hHeld hK K
  have hHeld:=hHeldN
  clear hHeldN
  try simp only[Act.put,List.getElem_toArray,List.getElem_cons_zero,List.getElem_cons_succ,List.setIfInBounds_toArray,List.set_cons_zero,List.set_cons_succ]
  refine wpAnyH_ready (rs:=[6]) (by kernel_rfl) (by simp) ?_
  refine AllReadyH.cons rfl (fun K hK=>?_) AllReadyH.nil
  try simp only[List.getElem_toArray,List.getElem_cons_zero,List.getElem_cons_succ]
  (go_simp;refine (c_impl_CallPost _ _ a0 a1 _ _ a2 _ (oh0.below bel).reads (Nat.le_refl _) (oh1.below bel).reads (oh2.below bel).reads).mono ?_;rintro e uh3 ⟨rz,rfl,oX,hBx⟩;have zuh3:uh2.heap.size≤uh3.heap.size:=(by have:=hBx.size;simpa using this);have hS:=bgo (w:=uh2) bel hBx;replace hB:=bgo hB hS;replace p0:=p0.next hS;replace p1:=p1.next hS;replace pw:=pw.next hS;replace px0:=px0.next hS;replace px1:=px1.next hS;replace pg:=pg.next hS;replace Xw:=Xw.below hS;replace Xgm:=Xgm.below hS;replace oh0:=oh0.below hS;replace oh1:=oh1.below hS;replace oh2:=oh2.below hS;replace pv:=pv.next hS;(replace qpv:=pv.cell;replace rpv:=pv.frozen;replace lpv:=pv.lt);have oz:=oX.lower (base':=uh2.heap.size) (by (try simp)<;>omega);clear oX;clear hS hBx);rw[HD.out] at oz;rw[HSB.out];replace oz:=oz.I;obtain ⟨Ah,ch,Bh,dh,rfl⟩:=oz.form
  refine hK.out _ _ (⟨Blk.cell blks,Blk.cell blks⟩) (fun hHeldN=>?_)
  clear hHeld hK K
  have hHeld:=hHeldN
  clear hHeldN
  try simp only[Act.put,List.getElem_toArray,List.getElem_cons_zero,List.getElem_cons_succ,List.setIfInBounds_toArray,List.set_cons_zero,List.set_cons_succ]
  refine tk 7 ?_ rfl (fun w hSw=>?_) hHeld ?_
  rotate_left
  ·((try dsimp only at hSw);go_split_ands;go_simp;(try with_reducible rfl))
  try simp only[Act.put,zA,zB,zC,zD,zE,zF]
  refine tk 8 ?_ rfl (fun w hSw=>?_) hHeld ?_
  rotate_left
  ·((try dsimp only at hSw);go_split_ands;go_simp;(try with_reducible rfl))
  try simp only[Act.put,zA,zB,zC,zD,zE,zF]
  refine tk 9 ?_ rfl (fun w hSw=>?_) hHeld ?_
  rotate_left
  ·((try dsimp only at hSw);go_split_ands;go_simp;(try with_reducible rfl))
  try simp only[Act.put,zA,zB,zC,zD,zE,zF]
  refine rdc 11 rfl fun K hK=>?_
  try simp only[zA,zB,zC]
  go_simp
  refine hK.out _ _ (⟨Blk.cell blks,Blk.cell blks⟩) ?_
  clear hHeld hK K
  intro hHeld
  try simp only[Act.put,zA,zB,zC,zD,zE,zF]
  refine tk 12 ?_ rfl (fun w hSw=>?_) hHeld ?_
  rotate_left
  ·((try dsimp only at hSw);go_split_ands;go_simp;(try with_reducible rfl))
  try simp only[Act.put,zA,zB,zC,zD,zE,zF]
  refine wpAnyH_done (by kernel_rfl) ?_ _
  refine NoPanic.normal ?_
  refine absThen ?_
  intro V hV
  have f0:Below w.heap.size w V:=by rw[hV];exact bel
  have fp0:Blk V (w.heap.size) 25 #[.slice A0 a0.facts.length c0,.slice B0 a0.atoms.length d0]:=by rw[hV];exact blks
  have fp1:Blk V (w.heap.size+1) 28 #[.slice A1 a1.pre.facts.length c1,.slice B1 a1.pre.atoms.length d1,.slice E1 a1.post.facts.length e1,.slice F1 a1.post.atoms.length f1,.slice G1 a1.changes.length g1]:=by rw[hV];exact blks
  have fpw:Blk V (Ps) 34 #[.slice Aw D.facts.length cw,.slice Bw D.atoms.length dw]:=by rw[hV];exact blks
  have fpx0:Blk V (w1.heap.size) 34 #[.slice Ax0 a0.facts.length cx0,.slice Bx0 a0.atoms.length dx0]:=by rw[hV];exact blks
  have fpx1:Blk V (w2.heap.size) 39 #[.slice Ax1 a1.pre.facts.length cx1,.slice Bx1 a1.pre.atoms.length dx1,.slice Ex1 a1.post.facts.length ex1,.slice Fx1 a1.post.atoms.length fx1,.slice Gx1 a1.changes.length gx1]:=by rw[hV];exact blks
  have fpg:Blk V (w4.heap.size) 34 #[.slice Ag D.facts.length cg,.slice Bg D.atoms.length dg]:=by rw[hV];exact blks
  have fv:Blk V (w17.heap.size) 34 #[.slice Ah D.facts.length ch,.slice Bh D.atoms.length dh]:=by rw[hV];exact ((pv.set_ 0 _).set_ 1 _)
  have gXw:=(((Xw).setT pv (by decide) (by decide) 0 (.slice Ah D.facts.length ch)).setT (pv.set_ 0 _) (by decide) (by decide) 1 (.slice Bh D.atoms.length dh))
  rw[←hV] at gXw
  have gXgm:=(((Xgm).setT pv (by decide) (by decide) 0 (.slice Ah D.facts.length ch)).setT (pv.set_ 0 _) (by decide) (by decide) 1 (.slice Bh D.atoms.length dh))
  rw[←hV] at gXgm
  have goz:=(((oz).setT pv (by decide) (by decide) 0 (.slice Ah D.facts.length ch)).setT (pv.set_ 0 _) (by decide) (by decide) 1 (.slice Bh D.atoms.length dh))
  rw[←hV] at goz
  obtain ⟨P,hP⟩:∃ P,P=w17.heap.size:=⟨_,rfl⟩
  have zP:w17.heap.size≤P:=by omega
  have zV:uh3.heap.size≤V.heap.size:=by rw[hV];(try simp)<;>omega
  obtain ⟨lo,hlo⟩:∃ lo,lo=uh2.heap.size:=⟨_,rfl⟩
  obtain ⟨hi,hhi⟩:∃ hi,hi=uh3.heap.size:=⟨_,rfl⟩
  have zlo:w17.heap.size≤lo:=by omega
  have zhi:hi≤V.heap.size:=by omega
  have zd:P<lo∨hi≤P:=by omega
  rw[←hlo,←hhi] at goz
  rw[←hP] at fv ⊢
  clear zV hV hP hlo hhi oz oh0 oh1 oh2 zuh0 zuh1 zuh2 zuh3 hHeld p0 p1 pw px0 px1 pg Xw Xgm hB pv qpv rpv lpv
  revert V P lo hi yh0 yh1 Kh2 eh2 Ah ch Bh dh f0 fp0 fp1 fpw fpx0 fpx1 fpg fv gXw gXgm goz zP zlo zhi zd
  exact key.out
 skip
 intro yh0 yh1 Kh2 eh2 Ah ch Bh dh Wh hB2 fp0 fp1 fpw fpx0 fpx1 fpg gXw gXgm Ph ph zWhp lh hh Xh zWhlo zWhhi zWhd
 replace p0:=fp0
 clear fp0
 replace p1:=fp1
 clear fp1
 replace pw:=fpw
 clear fpw
 replace px0:=fpx0
 clear fpx0
 replace px1:=fpx1
 clear fpx1
 replace pg:=fpg
 clear fpg
 replace Xw:=gXw
 clear gXw
 replace Xgm:=gXgm
 clear gXgm
 clear hB
 have hB:=hB2
 clear hB2
 (replace qp0:=p0.cell;replace rp0:=p0.frozen;replace lp0:=p0.lt)
 (replace qp1:=p1.cell;replace rp1:=p1.frozen;replace lp1:=p1.lt)
 (replace qpw:=pw.cell;replace rpw:=pw.frozen;replace lpw:=pw.lt)
 (replace qpx0:=px0.cell;replace rpx0:=px0.frozen;replace lpx0:=px0.lt)
 (replace qpx1:=px1.cell;replace rpx1:=px1.frozen;replace lpx1:=px1.lt)
 (replace qpg:=pg.cell;replace rpg:=pg.frozen;replace lpg:=pg.lt)
 (replace qph:=ph.cell;replace rph:=ph.frozen;replace lph:=ph.lt)
 have zWhl:=lph
 go_wp2_with fail
 refine (t_asn _ _ D _ (Xh.below bel).reads (Xw.below bel).reads).mono ?_
 rintro e w18 ⟨rfl,hBx⟩
 have hS:=bgo (w:=Wh) bel hBx
 have zw18:=hBx.size
 replace hB:=bgo hB hS
 replace p0:=p0.next hS
 replace p1:=p1.next hS
 replace pw:=pw.next hS
 replace px0:=px0.next hS
 replace px1:=px1.next hS
 replace pg:=pg.next hS
 replace ph:=ph.next hS
 replace Xw:=Xw.below hS
 replace Xgm:=Xgm.below hS
 replace Xh:=Xh.below hS
 clear hS hBx
 (replace qp0:=p0.cell;replace rp0:=p0.frozen;replace lp0:=p0.lt)
 (replace qp1:=p1.cell;replace rp1:=p1.frozen;replace lp1:=p1.lt)
 (replace qpw:=pw.cell;replace rpw:=pw.frozen;replace lpw:=pw.lt)
 (replace qpx0:=px0.cell;replace rpx0:=px0.frozen;replace lpx0:=px0.lt)
 (replace qpx1:=px1.cell;replace rpx1:=px1.frozen;replace lpx1:=px1.lt)
 (replace qpg:=pg.cell;replace rpg:=pg.frozen;replace lpg:=pg.lt)
 (replace qph:=ph.cell;replace rph:=ph.frozen;replace lph:=ph.lt)
 go_wp2_with fail
 refine (h_asn _ _ D _ _ 1 _ (Xgm.below bel) (by omega) (by omega)).mono ?_
 rintro e w19 ⟨rfl,hBx⟩
 have hS:=bgo (w:=w18) bel hBx
 have zw19:=hBx.size
 replace hB:=bgo hB hS
 replace p0:=p0.next hS
 replace p1:=p1.next hS
 replace pw:=pw.next hS
 replace px0:=px0.next hS
 replace px1:=px1.next hS
 replace pg:=pg.next hS
 replace ph:=ph.next hS
 replace Xw:=Xw.below hS
 replace Xgm:=Xgm.below hS
 replace Xh:=Xh.below hS
 clear hS hBx
 (replace qp0:=p0.cell;replace rp0:=p0.frozen;replace lp0:=p0.lt)
 (replace qp1:=p1.cell;replace rp1:=p1.frozen;replace lp1:=p1.lt)
 (replace qpw:=pw.cell;replace rpw:=pw.frozen;replace lpw:=pw.lt)
 (replace qpx0:=px0.cell;replace rpx0:=px0.frozen;replace lpx0:=px0.lt)
 (replace qpx1:=px1.cell;replace rpx1:=px1.frozen;replace lpx1:=px1.lt)
 (replace qpg:=pg.cell;replace rpg:=pg.frozen;replace lpg:=pg.lt)
 (replace qph:=ph.cell;replace rph:=ph.frozen;replace lph:=ph.lt)
 go_wp2_with fail
 go_ret
 exact ⟨rfl,hB⟩
end Go.Proofs.YtjjokmlmknllhaaGreat
