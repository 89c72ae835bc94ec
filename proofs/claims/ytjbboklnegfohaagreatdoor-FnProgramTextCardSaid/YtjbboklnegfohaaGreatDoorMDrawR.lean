/- What the reader draws: lists of commands. -/
import Derived.Test.YtjbboklnegfohaaGreatDoorMCmdV
import Derived.Deep.DeepCutAuto
import Derived.Test.YtjbboklnegfohaaGreatDoorDrawE
set_option linter.unusedSimpArgs false
set_option linter.unusedVariables false
namespace Go.Proofs.YtjbboklnegfohaaGreatDoor
open Go Go.RowKit Go.Proofs
set_option maxRecDepth 100000 in
set_option maxHeartbeats 6400000 in
theorem c_l8Draw_step (M S:Nat) (D:Int) (hD1:1≤D) (hD3:D≤3) (hS:S≤10000)
  (IH:1<D→∀ (g p:Nat) (w:World),Rdr w g p→p+M≤999000→Calls Tryz.prog 44 #[.pointer (some ⟨g,0,none⟩),.int .i64 (D - 1)] w fun e w'=>∃ r L q,e=.returned r∧CmsN w' w.heap.size r L∧1≤L.len∧L.len+L.cost≤S∧Rdr w' g q∧q≤p+M∧Fr g w w')
  (g p:Nat) (w:World) (h:Rdr w g p) (hp:p+(130+9 * M)≤999000) :
  Calls Tryz.prog 44 #[.pointer (some ⟨g,0,none⟩),.int .i64 D] w fun e w'=>∃ r L q,e=.returned r∧CmsN w' w.heap.size r L∧1≤L.len∧L.len+L.cost≤21+6 * S∧Rdr w' g q∧q≤p+(130+9 * M)∧Fr g w w':=by
 have H:=Lib.hid h
 have hlt:=h.lt
 replace IH:=Lib.hid IH
 clear h
 go_enter Tryz.func44,Tryz.ntmps44
 have hN0:=CmsN.empty w (Nat.le_refl _)
 go_wp2_with fail
 refine (c_numL g p [2,1,3,2] _ _ _ _ (H.out.below bel) (by omega) blks (by rfl) (by first|omega|(simp;omega)) (by rfl) (by simp) (by simp)).mono ?_
 rintro e w1 ⟨m,hm,rfl,hR,hF⟩
 replace hN0:=Lib.hid ((hN0.below (w':=(w.alloc (.cells #[] tC)).alloc (.cells #[.int .i64 2,.int .i64 1,.int .i64 3,.int .i64 2] tI)) bel).fr hF hlt)
 have HF1:Hid (Fr g w w1):=(((Fr.refl g w).alloc _).alloc _).trans hF
 obtain ⟨k0,rfl⟩:=Int.eq_ofNat_of_zero_le ((by decide:∀ m∈[(2:Int),1,3,2],0≤m) m hm)
 have hk1:k0≤3:=by have:=(by decide:∀ m∈[(2:Int),1,3,2],m≤3) _ hm;omega
 have hk2:1≤k0:=by have:=(by decide:∀ m∈[(2:Int),1,3,2],1≤m) _ hm;omega
 have HR1:=Lib.hid hR
 clear hm hR hF H
 go_wp2_with fail
 go_loopg [5,6] k0 (fun gh s5 s6 wr=>∃ (I:Int) (L:Cms) (q:Nat),s6=.int .i64 I∧0≤I∧I≤gh∧I+L.len=k0∧Hid (CmsN wr w.heap.size s5 L)∧Hid (L.len+L.cost≤L.len * (7+2 * S))∧Hid (q≤p+1+L.len * (42+3 * M))∧Hid (Rdr wr g q)∧Hid (Fr g w wr))
 case atStart=>exact ⟨k0,.nil,p+1,rfl,by omega,by omega,by simp[Cms.len],hN0.out,by simp[Hid,Cms.len,Cms.cost],by simp[Hid,Cms.len],HR1.out,HF1.out⟩
 case round=>
  clear hN0 HR1 HF1
  obtain ⟨I,L,q,rfl,hI0,hIg,hIL,hN,hZ,hQ,hR,hF⟩:=hrel
  obtain ⟨wo,rfl⟩:∃ x,x=wr:=⟨_,rfl⟩
  have hsz:=hF.out.size
  have hgb:g<w.heap.size:=hlt
  replace hIL:=Lib.hid hIL
  obtain ⟨A5,c5,rfl,-⟩:=hN.out.reads
  have hOL:=Lib.hid hN.out.own_lt
  by_cases hI:0<I
  ·have hI3:I≤3:=by have:=hIL.out;omega
   have hqp:q+(42+3 * M)≤999000:=by
    have h1:=hQ.out
    have h2:L.len * (42+3 * M)≤2 * (42+3 * M):=Nat.mul_le_mul_right _ (by have:=hIL.out;omega)
    omega
   go_wp2_with fail
   refine (c_l8Simple g q _ (hR.out.below bel) (by omega)).mono ?_
   rintro e w1 ⟨k,a,b,rfl,hR1,hF1⟩
   replace hR1:=Lib.hid hR1
   replace hF1:=Lib.hid hF1
   have hs1:=hF1.out.size
   have hg1:g<w1.heap.size:=by omega
   unfold simC
   have c0:Blk (w1.alloc (.cells #[.int .i64 k,.int .i64 a,.int .i64 b,.bool false,.int .i64 0,.int .i64 0,.slice none 0 0,.slice none 0 0,.slice none 0 0,.slice none 0 0] tC)) w1.heap.size tC #[.int .i64 k,.int .i64 a,.int .i64 b,.bool false,.int .i64 0,.int .i64 0,.slice none 0 0,.slice none 0 0,.slice none 0 0,.slice none 0 0]:=Blk.new _ _ _
   have F1:Hid (Fr g wo (w1.alloc (.cells #[.int .i64 k,.int .i64 a,.int .i64 b,.bool false,.int .i64 0,.int .i64 0,.slice none 0 0,.slice none 0 0,.slice none 0 0,.slice none 0 0] tC))):=hF1.out.alloc _
   have hX:∀ x,(w.heap.size≤x∧(Value.slice A5 L.len c5).ownBlock≠some x∧x≠w1.heap.size)→x≠w1.heap.size:=fun _ h=>h.2.2
   have hXg:∀ x,(w.heap.size≤x∧(Value.slice A5 L.len c5).ownBlock≠some x∧x≠w1.heap.size)→x≠g:=fun x h=>by have:=h.1;omega
   have hXN:∀ x,w1.heap.size+1≤x→w.heap.size≤x∧(Value.slice A5 L.len c5).ownBlock≠some x∧x≠w1.heap.size:=fun x h=>⟨by omega,fun e=>by have:=hOL.out x e;omega,by omega⟩
   replace hX:=Lib.hid hX
   replace hXg:=Lib.hid hXg
   replace hXN:=Lib.hid hXN
   by_cases hD:1<D
   ·go_upto_if 24 with fail
    refine (c_pick g (q+3) 4 _ (hR1.out.below bel) (by omega)).mono ?_
    rintro e w2 ⟨m,rfl,-,hR2,hF2⟩
    have c2:=c0.fr hF2 (by omega)
    have F2:=Lib.hid (F1.out.trans hF2)
    have s2:=hF2.size
    simp only[World.size_alloc] at s2
    replace hR2:=Lib.hid hR2
    clear hF2 c0 F1 hR1 hF1
    go_upto_if 24 with fail
    go_cut [7] (fun s7 wc=>s7=.pointer (some ⟨w1.heap.size,0,none⟩)∧∃ q2,Hid (Rdr wc g q2)∧q2≤q+(8+2 * M)∧Hid (Fr g wo wc)∧Hid (CmdIn wc (fun x=>w.heap.size≤x∧(Value.slice A5 L.len c5).ownBlock≠some x∧x≠w1.heap.size) w1.heap.size (6+2 * S)))
    case first=>
     by_cases hm:(m:Int)=0
     ·have t2:((m:Int) == 0)=true:=by simpa using hm
      go_wp2_with fail
      refine (c_l8Test g (q+3+1) _ hR2.out (by omega)).mono ?_
      rintro e w3 ⟨t,rfl,hR3,hF3⟩
      have c3:=c2.fr hF3 (by omega)
      have F3:=Lib.hid (F2.out.trans hF3)
      have s3:=hF3.size
      replace hR3:=Lib.hid hR3
      clear hF3 c2 F2 hR2
      go_wp2_with fail
      refine (IH.out hD g _ _ hR3.out (by omega)).mono ?_
      rintro e w4 ⟨r,B,q4,rfl,hN4,hB1,hBS,hR4,hq4,hF4⟩
      obtain ⟨AB,cB,rfl,-⟩:=hN4.reads
      have P4:=Lib.hid (hN4.part.mono fun x hx _=>hXN.out x (by omega))
      have c4:=c3.fr hF4 (by omega)
      have F4:=Lib.hid (F3.out.trans hF4)
      have s4:=hF4.size
      replace hR4:=Lib.hid hR4
      replace hBS:=Lib.hid hBS
      have C4:=Lib.hid c4
      clear hF4 c3 F3 hR3 hN4
      (replace qc4:=c4.cell;replace rc4:=c4.frozen;replace lc4:=c4.lt)
      clear c4
      go_wp2_with fail
      refine (c_pick g q4 2 _ (hR4.out.ten (by omega)) (by omega)).mono ?_
      rintro e w5 ⟨m2,rfl,-,hR5,hF5⟩
      have c5':=(ten0 C4.out (v0:=.int .i64 6) (v1:=.int .i64 0) (v2:=.int .i64 0) (v3:=.bool t.eq) (v4:=.int .i64 t.a) (v5:=.int .i64 t.b) (v6:=.slice none 0 0) (v7:=.slice none 0 0) (v8:=.slice AB B.len cB) (v9:=.slice none 0 0)).fr hF5 (by omega)
      have P5:=Lib.hid ((P4.out.keep fun x hx _=>ten0_far (hX.out x hx)).keep fun x hx hl=>hF5.block x hl (hXg.out x hx))
      have F5:=Lib.hid ((F4.out.ten (by omega)).trans hF5)
      have s5:=hF5.size
      simp only[World.size_setCell] at s5
      replace hR5:=Lib.hid hR5
      clear hF5 P4 F4 hR4 C4
      by_cases hm2:(m2:Int)=0
      ·have t3:((m2:Int) == 0)=true:=by simpa using hm2
       go_wp2_with fail
       refine (IH.out hD g _ _ hR5.out (by omega)).mono ?_
       rintro e w6 ⟨r,E,q6,rfl,hN6,hE1,hES,hR6,hq6,hF6⟩
       obtain ⟨AE,cE,rfl,-⟩:=hN6.reads
       have P6:=Lib.hid (hN6.part.mono fun x hx _=>hXN.out x (by omega))
       have c6:=c5'.fr hF6 (by omega)
       have P5:=Lib.hid (P5.out.keep fun x hx hl=>hF6.block x hl (hXg.out x hx))
       have F6:=Lib.hid (F5.out.trans hF6)
       have s6:=hF6.size
       replace hR6:=Lib.hid hR6
       replace hES:=Lib.hid hES
       have C6:=Lib.hid c6
       clear hF6 F5 hR5 hN6 c5'
       (replace qc6:=c6.cell;replace rc6:=c6.frozen;replace lc6:=c6.lt)
       clear c6
       go_wp2_with fail
       go_meet
       case rel=>exact ⟨rfl,q6,hR6.out.set_ (by simp only;omega) _,by omega,F6.out.set_ (Or.inr (by simp only;omega)) _,CmdIn.els_ (i:=⟨[],[]⟩) hX.out C6.out (RwX.none ..) (RwX.none ..) P5.out P6.out (by have:=hBS.out;have:=hES.out;simp;omega)⟩
      ·have t3:((m2:Int) == 0)=false:=by simpa using hm2
       go_wp2_with fail
       go_meet
       case rel=>exact ⟨rfl,q4+1,hR5.out,by omega,F5.out,⟨6,0,0,t,⟨[],[]⟩,B,.nil,none,0,none,0,AB,cB,none,0,c5',RwX.none ..,RwX.none ..,P5.out,PartX.nil _,by have:=hBS.out;simp[Cms.len,Cms.cost];omega⟩⟩
     ·have t2:((m:Int) == 0)=false:=by simpa using hm
      go_wp2_with fail
      go_meet
      case rel=>exact ⟨rfl,q+3+1,hR2.out,by omega,F2.out,(CmdIn.simple c2).more (by omega)⟩
    case rest=>
     obtain ⟨rfl,q2,R2,hq2,F2',C2⟩:=hcut
     clear F2 hR2 c2
     have s3:=F2'.out.size
     have s3':=C2.out.lt
     go_upto_if 46 with fail
     refine (c_pick g q2 8 _ R2.out (by omega)).mono ?_
     rintro e w4 ⟨m,rfl,-,hR2,hF2⟩
     have s4:=hF2.size
     have F3:=Lib.hid (F2'.out.trans hF2)
     have C3:=Lib.hid (C2.out.fr hF2 hXg.out (by omega))
     replace hR2:=Lib.hid hR2
     clear hF2 F2' C2 R2
     go_upto_if 46 with fail
     go_cut [7] (fun s7 wc=>s7=.pointer (some ⟨w1.heap.size,0,none⟩)∧∃ q2,Hid (Rdr wc g q2)∧q2≤q+(42+3 * M)∧Hid (Fr g wo wc)∧Hid (CmdIn wc (fun x=>w.heap.size≤x∧(Value.slice A5 L.len c5).ownBlock≠some x∧x≠w1.heap.size) w1.heap.size (6+2 * S)))
     case first=>
      by_cases hm:(m:Int)=0
      ·have t2:((m:Int) == 0)=true:=by simpa using hm
       obtain ⟨k,a,b,t0,i,body,els,AF,cF,AA,cA,AB,cB,AE,cE,c3,-⟩:=C3.out
       clear C3
       go_wp2_with fail
       refine (c_l8Test g (q2+1) _ hR2.out (by omega)).mono ?_
       rintro e w5 ⟨t,rfl,hR5,hF5⟩
       have c4:=c3.fr hF5 (by omega)
       have F5:=Lib.hid (F3.out.trans hF5)
       have s5:=hF5.size
       replace hR5:=Lib.hid hR5
       clear hF5 c3 F3 hR2
       go_wp2_with fail
       refine (c_l3Draw g (q2+1+3) _ hR5.out (by omega)).mono ?_
       rintro e w6 ⟨ra,inv,q6,rfl,hA6,-,hA1,hA2,hR6,hq6,hF6⟩
       obtain ⟨B1,d1,B2,d2,rfl,hA3,hA4⟩:=hA6.reads
       have P1:=Lib.hid (hA3.1.x (X:=(fun x=>w.heap.size≤x∧(Value.slice A5 L.len c5).ownBlock≠some x∧x≠w1.heap.size)) fun x hx _=>hXN.out x (by omega))
       have P2:=Lib.hid (hA4.1.x (X:=(fun x=>w.heap.size≤x∧(Value.slice A5 L.len c5).ownBlock≠some x∧x≠w1.heap.size)) fun x hx _=>hXN.out x (by omega))
       have c5':=c4.fr hF6 (by omega)
       have F6:=Lib.hid (F5.out.trans hF6)
       have s6:=hF6.size
       replace hR6:=Lib.hid hR6
       clear hF6 c4 F5 hR5 hA6 hA3 hA4
       go_wp2_with fail
       refine (IH.out hD g _ _ hR6.out (by omega)).mono ?_
       rintro e w7 ⟨r,B,q7,rfl,hN7,hB1,hBS,hR7,hq7,hF7⟩
       obtain ⟨AB7,cB7,rfl,-⟩:=hN7.reads
       have P7:=Lib.hid (hN7.part.mono fun x hx _=>hXN.out x (by omega))
       have P1:=Lib.hid (P1.out.keep fun x hx hl=>hF7.block x hl (hXg.out x hx))
       have P2:=Lib.hid (P2.out.keep fun x hx hl=>hF7.block x hl (hXg.out x hx))
       have c7:=c5'.fr hF7 (by omega)
       have F7:=Lib.hid (F6.out.trans hF7)
       have s7:=hF7.size
       replace hR7:=Lib.hid hR7
       replace hBS:=Lib.hid hBS
       have C7:=Lib.hid c7
       clear hF7 c5' F6 hR6 hN7
       (replace qc7:=c7.cell;replace rc7:=c7.frozen;replace lc7:=c7.lt)
       clear c7
       go_wp2_with fail
       go_meet
       case rel=>
        refine ⟨rfl,q7,Lib.hid ?_,by omega,Lib.hid ?_,Lib.hid ?_⟩
        ·exact Rdr.ten hR7.out (by omega)
        ·exact Fr.ten F7.out (by omega)
        ·exact CmdIn.ten (t:=t) (els:=.nil) C7.out hX.out P1.out P2.out P7.out (PartX.nil _) (by have:=hBS.out;simp[Cms.len,Cms.cost];omega)
      ·have t2:((m:Int) == 0)=false:=by simpa using hm
       go_wp2_with fail
       go_meet
       case rel=>exact ⟨rfl,q2+1,hR2.out,by omega,F3.out,C3.out⟩
     case rest=>
      obtain ⟨rfl,q9,R9,hq9,F9,C9⟩:=hcut
      obtain ⟨wx,rfl⟩:∃ x,x=wc:=⟨_,rfl⟩
      clear F3 hR2 C3
      obtain ⟨k,a,b,t,i,body,els,AF,cF,AA,cA,AB,cB,AE,cE,h0,h1,h2,h3,h4,hn⟩:=C9.out
      have H0:=Lib.hid h0
      (replace qh0:=h0.cell;replace rh0:=h0.frozen;replace lh0:=h0.lt)
      clear h0
      replace h1:=Lib.hid h1
      replace h2:=Lib.hid h2
      replace h3:=Lib.hid h3
      replace h4:=Lib.hid h4
      replace hn:=Lib.hid hn
      have hl9:w.heap.size≤wx.heap.size:=by have:=hF.out.size;have:=F9.out.size;omega
      have hN9:CmsN wx w.heap.size (.slice A5 L.len c5) L:=hN.out.fr F9.out hgb
      obtain ⟨cs,ho9,hT9,-⟩:=hN9
      replace hT9:=Lib.hid hT9
      replace ho9:=Lib.hid ho9
      have hL3:L.len≤2:=by have:=hIL.out;omega
      clear C9
      go_wp2_with (at_builtin;(refine appCX (base:=w.heap.size) (g0:=wx.heap.size) rfl _ _ rfl rfl (own_below ho9.out (bbox (Below.refl _ _) _)) (tenL k a b t (.slice AF i.facts.length cF) (.slice AA i.atoms.length cA) (.slice AB body.len cB) (.slice AE els.len cE)) rfl (Blk.new _ _ _) rfl rfl (tenOne _ _ _ _ _ _ _ _ _ _ _ _ _ _ _ _) (by omega) (by simp;omega) ?_);(intro A8 c8 w8 o8 g8 B8 v8;have o8:=Lib.hid o8;have g8:=Lib.hid g8;have v8:=Lib.hid v8;have B8:=Lib.hid B8))
      have kX:∀ x,x<wx.heap.size→(wx.alloc (.cells (tenL k a b t (.slice AF i.facts.length cF) (.slice AA i.atoms.length cA) (.slice AB body.len cB) (.slice AE els.len cE)).toArray tC)).heap[x]? = wx.heap[x]?:=fun x hx=>(bbox (Below.refl _ wx) _).block x hx
      have N8:CmsN w8 w.heap.size (.slice A8 (L.len+1) c8) (L.app (.cons k a b t i body els .nil)):=CmsN.grow (hT9.out.keep fun x _ hx=>kX x hx) (by omega) ((h1.out.mono fun x hx _=>⟨hx.1,hx.2.1⟩).keep fun x _ hx=>kX x hx) ((h2.out.mono fun x hx _=>⟨hx.1,hx.2.1⟩).keep fun x _ hx=>kX x hx) ((h3.out.mono fun x hx _=>⟨hx.1,hx.2.1⟩).keep fun x _ hx=>kX x hx) ((h4.out.mono fun x hx _=>⟨hx.1,hx.2.1⟩).keep fun x _ hx=>kX x hx) o8.out g8.out v8.out
      have F8:Fr g w w8:=((hF.out.trans F9.out).alloc _).goB B8.out (Nat.le_refl _)
      have R8:Rdr w8 g q9:=(R9.out.below (bbox (Below.refl _ _) _)).belowB B8.out hgb
      have hLl:(L.app (.cons k a b t i body els .nil)).len=L.len+1:=by rw[Cms.len_app];rfl
      have hLc:(L.app (.cons k a b t i body els .nil)).cost=L.cost+(i.facts.length+i.atoms.length+(body.len+body.cost)+(els.len+els.cost)):=by rw[Cms.cost_app];simp[Cms.cost]
      go_roundg (gk - 1)
      case rel=>
       refine ⟨I - 1,L.app (.cons k a b t i body els .nil),q9,rfl,by omega,by omega,by rw[hLl];have:=hIL.out;omega,N8,?_,?_,R8,F8⟩
       ·show _≤_
        rw[hLl,hLc,Nat.succ_mul];have:=hZ.out;have:=hn.out;omega
       ·show _≤_
        rw[hLl,Nat.succ_mul];have:=hQ.out;omega
      case measure=>omega
   ·have hD0:¬1<D:=hD
    have C1:=Lib.hid (CmdIn.simple (X:=fun x=>w.heap.size≤x∧(Value.slice A5 L.len c5).ownBlock≠some x∧x≠w1.heap.size) c0)
    have R1:=Lib.hid (hR1.out.below (w':=w1.alloc (.cells #[.int .i64 k,.int .i64 a,.int .i64 b,.bool false,.int .i64 0,.int .i64 0,.slice none 0 0,.slice none 0 0,.slice none 0 0,.slice none 0 0] tC)) (bbox (Below.refl _ _) _))
    obtain ⟨q9,hq9⟩:∃ q9,q9=q+3:=⟨_,rfl⟩
    rw[←hq9] at R1
    go_upto_region 12 with fail
    generalize w1.alloc (.cells #[.int .i64 k,.int .i64 a,.int .i64 b,.bool false,.int .i64 0,.int .i64 0,.slice none 0 0,.slice none 0 0,.slice none 0 0,.slice none 0 0] tC)=wx at *
    have R9:=R1
    have F9:=F1
    have C9:=C1
    clear R1 F1 C1 c0 hR1 hF1
    obtain ⟨k,a,b,t,i,body,els,AF,cF,AA,cA,AB,cB,AE,cE,h0,h1,h2,h3,h4,hn⟩:=C9.out
    have H0:=Lib.hid h0
    (replace qh0:=h0.cell;replace rh0:=h0.frozen;replace lh0:=h0.lt)
    clear h0
    replace h1:=Lib.hid h1
    replace h2:=Lib.hid h2
    replace h3:=Lib.hid h3
    replace h4:=Lib.hid h4
    replace hn:=Lib.hid hn
    have hl9:w.heap.size≤wx.heap.size:=by have:=hF.out.size;have:=F9.out.size;omega
    have hN9:CmsN wx w.heap.size (.slice A5 L.len c5) L:=hN.out.fr F9.out hgb
    obtain ⟨cs,ho9,hT9,-⟩:=hN9
    replace hT9:=Lib.hid hT9
    replace ho9:=Lib.hid ho9
    have hL3:L.len≤2:=by have:=hIL.out;omega
    clear C9
    go_wp2_with (at_builtin;(refine appCX (base:=w.heap.size) (g0:=wx.heap.size) rfl _ _ rfl rfl (own_below ho9.out (bbox (Below.refl _ _) _)) (tenL k a b t (.slice AF i.facts.length cF) (.slice AA i.atoms.length cA) (.slice AB body.len cB) (.slice AE els.len cE)) rfl (Blk.new _ _ _) rfl rfl (tenOne _ _ _ _ _ _ _ _ _ _ _ _ _ _ _ _) (by omega) (by simp;omega) ?_);(intro A8 c8 w8 o8 g8 B8 v8;have o8:=Lib.hid o8;have g8:=Lib.hid g8;have v8:=Lib.hid v8;have B8:=Lib.hid B8))
    have kX:∀ x,x<wx.heap.size→(wx.alloc (.cells (tenL k a b t (.slice AF i.facts.length cF) (.slice AA i.atoms.length cA) (.slice AB body.len cB) (.slice AE els.len cE)).toArray tC)).heap[x]? = wx.heap[x]?:=fun x hx=>(bbox (Below.refl _ wx) _).block x hx
    have N8:CmsN w8 w.heap.size (.slice A8 (L.len+1) c8) (L.app (.cons k a b t i body els .nil)):=CmsN.grow (hT9.out.keep fun x _ hx=>kX x hx) (by omega) ((h1.out.mono fun x hx _=>⟨hx.1,hx.2.1⟩).keep fun x _ hx=>kX x hx) ((h2.out.mono fun x hx _=>⟨hx.1,hx.2.1⟩).keep fun x _ hx=>kX x hx) ((h3.out.mono fun x hx _=>⟨hx.1,hx.2.1⟩).keep fun x _ hx=>kX x hx) ((h4.out.mono fun x hx _=>⟨hx.1,hx.2.1⟩).keep fun x _ hx=>kX x hx) o8.out g8.out v8.out
    have F8:Fr g w w8:=((hF.out.trans F9.out).alloc _).goB B8.out (Nat.le_refl _)
    have R8:Rdr w8 g q9:=(R9.out.below (bbox (Below.refl _ _) _)).belowB B8.out hgb
    have hLl:(L.app (.cons k a b t i body els .nil)).len=L.len+1:=by rw[Cms.len_app];rfl
    have hLc:(L.app (.cons k a b t i body els .nil)).cost=L.cost+(i.facts.length+i.atoms.length+(body.len+body.cost)+(els.len+els.cost)):=by rw[Cms.cost_app];simp[Cms.cost]
    go_roundg (gk - 1)
    case rel=>
     refine ⟨I - 1,L.app (.cons k a b t i body els .nil),q9,rfl,by omega,by omega,by rw[hLl];have:=hIL.out;omega,N8,?_,?_,R8,F8⟩
     ·show _≤_
      rw[hLl,hLc,Nat.succ_mul];have:=hZ.out;have:=hn.out;omega
     ·show _≤_
      rw[hLl,Nat.succ_mul];have:=hQ.out;omega
    case measure=>omega
  ·have hI0:I=0:=by omega
   subst hI0
   go_wp2_with fail
   refine bodyPost_ret (v:=.slice A5 L.len c5) (by simp[results,Tryz.results44,go_sem]) rfl ⟨_,rfl,L,hN.out,by have:=hIL.out;omega,?_,q,hR.out,?_,hF.out⟩
   ·have h1:=hZ.out;have h2:L.len * (7+2 * S)≤3 * (7+2 * S):=Nat.mul_le_mul_right _ (by have:=hIL.out;omega);omega
   ·have h1:=hQ.out;have h2:L.len * (42+3 * M)≤3 * (42+3 * M):=Nat.mul_le_mul_right _ (by have:=hIL.out;omega);omega
end Go.Proofs.YtjbboklnegfohaaGreatDoor

/- What the reader draws: l8Draw at all depths, l8Program. -/
namespace Go.Proofs.YtjbboklnegfohaaGreatDoor
open Go Go.RowKit Go.Proofs
theorem c_l8Draw (D:Int) (hD1:1≤D) (hD3:D≤3) (g p:Nat) (w:World) (h:Rdr w g p) (hp:p≤900000) :
  Calls Tryz.prog 44 #[.pointer (some ⟨g,0,none⟩),.int .i64 D] w fun e w'=>∃ r L q,e=.returned r∧CmsN w' w.heap.size r L∧1≤L.len∧L.len+L.cost≤903∧Rdr w' g q∧q≤p+11830∧Fr g w w':=by
 have s1:=fun (D:Int) (h1:1≤D) (h2:D≤1) (g p:Nat) (w:World) (h:Rdr w g p) (hp:p+130≤999000)=>c_l8Draw_step 0 0 D h1 (by omega) (by omega) (fun hd=>absurd hd (by omega)) g p w h (by omega)
 have s2:=fun (D:Int) (h1:1≤D) (h2:D≤2) (g p:Nat) (w:World) (h:Rdr w g p) (hp:p+1300≤999000)=>c_l8Draw_step 130 21 D h1 (by omega) (by omega) (fun hd g p w h hp=>s1 (D - 1) (by omega) (by omega) g p w h (by omega)) g p w h (by omega)
 exact c_l8Draw_step 1300 147 D hD1 hD3 (by omega) (fun hd g p w h hp=>s2 (D - 1) (by omega) (by omega) g p w h (by omega)) g p w h (by omega)
set_option maxRecDepth 100000 in
set_option maxHeartbeats 3200000 in
theorem c_l8Program (g p:Nat) (w:World) (h:Rdr w g p) (hp:p≤800000) :
  Calls Tryz.prog 23 #[.pointer (some ⟨g,0,none⟩)] w fun e w'=>∃ A c L q,e=.returned (.slice A L.len c)∧CmsV w' w.heap.size w'.heap.size A L∧1≤L.len∧L.len+L.cost≤903∧Rdr w' g q∧q≤p+11900∧Fr g w w':=by
 have H:=Lib.hid h
 have hlt:=h.lt
 clear h
 go_enter Tryz.func23,Tryz.ntmps23
 go_wp2_with fail
 refine (c_numL g p [1,2,3,1] _ _ _ _ (H.out.below bel) (by omega) blks (by rfl) (by first|omega|(simp;omega)) (by rfl) (by simp) (by simp)).mono ?_
 rintro e w1 ⟨m,hm,rfl,hR1,hF1⟩
 have F1:Hid (Fr g w w1):=((Fr.refl g w).alloc _).trans hF1
 have hm1:1≤m:=(by decide:∀ m∈[(1:Int),2,3,1],1≤m) _ hm
 have hm3:m≤3:=(by decide:∀ m∈[(1:Int),2,3,1],m≤3) _ hm
 have z1:=F1.out.size
 replace hR1:=Lib.hid hR1
 clear hm hF1 H
 go_wp2_with fail
 refine (c_l8Draw m hm1 hm3 g (p+1) _ hR1.out (by omega)).mono ?_
 rintro e w2 ⟨r,L,q,rfl,hN,hL1,hLS,hR2,hq,hF2⟩
 have F2:=Lib.hid (F1.out.trans hF2)
 have z2:=hF2.size
 obtain ⟨A,c,rfl,hV⟩:=hN.reads
 replace hR2:=Lib.hid hR2
 replace hV:=Lib.hid (hV.mono (lo':=w.heap.size) (by omega) (Nat.le_refl _))
 replace hLS:=Lib.hid hLS
 clear hF2 hN F1 hR1
 go_wp2_with fail
 refine (c_spec_ProgramValid L A c _ hV.out (by have:=hLS.out;omega) (Cms.cost_small (by have:=hLS.out;omega)) (by have:=hLS.out;have:=Cms.sz_cost L;omega)).mono ?_
 rintro e w3 ⟨rfl,hB3⟩
 have F3:=Lib.hid (F2.out.go hB3)
 have hR3:=Lib.hid (hR2.out.below hB3)
 have hV3:=Lib.hid (hV.out.below hB3)
 have z3:=hB3.size
 clear hV F2 hR2 hB3
 by_cases hv:L.prog=true
 ·go_wp2_with fail
  go_ret
  exact ⟨A,c,L,q,rfl,hV3.out.mono (Nat.le_refl _) (by omega),hL1,hLS.out,hR3.out,by omega,F3.out⟩
 ·replace hv:=Bool.eq_false_iff.2 hv
  have hLe:L.len=(L.len - 1)+1:=by omega
  obtain ⟨n,hn⟩:∃ n,n=L.len:=⟨_,rfl⟩
  rw[←hn]
  have hn0:0<n:=by omega
  have hn1:(0:Int)<(n:Int):=by omega
  replace hn:=Lib.hid hn
  obtain ⟨k,a,b,t,i,body,els,r,rfl⟩:=Cms.cons_of_len hL1
  obtain ⟨b0,o0,rfl,hb1,hb2,hA⟩:=hV3.out hL1
  obtain ⟨⟨p0,p1,p2,p3,p4,p5⟩,⟨A6,d6,p6,g6⟩,⟨A7,d7,p7,g7⟩,⟨A8,d8,p8,g8⟩,⟨A9,d9,p9,g9⟩,-⟩:=hA
  replace g6:=Lib.hid g6
  replace g7:=Lib.hid g7
  replace g8:=Lib.hid (show CmsV w3 w.heap.size w2.heap.size A8 body from g8)
  replace g9:=Lib.hid (show CmsV w3 w.heap.size w2.heap.size A9 els from g9)
  have hb3:b0<w3.heap.size:=by omega
  replace hL1:=Lib.hid hL1
  clear hLe
  go_wp2_with fail
  go_ret
  have hB:Below w3.heap.size w3 (w3.alloc (.cells #[.int .i64 k,.int .i64 a,.int .i64 b,.bool t.eq,.int .i64 t.a,.int .i64 t.b,.slice A6 i.facts.length d6,.slice A7 i.atoms.length d7,.slice A8 body.len d8,.slice A9 els.len d9] tC)):=bbox (Below.refl _ _) _
  have hK:Blk (w3.alloc (.cells #[.int .i64 k,.int .i64 a,.int .i64 b,.bool t.eq,.int .i64 t.a,.int .i64 t.b,.slice A6 i.facts.length d6,.slice A7 i.atoms.length d7,.slice A8 body.len d8,.slice A9 els.len d9] tC)) w3.heap.size tC #[.int .i64 k,.int .i64 a,.int .i64 b,.bool t.eq,.int .i64 t.a,.int .i64 t.b,.slice A6 i.facts.length d6,.slice A7 i.atoms.length d7,.slice A8 body.len d8,.slice A9 els.len d9]:=Blk.new _ _ _
  have hsz:(w3.alloc (.cells #[.int .i64 k,.int .i64 a,.int .i64 b,.bool t.eq,.int .i64 t.a,.int .i64 t.b,.slice A6 i.facts.length d6,.slice A7 i.atoms.length d7,.slice A8 body.len d8,.slice A9 els.len d9] tC)).heap.size=w3.heap.size+1:=by simp
  refine ⟨_,_,.cons k a b t i body els .nil,q,rfl,fun _=>⟨_,0,rfl,by omega,by simp,⟨⟨hK.cell 0,hK.cell 1,hK.cell 2,hK.cell 3,hK.cell 4,hK.cell 5⟩,⟨A6,d6,hK.cell 6,(g6.out.below hB).mono (Nat.le_refl _) (by simp;omega)⟩,⟨A7,d7,hK.cell 7,(g7.out.below hB).mono (Nat.le_refl _) (by simp;omega)⟩,⟨A8,d8,hK.cell 8,(g8.out.below hB).mono (Nat.le_refl _) (by simp;omega)⟩,⟨A9,d9,hK.cell 9,(g9.out.below hB).mono (Nat.le_refl _) (by simp;omega)⟩,trivial⟩⟩,by simp[Cms.len],?_,hR3.out.below hB,by omega,F3.out.go hB⟩
  have:=hLS.out
  simp only[Cms.len,Cms.cost] at this ⊢
  omega
end Go.Proofs.YtjbboklnegfohaaGreatDoor

/- What the reader draws: l8Mutate. Printed by genDrawQ.py. -/
namespace Go.Proofs.YtjbboklnegfohaaGreatDoor
open Go Go.RowKit Go.Proofs
set_option maxRecDepth 100000 in
set_option maxHeartbeats 6400000 in
theorem c_l8Mutate (g p:Nat) (w:World) (L:Cms) (A:Option Addr) (c lo hi:Nat) (hR:Rdr w g p) (hp:p≤900000) (hV:CmsV w lo hi A L) (hL1:1≤L.len) (hLS:L.len+L.cost≤903) :
  Calls Tryz.prog 26 #[.pointer (some ⟨g,0,none⟩),.slice A L.len c] w fun e w'=>∃ A' c' L',e=.returned (.slice A' L'.len c')∧CmsV w' w.heap.size w'.heap.size A' L'∧L'.len+L'.cost≤1000∧(∃ q,q≤p+3∧Rdf g q w w')∧L'.len≤c'∧1≤L'.len:=by
 have hlt:=hR.lt
 have hR0:=Lib.hid hR
 replace hV:=Lib.hid hV
 have hsm:=Lib.hid (Cms.cost_small (n:=1049600) (L:=L) (by omega))
 replace hLS:=Lib.hid hLS
 clear hR
 obtain ⟨n,hn⟩:∃ n,n=L.len:=⟨_,rfl⟩
 rw[←hn] at hL1 ⊢
 have hn9:n≤903:=by have:=hLS.out;omega
 replace hn:=Lib.hid hn
 go_enter Tryz.func26,Tryz.ntmps26
 go_wp2_with fail
 rw[hn.out]
 refine (l8Copy_go (L.sz+1) L (by omega) A c _ lo hi hV.out (by have:=hLS.out;omega) hsm.out).mono ?_
 rintro e w1 ⟨A1,c1,rfl,hC,hB1⟩
 rw[←hn.out] at hC ⊢
 replace hC:=Lib.hid hC
 have z1:=hB1.size
 have F1:=Lib.hid (Fr.ofBelow (g:=g) hB1)
 have hR1:=Lib.hid (hR0.out.below hB1)
 clear hB1 hR0 hV
 have hn0:((n:Int) == 0)=false:=by simp;omega
 go_wp2_with fail
 refine (c_pick g p n _ hR1.out (by omega)).mono ?_
 rintro e w2 ⟨k,rfl,hk,hR2,hF2⟩
 have hkn:k<n:=by omega
 have hki:(k:Int)<(n:Int):=by omega
 have hC2:=Lib.hid (hC.out.fr hF2 hlt)
 have F2:=Lib.hid (F1.out.trans hF2)
 replace hR2:=Lib.hid hR2
 clear hF2 hC hR1 F1 hk
 go_wp2_with fail
 refine (c_pick g (p+1) 50 _ hR2.out (by omega)).mono ?_
 rintro e w3 ⟨m,rfl,-,hR3,hF3⟩
 have hC3:=Lib.hid (hC2.out.fr hF3 hlt)
 have F3:=Lib.hid (show Rdf g (p+1+1) w w3 from ⟨hlt,F2.out.trans hF3,hR3⟩)
 replace hR3:=Lib.hid hR3
 clear hF3 hC2 hR2 F2
 obtain ⟨cs,ho,hT,-⟩:=hC3.out
 obtain ⟨P,kd,a,b,t,i,body,els,R,AF,cF,AA,cA,AB,cB,AE,cE,pre,post,eL,eP,ecs,s1,s2,s3,s4,s5,s6,csB,s7,s8⟩:=hT.split (k:=k) (by rw[←hn.out];exact hkn)
 rw[←hn.out] at ho
 have hcap:=Lib.hid (row_cap ho)
 obtain ⟨gb,cur,rfl,hgb,hkb,hob,hc⟩:=row_open ho (by omega)
 rw[ecs] at hc
 have hpl:pre.length=k * 10:=by rw[s2.len,eP]
 have hlb:=hkb.lt
 have frb:=hkb.frozen
 have y0:w3.cell? ⟨gb,k * 10+0,none⟩=some (.int .i64 kd):=hc _ _ (mid hpl (by rfl))
 have y1:w3.cell? ⟨gb,k * 10+1,none⟩=some (.int .i64 a):=hc _ _ (mid hpl (by rfl))
 have y2:w3.cell? ⟨gb,k * 10+2,none⟩=some (.int .i64 b):=hc _ _ (mid hpl (by rfl))
 have y3:w3.cell? ⟨gb,k * 10+3,none⟩=some (.bool t.eq):=hc _ _ (mid hpl (by rfl))
 have y4:w3.cell? ⟨gb,k * 10+4,none⟩=some (.int .i64 t.a):=hc _ _ (mid hpl (by rfl))
 have y5:w3.cell? ⟨gb,k * 10+5,none⟩=some (.int .i64 t.b):=hc _ _ (mid hpl (by rfl))
 have y6:w3.cell? ⟨gb,k * 10+6,none⟩=some (.slice AF i.facts.length cF):=hc _ _ (mid hpl (by rfl))
 have y7:w3.cell? ⟨gb,k * 10+7,none⟩=some (.slice AA i.atoms.length cA):=hc _ _ (mid hpl (by rfl))
 have y8:w3.cell? ⟨gb,k * 10+8,none⟩=some (.slice AB body.len cB):=hc _ _ (mid hpl (by rfl))
 have y9:w3.cell? ⟨gb,k * 10+9,none⟩=some (.slice AE els.len cE):=hc _ _ (mid hpl (by rfl))
 rw[Nat.add_zero] at y0
 rw[hob] at s1 s2 s3 s4 s5 s6 s8
 have hgg:g<gb:=by omega
 have Y2:=Lib.hid (s2.mono (Y:=fun x=>w.heap.size≤x∧x≠gb) fun x hx _=>⟨hx.1,fun e=>hx.2.1 (by rw[e])⟩)
 have Y3:=Lib.hid (s3.mono (Y:=fun x=>w.heap.size≤x∧x≠gb) fun x hx _=>⟨hx.1,fun e=>hx.2.1 (by rw[e])⟩)
 have Y4:=Lib.hid (s4.mono (Y:=fun x=>w.heap.size≤x∧x≠gb) fun x hx _=>⟨hx.1,fun e=>hx.2.1 (by rw[e])⟩)
 have Y5:=Lib.hid (s5.mono (Y:=fun x=>w.heap.size≤x∧x≠gb) fun x hx _=>⟨hx.1,fun e=>hx.2.1 (by rw[e])⟩)
 have Y6:=Lib.hid (s6.mono (Y:=fun x=>w.heap.size≤x∧x≠gb) fun x hx _=>⟨hx.1,fun e=>hx.2.1 (by rw[e])⟩)
 have Y8:=Lib.hid (part_of (Y:=fun x=>w.heap.size≤x∧x≠gb) s7 s8 (fun x hx=>⟨hx.1,fun e=>hx.2.1 (by rw[e])⟩) (fun x hx=>by have:=s1 x hx;exact ⟨this.1,fun e=>this.2 (by rw[e])⟩))
 have hLc:L.len=P.len+R.len+1∧L.cost=P.cost+(i.facts.length+i.atoms.length+(body.len+body.cost)+(els.len+els.cost)+R.cost):=by
  rw[eL,Cms.len_app,Cms.cost_app];simp only[Cms.len,Cms.cost];exact ⟨by omega,trivial⟩
 replace hLc:=Lib.hid hLc
 replace eL:=Lib.hid eL
 replace hc:=Lib.hid hc
 replace hkb:=Lib.hid hkb
 replace s1:=Lib.hid s1
 replace s2:=Lib.hid s2
 replace s3:=Lib.hid s3
 replace s4:=Lib.hid s4
 replace s5:=Lib.hid s5
 replace s6:=Lib.hid s6
 replace s7:=Lib.hid s7
 replace s8:=Lib.hid s8
 replace hT:=Lib.hid hT
 replace ho:=Lib.hid ho
 replace hob:=Lib.hid hob
 replace ecs:=Lib.hid ecs
 replace hpl:=Lib.hid hpl
 replace eP:=Lib.hid eP
 by_cases hm0:(m:Int)=0
 ·have b0:((m:Int) == 0)=true:=by simpa using hm0
  clear hm0
  go_wp2_with fail
  refine (c_numL g (p+1+1) [0,8,1,6,7] _ _ _ _ (hR3.out.below bel) (by omega) (Blk.new _ _ _) (by rfl) (by omega) (by rfl) (by simp) (by simp)).mono ?_
  rintro e w4 ⟨x,-,rfl,hR4,hF4⟩
  have hsame:∀ x,x≠g→x<w3.heap.size→w4.heap[x]? = w3.heap[x]?:=fun x h1 h2=>(hF4.block x (by simp;omega) h1).trans ((bbox (Below.refl _ w3) _).block x h2)
  have z4:=hF4.size
  simp only[World.size_alloc] at z4
  have hcell:∀ j,w4.cell? ⟨gb,j,none⟩=w3.cell? ⟨gb,j,none⟩:=fun j=>World.cell?_of_block (a:=⟨gb,j,none⟩) (hsame gb (by omega) hlb)
  have kb4:=(hkb.out.alloc (.cells (encI [0,8,1,6,7]).toArray tI)).fr hF4 (by omega)
  have C4:∀ j u,(pre++((tenL kd a b t (.slice AF i.facts.length cF) (.slice AA i.atoms.length cA) (.slice AB body.len cB) (.slice AE els.len cE))++post))[j]? = some u→w4.cell? ⟨gb,j,none⟩=some u:=fun j u hu=>(hcell j).trans (hc.out j u hu)
  replace C4:=Lib.hid C4
  have F4:=Lib.hid ((F3.out.alloc (.cells (encI [0,8,1,6,7]).toArray tI)).pick hF4 hR4)
  have frb4:=kb4.frozen
  replace kb4:=Lib.hid kb4
  rw[←hcell] at y0 y1 y2 y3 y4 y5 y6 y7 y8 y9
  replace hsame:=Lib.hid hsame
  have hlb4:gb<w4.heap.size:=by omega
  clear hF4 hcell frb
  go_wp2_with fail
  have D0:=cells_set kb4.out C4.out (mid (d:=0) hpl.out (by rfl)) (.int .i64 x)
  rw[mid_set hpl.out (by simp[tenL])] at D0
  have hl':(P.app (.cons x a b t i body els R)).len=n:=by rw[hn.out,hLc.out.1,Cms.len_app];simp only[Cms.len];omega
  refine bodyPost_ret (v:=.slice (some ⟨gb,0,none⟩) n c1) (by simp[results,Tryz.results26,go_sem]) rfl ⟨_,c1,P.app (.cons x a b t i body els R),by rw[hl'],?_,?_,?_,by rw[hl'];exact hcap.out,by rw[hl'];exact hL1⟩
  ·exact mut_close Y2.out Y3.out Y4.out Y5.out Y8.out Y6.out (fun x h1 h2 hl=>(Below.heap_setCell _ _ _ x h2).trans ((hsame.out x (by omega) hl))) hgb (by simp;omega) D0
  ·have h1:=hLc.out;have h2:=hLS.out;rw[Cms.len_app,Cms.cost_app];simp only[Cms.len,Cms.cost];omega
  ·exact ⟨_,by omega,(F4.out.set_ (Or.inr (by simp only;omega)) _)⟩
 have b0:((m:Int) == 0)=false:=by simpa using hm0
 clear hm0
 by_cases hm1:(m:Int)=1
 ·have b1:((m:Int) == 1)=true:=by simpa using hm1
  clear hm1
  go_wp2_with fail
  refine (c_numL g (p+1+1) [0,5,9,(-1)] _ _ _ _ (hR3.out.below bel) (by omega) (Blk.new _ _ _) (by rfl) (by omega) (by rfl) (by simp) (by simp)).mono ?_
  rintro e w4 ⟨x,-,rfl,hR4,hF4⟩
  have hsame:∀ x,x≠g→x<w3.heap.size→w4.heap[x]? = w3.heap[x]?:=fun x h1 h2=>(hF4.block x (by simp;omega) h1).trans ((bbox (Below.refl _ w3) _).block x h2)
  have z4:=hF4.size
  simp only[World.size_alloc] at z4
  have hcell:∀ j,w4.cell? ⟨gb,j,none⟩=w3.cell? ⟨gb,j,none⟩:=fun j=>World.cell?_of_block (a:=⟨gb,j,none⟩) (hsame gb (by omega) hlb)
  have kb4:=(hkb.out.alloc (.cells (encI [0,5,9,(-1)]).toArray tI)).fr hF4 (by omega)
  have C4:∀ j u,(pre++((tenL kd a b t (.slice AF i.facts.length cF) (.slice AA i.atoms.length cA) (.slice AB body.len cB) (.slice AE els.len cE))++post))[j]? = some u→w4.cell? ⟨gb,j,none⟩=some u:=fun j u hu=>(hcell j).trans (hc.out j u hu)
  replace C4:=Lib.hid C4
  have F4:=Lib.hid ((F3.out.alloc (.cells (encI [0,5,9,(-1)]).toArray tI)).pick hF4 hR4)
  have frb4:=kb4.frozen
  replace kb4:=Lib.hid kb4
  rw[←hcell] at y0 y1 y2 y3 y4 y5 y6 y7 y8 y9
  replace hsame:=Lib.hid hsame
  have hlb4:gb<w4.heap.size:=by omega
  clear hF4 hcell frb
  go_wp2_with fail
  have D0:=cells_set kb4.out C4.out (mid (d:=1) hpl.out (by rfl)) (.int .i64 x)
  rw[mid_set hpl.out (by simp[tenL])] at D0
  have hl':(P.app (.cons kd x b t i body els R)).len=n:=by rw[hn.out,hLc.out.1,Cms.len_app];simp only[Cms.len];omega
  refine bodyPost_ret (v:=.slice (some ⟨gb,0,none⟩) n c1) (by simp[results,Tryz.results26,go_sem]) rfl ⟨_,c1,P.app (.cons kd x b t i body els R),by rw[hl'],?_,?_,?_,by rw[hl'];exact hcap.out,by rw[hl'];exact hL1⟩
  ·exact mut_close Y2.out Y3.out Y4.out Y5.out Y8.out Y6.out (fun x h1 h2 hl=>(Below.heap_setCell _ _ _ x h2).trans ((hsame.out x (by omega) hl))) hgb (by simp;omega) D0
  ·have h1:=hLc.out;have h2:=hLS.out;rw[Cms.len_app,Cms.cost_app];simp only[Cms.len,Cms.cost];omega
  ·exact ⟨_,by omega,(F4.out.set_ (Or.inr (by simp only;omega)) _)⟩
 have b1:((m:Int) == 1)=false:=by simpa using hm1
 clear hm1
 by_cases hm2:(m:Int)=2
 ·have b2:((m:Int) == 2)=true:=by simpa using hm2
  clear hm2
  go_wp2_with fail
  refine (c_numL g (p+1+1) [1,9] _ _ _ _ (hR3.out.below bel) (by omega) (Blk.new _ _ _) (by rfl) (by omega) (by rfl) (by simp) (by simp)).mono ?_
  rintro e w4 ⟨x,-,rfl,hR4,hF4⟩
  have hsame:∀ x,x≠g→x<w3.heap.size→w4.heap[x]? = w3.heap[x]?:=fun x h1 h2=>(hF4.block x (by simp;omega) h1).trans ((bbox (Below.refl _ w3) _).block x h2)
  have z4:=hF4.size
  simp only[World.size_alloc] at z4
  have hcell:∀ j,w4.cell? ⟨gb,j,none⟩=w3.cell? ⟨gb,j,none⟩:=fun j=>World.cell?_of_block (a:=⟨gb,j,none⟩) (hsame gb (by omega) hlb)
  have kb4:=(hkb.out.alloc (.cells (encI [1,9]).toArray tI)).fr hF4 (by omega)
  have C4:∀ j u,(pre++((tenL kd a b t (.slice AF i.facts.length cF) (.slice AA i.atoms.length cA) (.slice AB body.len cB) (.slice AE els.len cE))++post))[j]? = some u→w4.cell? ⟨gb,j,none⟩=some u:=fun j u hu=>(hcell j).trans (hc.out j u hu)
  replace C4:=Lib.hid C4
  have F4:=Lib.hid ((F3.out.alloc (.cells (encI [1,9]).toArray tI)).pick hF4 hR4)
  have frb4:=kb4.frozen
  replace kb4:=Lib.hid kb4
  rw[←hcell] at y0 y1 y2 y3 y4 y5 y6 y7 y8 y9
  replace hsame:=Lib.hid hsame
  have hlb4:gb<w4.heap.size:=by omega
  clear hF4 hcell frb
  go_wp2_with fail
  have D0:=cells_set kb4.out C4.out (mid (d:=3) hpl.out (by rfl)) (.bool false)
  rw[mid_set hpl.out (by simp[tenL])] at D0
  have D1:=cells_set (kb4.out.set_ (k * 10+3) (.bool false)) D0 (mid (d:=4) hpl.out (by rfl)) (.int .i64 x)
  rw[mid_set hpl.out (by simp[tenL])] at D1
  have D2:=cells_set ((kb4.out.set_ (k * 10+3) (.bool false)).set_ (k * 10+4) (.int .i64 x)) D1 (mid (d:=5) hpl.out (by rfl)) (.int .i64 2)
  rw[mid_set hpl.out (by simp[tenL])] at D2
  have hl':(P.app (.cons kd a b ⟨false,x,2⟩ i body els R)).len=n:=by rw[hn.out,hLc.out.1,Cms.len_app];simp only[Cms.len];omega
  refine bodyPost_ret (v:=.slice (some ⟨gb,0,none⟩) n c1) (by simp[results,Tryz.results26,go_sem]) rfl ⟨_,c1,P.app (.cons kd a b ⟨false,x,2⟩ i body els R),by rw[hl'],?_,?_,?_,by rw[hl'];exact hcap.out,by rw[hl'];exact hL1⟩
  ·exact mut_close Y2.out Y3.out Y4.out Y5.out Y8.out Y6.out (fun x h1 h2 hl=>(Below.heap_setCell _ _ _ x h2).trans ((Below.heap_setCell _ _ _ x h2).trans ((Below.heap_setCell _ _ _ x h2).trans ((hsame.out x (by omega) hl))))) hgb (by simp;omega) D2
  ·have h1:=hLc.out;have h2:=hLS.out;rw[Cms.len_app,Cms.cost_app];simp only[Cms.len,Cms.cost];omega
  ·exact ⟨_,by omega,(((F4.out.set_ (Or.inr (by simp only;omega)) _).set_ (Or.inr (by simp only;omega)) _).set_ (Or.inr (by simp only;omega)) _)⟩
 have b2:((m:Int) == 2)=false:=by simpa using hm2
 clear hm2
 by_cases hm3:(m:Int)=3
 ·have b3:((m:Int) == 3)=true:=by simpa using hm3
  clear hm3 y0 y1 y2 y3 y4 y5 y6 y7 y8 y9 frb s1 s2 s3 s4 s5 s6 s7 s8 Y2 Y3 Y4 Y5 Y6 Y8 hkb hc eL hLc ecs hpl eP hT ho hob
  have hN:=Lib.hid hC3.out.n
  clear hC3
  go_wp2_with fail
  go_loopg [5] 17 (fun gh q5 wr=>∃ (A5:Option Addr) (c5:Nat) (M:Cms),q5=.slice A5 M.len c5∧17≤gh+M.len∧(M.len≤17∨M.len=n)∧Hid (M.cost=L.cost)∧Hid (CmsN wr w.heap.size (.slice A5 M.len c5) M)∧Hid (Rdf g (p+1+1) w wr))
  case atStart=>exact ⟨_,c1,L,by rw[←hn.out],by omega,Or.inr hn.out.symm,Lib.hid rfl,by rw[←hn.out];exact hN.out,F3.out⟩
  case round=>
   clear hN F3 hlb
   obtain ⟨A5,c5,M,rfl,hgm,hM,hcost,hN,hF⟩:=hrel
   obtain ⟨wo,rfl⟩:∃ x,x=wr:=⟨_,rfl⟩
   have hsz:=hF.out.2.1.size
   by_cases hle:M.len≤16
   ·have hlei:(M.len:Int)≤16:=by omega
    obtain ⟨cs,ho,hT,-⟩:=hN.out
    replace hT:=Lib.hid hT
    replace ho:=Lib.hid ho
    go_wp2_with (at_builtin;go_loud (refine appCX (base:=w.heap.size) (g0:=wo.heap.size) rfl _ _ rfl rfl (own_below ho.out (bbox (Below.refl _ _) _)) (tenL 4 1 0 ⟨false,0,0⟩ (.slice none 0 0) (.slice none 0 0) (.slice none 0 0) (.slice none 0 0)) rfl (Blk.new _ _ _) rfl rfl (tenOne _ _ _ _ _ _ _ _ _ _ _ _ _ _ _ _) (by omega) (by simp;omega) ?_);(intro A9 c9 w9 o9 g9 B9 v9;have o9:=Lib.hid o9;have g9:=Lib.hid g9;have v9:=Lib.hid v9;have B9:=Lib.hid B9))
    have hl:(M.app (.cons 4 1 0 ⟨false,0,0⟩ ⟨[],[]⟩ .nil .nil .nil)).len=M.len+1:=by rw[Cms.len_app];rfl
    have hc:(M.app (.cons 4 1 0 ⟨false,0,0⟩ ⟨[],[]⟩ .nil .nil .nil)).cost=M.cost:=by rw[Cms.cost_app];simp[Cms.cost,Cms.len]
    have N9:CmsN w9 w.heap.size (.slice A9 (M.len+1) c9) (M.app (.cons 4 1 0 ⟨false,0,0⟩ ⟨[],[]⟩ .nil .nil .nil)):=
     CmsN.grow (w:=wo.alloc (.cells ((tenL 4 1 0 ⟨false,0,0⟩ (.slice none 0 0) (.slice none 0 0) (.slice none 0 0) (.slice none 0 0))).toArray tC)) (v:=.slice A5 M.len c5) (AF:=none) (AA:=none) (AB:=none) (AE:=none) (cF:=0) (cA:=0) (cB:=0) (cE:=0) (hT.out.keep fun x _ hx=>(bbox (Below.refl _ wo) _).block x hx) (by omega) (RwX.none ..) (RwX.none ..) (PartX.nil _) (PartX.nil _) o9.out g9.out v9.out
    have F9:Rdf g (p+1+1) w w9:=(hF.out.alloc _).goB B9.out (Nat.le_refl _)
    go_roundg (gk - 1)
    case rel=>exact ⟨A9,c9,_,by rw[hl],by rw[hl];omega,Or.inl (by rw[hl];omega),Lib.hid (hc.trans hcost.out),by rw[hl];exact N9,F9⟩
    case measure=>omega
   ·have hlei:¬(M.len:Int)≤16:=by omega
    go_wp2_with fail
    have hcM:Hid (M.len≤c5):=Lib.hid (by obtain ⟨cs,ho,-,-⟩:=hN.out;exact row_cap ho)
    obtain ⟨A',c',e,hV⟩:=hN.out.reads
    injection e with e1 e2 e3
    subst e1
    refine bodyPost_ret (v:=.slice A5 M.len c5) (by simp[results,Tryz.results26,go_sem]) rfl ⟨_,c5,M,rfl,hV,?_,⟨_,by omega,hF.out⟩,hcM.out,by omega⟩
    have h1:=hcost.out;have h2:=hLS.out;have h3:=hn.out;omega
 have b3:((m:Int) == 3)=false:=by simpa using hm3
 clear hm3
 by_cases hm4:(m:Int)=4
 ·have b4:((m:Int) == 4)=true:=by simpa using hm4
  clear hm4
  have hkd:=hkb.out.drew
  have hbl:body.len≤903:=by have:=hLc.out;have:=hLS.out;omega
  have own7:(w3.drew.alloc (.cells ((tenL 0 0 0 ⟨false,0,0⟩ (.slice none 0 0) (.slice none 0 0) (.slice none 0 0) (.slice none 0 0))).toArray tC)).ownsRow w.heap.size tC 10 (.slice AB body.len cB) body.len csB:=own_keep s7.out fun x hx hl=>(bbox (Below.refl _ w3.drew) _).block x hl
  have kept:∀ x,x<w3.heap.size→(w3.drew.alloc (.cells ((tenL 0 0 0 ⟨false,0,0⟩ (.slice none 0 0) (.slice none 0 0) (.slice none 0 0) (.slice none 0 0))).toArray tC)).heap[x]? = w3.heap[x]?:=fun x hl=>(bbox (Below.refl _ w3.drew) _).block x hl
  replace own7:=Lib.hid own7
  replace kept:=Lib.hid kept
  go_wp2_with fail
  refine wp_region_noPanic ?_
  refine wp_region_held_drew (S:=(fun _=>True)) (by kernel_rfl) (trivial) (fun hHeld=>?_)
  refine tk 0 ?_ rfl (fun w hSw=>?_) hHeld ?_
  rotate_left
  ·((try dsimp only at hSw);go_split_ands;go_simp;(try with_reducible rfl))
  try simp only[Act.put,zA,zB,zC,zD,zE,zF]
  refine tk 1 ?_ rfl (fun w hSw=>?_) hHeld ?_
  rotate_left
  ·((try dsimp only at hSw);go_split_ands;go_simp;(try with_reducible rfl))
  try simp only[Act.put,zA,zB,zC,zD,zE,zF]
  refine tk 2 ?_ rfl (fun w hSw=>?_) hHeld ?_
  rotate_left
  ·((try dsimp only at hSw);go_split_ands;go_simp;(try with_reducible rfl))
  try simp only[Act.put,zA,zB,zC,zD,zE,zF]
  refine tk 3 ?_ rfl (fun w hSw=>?_) hHeld ?_
  rotate_left
  ·((try dsimp only at hSw);go_split_ands;go_simp;(try with_reducible rfl))
  try simp only[Act.put,zA,zB,zC,zD,zE,zF]
  refine tk 5 ?_ rfl (fun w hSw=>?_) hHeld ?_
  rotate_left
  ·((try dsimp only at hSw);go_split_ands;go_simp;(try with_reducible rfl))
  try simp only[Act.put,zA,zB,zC,zD,zE,zF]
  refine wpAnyH_ready (rs:=[4,7]) (by kernel_rfl) (by simp) ?_
  refine AllReadyH.cons rfl (fun K hK=>?_) (AllReadyH.cons rfl (fun K hK=>?_) (AllReadyH.nil))
  ·try simp only[List.getElem_toArray,List.getElem_cons_zero,List.getElem_cons_succ]
   go_simp
   refine hK.out _ _ trivial (fun hHeldN=>?_)
   clear hHeld hK K
   have hHeld:=hHeldN
   clear hHeldN
   try simp only[Act.put,List.getElem_toArray,List.getElem_cons_zero,List.getElem_cons_succ,List.setIfInBounds_toArray,List.set_cons_zero,List.set_cons_succ]
   refine wpAnyH_ready (rs:=[6,7]) (by kernel_rfl) (by simp) ?_
   refine AllReadyH.cons rfl (fun K hK=>?_) (AllReadyH.cons rfl (fun K hK=>?_) (AllReadyH.nil))
   ·try simp only[List.getElem_toArray,List.getElem_cons_zero,List.getElem_cons_succ]
    go_simp
    refine hK.out _ _ trivial (fun hHeldN=>?_)
    clear hHeld hK K
    have hHeld:=hHeldN
    clear hHeldN
    try simp only[Act.put,List.getElem_toArray,List.getElem_cons_zero,List.getElem_cons_succ,List.setIfInBounds_toArray,List.set_cons_zero,List.set_cons_succ]
    refine wpAnyH_ready (rs:=[7]) (by kernel_rfl) (by simp) ?_
    refine AllReadyH.cons rfl (fun K hK=>?_) (AllReadyH.nil)
    try simp only[List.getElem_toArray,List.getElem_cons_zero,List.getElem_cons_succ]
    go_simp
    refine hK.out _ _ trivial (fun hHeldN=>?_)
    clear hHeld hK K
    have hHeld:=hHeldN
    clear hHeldN
    try simp only[Act.put,List.getElem_toArray,List.getElem_cons_zero,List.getElem_cons_succ,List.setIfInBounds_toArray,List.set_cons_zero,List.set_cons_succ]
    refine wpAnyH_ready (rs:=[8]) (by kernel_rfl) (by simp) ?_
    refine AllReadyH.cons rfl (fun K hK=>?_) (AllReadyH.nil)
    skip
    refine stepCX (base:=w.heap.size) (g0:=w3.heap.size) rfl _ _ rfl rfl own7.out (tenL 0 0 0 ⟨false,0,0⟩ (.slice none 0 0) (.slice none 0 0) (.slice none 0 0) (.slice none 0 0)) rfl (Blk.new w3.drew tC _) rfl rfl (tenOne _ _ _ _ _ _ _ _ _ _ _ _ _ _ _ _) (by omega) (by simp;omega) ?_;intro A9 c9 w9 o9 g9 B9 v9;obtain ⟨g8,cur8,rfl,e8,hk8,hob8,hc8⟩:=row_open o9 (by omega)
    have hgn:(Value.slice AB body.len cB).ownBlock≠some gb:=fun e=>(s1.out gb e).2 rfl
    have same9:∀ x,x<w3.heap.size→(Value.slice AB body.len cB).ownBlock≠some x→w9.heap[x]? = w3.heap[x]?:=fun x h1 h2=>(g9.block x (by simp;omega) (fun e=>h2 e.symm)).trans (kept.out x h1)
    have y89:w9.cell? ⟨gb,k * 10+8,none⟩=some (.slice AB body.len cB):=(World.cell?_of_block (a:=⟨gb,k * 10+8,none⟩) (same9 gb hlb hgn)).trans y8
    have hkb9:Blk w9 gb tC cur:=(same9 gb hlb hgn).trans hkb.out
    have fr9:=hkb9.frozen
    have fr8:=hk8.frozen
    have hpl8:csB.length=body.len * 10:=s8.out.len
    have hne8:gb≠g8:=fun e=>v9.elim (fun h=>hgn (Eq.trans (show (Value.slice AB body.len cB).ownBlock=(Value.slice (some ⟨g8,0,none⟩) (body.len+1) c9).ownBlock from h.symm) (hob8.trans (by rw[e])))) (fun h=>by rw[hob8] at h;injection h with h;simp at h;omega)
    have hc8':∀ j u,(csB++([.int .i64 0,.int .i64 0,.int .i64 0,.bool false,.int .i64 0,.int .i64 0,.slice none 0 0,.slice none 0 0,.slice none 0 0,.slice none 0 0]++[]))[j]? = some u→w9.cell? ⟨g8,j,none⟩=some u:=fun j u hu=>hc8 j u (by rw[List.append_nil] at hu;exact hu)
    have zz0:w9.cell? ⟨g8,body.len * 10,none⟩=some (.int .i64 0):=hc8' _ _ (mid (d:=0) hpl8 (by rfl))
    have zz1:w9.cell? ⟨g8,body.len * 10+1,none⟩=some (.int .i64 0):=hc8' _ _ (mid (d:=1) hpl8 (by rfl))
    have zz2:w9.cell? ⟨g8,body.len * 10+2,none⟩=some (.int .i64 0):=hc8' _ _ (mid (d:=2) hpl8 (by rfl))
    have zz3:w9.cell? ⟨g8,body.len * 10+3,none⟩=some (.bool false):=hc8' _ _ (mid (d:=3) hpl8 (by rfl))
    have zz4:w9.cell? ⟨g8,body.len * 10+4,none⟩=some (.int .i64 0):=hc8' _ _ (mid (d:=4) hpl8 (by rfl))
    have zz5:w9.cell? ⟨g8,body.len * 10+5,none⟩=some (.int .i64 0):=hc8' _ _ (mid (d:=5) hpl8 (by rfl))
    have zz6:w9.cell? ⟨g8,body.len * 10+6,none⟩=some (.slice none 0 0):=hc8' _ _ (mid (d:=6) hpl8 (by rfl))
    have zz7:w9.cell? ⟨g8,body.len * 10+7,none⟩=some (.slice none 0 0):=hc8' _ _ (mid (d:=7) hpl8 (by rfl))
    have zz8:w9.cell? ⟨g8,body.len * 10+8,none⟩=some (.slice none 0 0):=hc8' _ _ (mid (d:=8) hpl8 (by rfl))
    have zz9:w9.cell? ⟨g8,body.len * 10+9,none⟩=some (.slice none 0 0):=hc8' _ _ (mid (d:=9) hpl8 (by rfl))
    have hb1:(body.len:Int)<(body.len:Int)+1:=by omega
    have hx8:∀ x,x<w3.heap.size→(Value.slice AB body.len cB).ownBlock≠some x→x≠g8:=fun x h1 h2 e=>v9.elim (fun h=>h2 (Eq.trans (show (Value.slice AB body.len cB).ownBlock=(Value.slice (some ⟨g8,0,none⟩) (body.len+1) c9).ownBlock from h.symm) (hob8.trans (by rw[e])))) (fun h=>by rw[hob8] at h;injection h with h;simp at h;omega)
    have F9:Rdf g (p+1+1) w w9:=((F3.out.drew).alloc _).goB B9 (Nat.le_refl _)
    have hgb9:w9.heap[gb]? = w3.heap[gb]?:=same9 gb hlb hgn
    have z9:=B9.size
    simp at z9
    replace hx8:=Lib.hid hx8
    replace F9:=Lib.hid F9
    replace hgb9:=Lib.hid hgb9
    replace same9:=Lib.hid same9
    replace hc8':=Lib.hid hc8'
    replace hk8:=Lib.hid hk8
    replace hkb9:=Lib.hid hkb9
    replace g9:=Lib.hid g9
    replace B9:=Lib.hid B9
    replace v9:=Lib.hid v9
    replace o9:=Lib.hid o9
    replace hpl8:=Lib.hid hpl8
    replace hob8:=Lib.hid hob8
    clear hc8 hgn
    refine hK.out _ _ trivial (fun hHeldN=>?_)
    clear hHeld hK K
    have hHeld:=hHeldN
    clear hHeldN
    try simp only[Act.put,List.getElem_toArray,List.getElem_cons_zero,List.getElem_cons_succ,List.setIfInBounds_toArray,List.set_cons_zero,List.set_cons_succ]
    refine tk 11 ?_ rfl (fun w hSw=>?_) hHeld ?_
    rotate_left
    ·((try dsimp only at hSw);go_split_ands;go_simp;(try with_reducible rfl))
    try simp only[Act.put,zA,zB,zC,zD,zE,zF]
    refine tk 12 ?_ rfl (fun w hSw=>?_) hHeld ?_
    rotate_left
    ·((try dsimp only at hSw);go_split_ands;go_simp;(try with_reducible rfl))
    try simp only[Act.put,zA,zB,zC,zD,zE,zF]
    refine wpAnyH_ready (rs:=[9,13]) (by kernel_rfl) (by simp) ?_
    refine AllReadyH.cons rfl (fun K hK=>?_) (AllReadyH.cons rfl (fun K hK=>?_) (AllReadyH.nil))
    ·try simp only[List.getElem_toArray,List.getElem_cons_zero,List.getElem_cons_succ]
     go_simp
     refine hK.out _ _ trivial (fun hHeldN=>?_)
     clear hHeld hK K
     have hHeld:=hHeldN
     clear hHeldN
     try simp only[Act.put,List.getElem_toArray,List.getElem_cons_zero,List.getElem_cons_succ,List.setIfInBounds_toArray,List.set_cons_zero,List.set_cons_succ]
     refine wpAnyH_ready (rs:=[10,13]) (by kernel_rfl) (by simp) ?_
     refine AllReadyH.cons rfl (fun K hK=>?_) (AllReadyH.cons rfl (fun K hK=>?_) (AllReadyH.nil))
     ·try simp only[List.getElem_toArray,List.getElem_cons_zero,List.getElem_cons_succ]
      go_simp
      refine hK.out _ _ trivial (fun hHeldN=>?_)
      clear hHeld hK K
      have hHeld:=hHeldN
      clear hHeldN
      try simp only[Act.put,List.getElem_toArray,List.getElem_cons_zero,List.getElem_cons_succ,List.setIfInBounds_toArray,List.set_cons_zero,List.set_cons_succ]
      refine wpAnyH_ready (rs:=[13]) (by kernel_rfl) (by simp) ?_
      refine AllReadyH.cons rfl (fun K hK=>?_) (AllReadyH.nil)
      try simp only[List.getElem_toArray,List.getElem_cons_zero,List.getElem_cons_succ]
      go_simp
      refine hK.out _ _ trivial (fun hHeldN=>?_)
      clear hHeld hK K
      have hHeld:=hHeldN
      clear hHeldN
      try simp only[Act.put,List.getElem_toArray,List.getElem_cons_zero,List.getElem_cons_succ,List.setIfInBounds_toArray,List.set_cons_zero,List.set_cons_succ]
      refine wpAnyH_done (by kernel_rfl) ?_ _
      refine NoPanic.normal ?_
      have hl':(P.app (.cons kd a b t i (body.app (.cons 5 1 0 ⟨false,0,0⟩ ⟨[],[]⟩ .nil .nil .nil)) els R)).len=n:=by rw[hn.out,hLc.out.1,Cms.len_app];simp only[Cms.len];omega
      have hT:=mut4A (c9:=c9) (cF:=cF) (cA:=cA) (cE:=cE) s2.out s3.out s4.out s5.out s6.out s8.out hx8.out same9.out e8 hne8 hk8.out hpl8.out hc8'.out hkb9.out hgb9.out hc.out hpl.out hgb F9.out
      replace hT:=Lib.hid hT
      replace hl':=Lib.hid hl'
      go_wp2_with fail
      refine bodyPost_ret (v:=.slice (some ⟨gb,0,none⟩) n c1) (by simp[results,Tryz.results26,go_sem]) rfl ⟨_,c1,P.app (.cons kd a b t i (body.app (.cons 5 1 0 ⟨false,0,0⟩ ⟨[],[]⟩ .nil .nil .nil)) els R),by rw[hl'.out],hT.out.1,?_,⟨_,by omega,hT.out.2⟩,by rw[hl'.out];exact hcap.out,by rw[hl'.out];exact hL1⟩
      have h1:=hLc.out;have h2:=hLS.out;rw[Cms.len_app,Cms.cost_app];simp only[Cms.len,Cms.cost,Cms.len_app,Cms.cost_app];simp;omega
     ·try simp only[List.getElem_toArray,List.getElem_cons_zero,List.getElem_cons_succ]
      go_simp
      refine hK.out _ _ trivial (fun hHeldN=>?_)
      clear hHeld hK K
      have hHeld:=hHeldN
      clear hHeldN
      try simp only[Act.put,List.getElem_toArray,List.getElem_cons_zero,List.getElem_cons_succ,List.setIfInBounds_toArray,List.set_cons_zero,List.set_cons_succ]
      refine wpAnyH_ready (rs:=[10]) (by kernel_rfl) (by simp) ?_
      refine AllReadyH.cons rfl (fun K hK=>?_) (AllReadyH.nil)
      try simp only[List.getElem_toArray,List.getElem_cons_zero,List.getElem_cons_succ]
      go_simp
      refine hK.out _ _ trivial (fun hHeldN=>?_)
      clear hHeld hK K
      have hHeld:=hHeldN
      clear hHeldN
      try simp only[Act.put,List.getElem_toArray,List.getElem_cons_zero,List.getElem_cons_succ,List.setIfInBounds_toArray,List.set_cons_zero,List.set_cons_succ]
      refine wpAnyH_done (by kernel_rfl) ?_ _
      refine NoPanic.normal ?_
      have hl':(P.app (.cons kd a b t i (body.app (.cons 5 1 0 ⟨false,0,0⟩ ⟨[],[]⟩ .nil .nil .nil)) els R)).len=n:=by rw[hn.out,hLc.out.1,Cms.len_app];simp only[Cms.len];omega
      have hT:=mut4B (c9:=c9) (cF:=cF) (cA:=cA) (cE:=cE) s2.out s3.out s4.out s5.out s6.out s8.out hx8.out same9.out e8 hne8 hk8.out hpl8.out hc8'.out hkb9.out hgb9.out hc.out hpl.out hgb F9.out
      replace hT:=Lib.hid hT
      replace hl':=Lib.hid hl'
      go_wp2_with fail
      refine bodyPost_ret (v:=.slice (some ⟨gb,0,none⟩) n c1) (by simp[results,Tryz.results26,go_sem]) rfl ⟨_,c1,P.app (.cons kd a b t i (body.app (.cons 5 1 0 ⟨false,0,0⟩ ⟨[],[]⟩ .nil .nil .nil)) els R),by rw[hl'.out],hT.out.1,?_,⟨_,by omega,hT.out.2⟩,by rw[hl'.out];exact hcap.out,by rw[hl'.out];exact hL1⟩
      have h1:=hLc.out;have h2:=hLS.out;rw[Cms.len_app,Cms.cost_app];simp only[Cms.len,Cms.cost,Cms.len_app,Cms.cost_app];simp;omega
    ·try simp only[List.getElem_toArray,List.getElem_cons_zero,List.getElem_cons_succ]
     go_simp
     refine hK.out _ _ trivial (fun hHeldN=>?_)
     clear hHeld hK K
     have hHeld:=hHeldN
     clear hHeldN
     try simp only[Act.put,List.getElem_toArray,List.getElem_cons_zero,List.getElem_cons_succ,List.setIfInBounds_toArray,List.set_cons_zero,List.set_cons_succ]
     refine wpAnyH_ready (rs:=[9]) (by kernel_rfl) (by simp) ?_
     refine AllReadyH.cons rfl (fun K hK=>?_) (AllReadyH.nil)
     try simp only[List.getElem_toArray,List.getElem_cons_zero,List.getElem_cons_succ]
     go_simp
     refine hK.out _ _ trivial (fun hHeldN=>?_)
     clear hHeld hK K
     have hHeld:=hHeldN
     clear hHeldN
     try simp only[Act.put,List.getElem_toArray,List.getElem_cons_zero,List.getElem_cons_succ,List.setIfInBounds_toArray,List.set_cons_zero,List.set_cons_succ]
     refine wpAnyH_ready (rs:=[10]) (by kernel_rfl) (by simp) ?_
     refine AllReadyH.cons rfl (fun K hK=>?_) (AllReadyH.nil)
     try simp only[List.getElem_toArray,List.getElem_cons_zero,List.getElem_cons_succ]
     go_simp
     refine hK.out _ _ trivial (fun hHeldN=>?_)
     clear hHeld hK K
     have hHeld:=hHeldN
     clear hHeldN
     try simp only[Act.put,List.getElem_toArray,List.getElem_cons_zero,List.getElem_cons_succ,List.setIfInBounds_toArray,List.set_cons_zero,List.set_cons_succ]
     refine wpAnyH_done (by kernel_rfl) ?_ _
     refine NoPanic.normal ?_
     have hl':(P.app (.cons kd a b t i (body.app (.cons 5 1 0 ⟨false,0,0⟩ ⟨[],[]⟩ .nil .nil .nil)) els R)).len=n:=by rw[hn.out,hLc.out.1,Cms.len_app];simp only[Cms.len];omega
     have hT:=mut4B (c9:=c9) (cF:=cF) (cA:=cA) (cE:=cE) s2.out s3.out s4.out s5.out s6.out s8.out hx8.out same9.out e8 hne8 hk8.out hpl8.out hc8'.out hkb9.out hgb9.out hc.out hpl.out hgb F9.out
     replace hT:=Lib.hid hT
     replace hl':=Lib.hid hl'
     go_wp2_with fail
     refine bodyPost_ret (v:=.slice (some ⟨gb,0,none⟩) n c1) (by simp[results,Tryz.results26,go_sem]) rfl ⟨_,c1,P.app (.cons kd a b t i (body.app (.cons 5 1 0 ⟨false,0,0⟩ ⟨[],[]⟩ .nil .nil .nil)) els R),by rw[hl'.out],hT.out.1,?_,⟨_,by omega,hT.out.2⟩,by rw[hl'.out];exact hcap.out,by rw[hl'.out];exact hL1⟩
     have h1:=hLc.out;have h2:=hLS.out;rw[Cms.len_app,Cms.cost_app];simp only[Cms.len,Cms.cost,Cms.len_app,Cms.cost_app];simp;omega
   ·try simp only[List.getElem_toArray,List.getElem_cons_zero,List.getElem_cons_succ]
    go_simp
    refine hK.out _ _ trivial (fun hHeldN=>?_)
    clear hHeld hK K
    have hHeld:=hHeldN
    clear hHeldN
    try simp only[Act.put,List.getElem_toArray,List.getElem_cons_zero,List.getElem_cons_succ,List.setIfInBounds_toArray,List.set_cons_zero,List.set_cons_succ]
    refine wpAnyH_ready (rs:=[6]) (by kernel_rfl) (by simp) ?_
    refine AllReadyH.cons rfl (fun K hK=>?_) (AllReadyH.nil)
    try simp only[List.getElem_toArray,List.getElem_cons_zero,List.getElem_cons_succ]
    go_simp
    refine hK.out _ _ trivial (fun hHeldN=>?_)
    clear hHeld hK K
    have hHeld:=hHeldN
    clear hHeldN
    try simp only[Act.put,List.getElem_toArray,List.getElem_cons_zero,List.getElem_cons_succ,List.setIfInBounds_toArray,List.set_cons_zero,List.set_cons_succ]
    refine wpAnyH_ready (rs:=[8]) (by kernel_rfl) (by simp) ?_
    refine AllReadyH.cons rfl (fun K hK=>?_) (AllReadyH.nil)
    skip
    refine stepCX (base:=w.heap.size) (g0:=w3.heap.size) rfl _ _ rfl rfl own7.out (tenL 0 0 0 ⟨false,0,0⟩ (.slice none 0 0) (.slice none 0 0) (.slice none 0 0) (.slice none 0 0)) rfl (Blk.new w3.drew tC _) rfl rfl (tenOne _ _ _ _ _ _ _ _ _ _ _ _ _ _ _ _) (by omega) (by simp;omega) ?_;intro A9 c9 w9 o9 g9 B9 v9;obtain ⟨g8,cur8,rfl,e8,hk8,hob8,hc8⟩:=row_open o9 (by omega)
    have hgn:(Value.slice AB body.len cB).ownBlock≠some gb:=fun e=>(s1.out gb e).2 rfl
    have same9:∀ x,x<w3.heap.size→(Value.slice AB body.len cB).ownBlock≠some x→w9.heap[x]? = w3.heap[x]?:=fun x h1 h2=>(g9.block x (by simp;omega) (fun e=>h2 e.symm)).trans (kept.out x h1)
    have y89:w9.cell? ⟨gb,k * 10+8,none⟩=some (.slice AB body.len cB):=(World.cell?_of_block (a:=⟨gb,k * 10+8,none⟩) (same9 gb hlb hgn)).trans y8
    have hkb9:Blk w9 gb tC cur:=(same9 gb hlb hgn).trans hkb.out
    have fr9:=hkb9.frozen
    have fr8:=hk8.frozen
    have hpl8:csB.length=body.len * 10:=s8.out.len
    have hne8:gb≠g8:=fun e=>v9.elim (fun h=>hgn (Eq.trans (show (Value.slice AB body.len cB).ownBlock=(Value.slice (some ⟨g8,0,none⟩) (body.len+1) c9).ownBlock from h.symm) (hob8.trans (by rw[e])))) (fun h=>by rw[hob8] at h;injection h with h;simp at h;omega)
    have hc8':∀ j u,(csB++([.int .i64 0,.int .i64 0,.int .i64 0,.bool false,.int .i64 0,.int .i64 0,.slice none 0 0,.slice none 0 0,.slice none 0 0,.slice none 0 0]++[]))[j]? = some u→w9.cell? ⟨g8,j,none⟩=some u:=fun j u hu=>hc8 j u (by rw[List.append_nil] at hu;exact hu)
    have zz0:w9.cell? ⟨g8,body.len * 10,none⟩=some (.int .i64 0):=hc8' _ _ (mid (d:=0) hpl8 (by rfl))
    have zz1:w9.cell? ⟨g8,body.len * 10+1,none⟩=some (.int .i64 0):=hc8' _ _ (mid (d:=1) hpl8 (by rfl))
    have zz2:w9.cell? ⟨g8,body.len * 10+2,none⟩=some (.int .i64 0):=hc8' _ _ (mid (d:=2) hpl8 (by rfl))
    have zz3:w9.cell? ⟨g8,body.len * 10+3,none⟩=some (.bool false):=hc8' _ _ (mid (d:=3) hpl8 (by rfl))
    have zz4:w9.cell? ⟨g8,body.len * 10+4,none⟩=some (.int .i64 0):=hc8' _ _ (mid (d:=4) hpl8 (by rfl))
    have zz5:w9.cell? ⟨g8,body.len * 10+5,none⟩=some (.int .i64 0):=hc8' _ _ (mid (d:=5) hpl8 (by rfl))
    have zz6:w9.cell? ⟨g8,body.len * 10+6,none⟩=some (.slice none 0 0):=hc8' _ _ (mid (d:=6) hpl8 (by rfl))
    have zz7:w9.cell? ⟨g8,body.len * 10+7,none⟩=some (.slice none 0 0):=hc8' _ _ (mid (d:=7) hpl8 (by rfl))
    have zz8:w9.cell? ⟨g8,body.len * 10+8,none⟩=some (.slice none 0 0):=hc8' _ _ (mid (d:=8) hpl8 (by rfl))
    have zz9:w9.cell? ⟨g8,body.len * 10+9,none⟩=some (.slice none 0 0):=hc8' _ _ (mid (d:=9) hpl8 (by rfl))
    have hb1:(body.len:Int)<(body.len:Int)+1:=by omega
    have hx8:∀ x,x<w3.heap.size→(Value.slice AB body.len cB).ownBlock≠some x→x≠g8:=fun x h1 h2 e=>v9.elim (fun h=>h2 (Eq.trans (show (Value.slice AB body.len cB).ownBlock=(Value.slice (some ⟨g8,0,none⟩) (body.len+1) c9).ownBlock from h.symm) (hob8.trans (by rw[e])))) (fun h=>by rw[hob8] at h;injection h with h;simp at h;omega)
    have F9:Rdf g (p+1+1) w w9:=((F3.out.drew).alloc _).goB B9 (Nat.le_refl _)
    have hgb9:w9.heap[gb]? = w3.heap[gb]?:=same9 gb hlb hgn
    have z9:=B9.size
    simp at z9
    replace hx8:=Lib.hid hx8
    replace F9:=Lib.hid F9
    replace hgb9:=Lib.hid hgb9
    replace same9:=Lib.hid same9
    replace hc8':=Lib.hid hc8'
    replace hk8:=Lib.hid hk8
    replace hkb9:=Lib.hid hkb9
    replace g9:=Lib.hid g9
    replace B9:=Lib.hid B9
    replace v9:=Lib.hid v9
    replace o9:=Lib.hid o9
    replace hpl8:=Lib.hid hpl8
    replace hob8:=Lib.hid hob8
    clear hc8 hgn
    refine hK.out _ _ trivial (fun hHeldN=>?_)
    clear hHeld hK K
    have hHeld:=hHeldN
    clear hHeldN
    try simp only[Act.put,List.getElem_toArray,List.getElem_cons_zero,List.getElem_cons_succ,List.setIfInBounds_toArray,List.set_cons_zero,List.set_cons_succ]
    refine tk 11 ?_ rfl (fun w hSw=>?_) hHeld ?_
    rotate_left
    ·((try dsimp only at hSw);go_split_ands;go_simp;(try with_reducible rfl))
    try simp only[Act.put,zA,zB,zC,zD,zE,zF]
    refine tk 12 ?_ rfl (fun w hSw=>?_) hHeld ?_
    rotate_left
    ·((try dsimp only at hSw);go_split_ands;go_simp;(try with_reducible rfl))
    try simp only[Act.put,zA,zB,zC,zD,zE,zF]
    refine wpAnyH_ready (rs:=[9,13]) (by kernel_rfl) (by simp) ?_
    refine AllReadyH.cons rfl (fun K hK=>?_) (AllReadyH.cons rfl (fun K hK=>?_) (AllReadyH.nil))
    ·try simp only[List.getElem_toArray,List.getElem_cons_zero,List.getElem_cons_succ]
     go_simp
     refine hK.out _ _ trivial (fun hHeldN=>?_)
     clear hHeld hK K
     have hHeld:=hHeldN
     clear hHeldN
     try simp only[Act.put,List.getElem_toArray,List.getElem_cons_zero,List.getElem_cons_succ,List.setIfInBounds_toArray,List.set_cons_zero,List.set_cons_succ]
     refine wpAnyH_ready (rs:=[10,13]) (by kernel_rfl) (by simp) ?_
     refine AllReadyH.cons rfl (fun K hK=>?_) (AllReadyH.cons rfl (fun K hK=>?_) (AllReadyH.nil))
     ·try simp only[List.getElem_toArray,List.getElem_cons_zero,List.getElem_cons_succ]
      go_simp
      refine hK.out _ _ trivial (fun hHeldN=>?_)
      clear hHeld hK K
      have hHeld:=hHeldN
      clear hHeldN
      try simp only[Act.put,List.getElem_toArray,List.getElem_cons_zero,List.getElem_cons_succ,List.setIfInBounds_toArray,List.set_cons_zero,List.set_cons_succ]
      refine wpAnyH_ready (rs:=[13]) (by kernel_rfl) (by simp) ?_
      refine AllReadyH.cons rfl (fun K hK=>?_) (AllReadyH.nil)
      try simp only[List.getElem_toArray,List.getElem_cons_zero,List.getElem_cons_succ]
      go_simp
      refine hK.out _ _ trivial (fun hHeldN=>?_)
      clear hHeld hK K
      have hHeld:=hHeldN
      clear hHeldN
      try simp only[Act.put,List.getElem_toArray,List.getElem_cons_zero,List.getElem_cons_succ,List.setIfInBounds_toArray,List.set_cons_zero,List.set_cons_succ]
      refine wpAnyH_done (by kernel_rfl) ?_ _
      refine NoPanic.normal ?_
      have hl':(P.app (.cons kd a b t i (body.app (.cons 5 1 0 ⟨false,0,0⟩ ⟨[],[]⟩ .nil .nil .nil)) els R)).len=n:=by rw[hn.out,hLc.out.1,Cms.len_app];simp only[Cms.len];omega
      have hT:=mut4A (c9:=c9) (cF:=cF) (cA:=cA) (cE:=cE) s2.out s3.out s4.out s5.out s6.out s8.out hx8.out same9.out e8 hne8 hk8.out hpl8.out hc8'.out hkb9.out hgb9.out hc.out hpl.out hgb F9.out
      replace hT:=Lib.hid hT
      replace hl':=Lib.hid hl'
      go_wp2_with fail
      refine bodyPost_ret (v:=.slice (some ⟨gb,0,none⟩) n c1) (by simp[results,Tryz.results26,go_sem]) rfl ⟨_,c1,P.app (.cons kd a b t i (body.app (.cons 5 1 0 ⟨false,0,0⟩ ⟨[],[]⟩ .nil .nil .nil)) els R),by rw[hl'.out],hT.out.1,?_,⟨_,by omega,hT.out.2⟩,by rw[hl'.out];exact hcap.out,by rw[hl'.out];exact hL1⟩
      have h1:=hLc.out;have h2:=hLS.out;rw[Cms.len_app,Cms.cost_app];simp only[Cms.len,Cms.cost,Cms.len_app,Cms.cost_app];simp;omega
     ·try simp only[List.getElem_toArray,List.getElem_cons_zero,List.getElem_cons_succ]
      go_simp
      refine hK.out _ _ trivial (fun hHeldN=>?_)
      clear hHeld hK K
      have hHeld:=hHeldN
      clear hHeldN
      try simp only[Act.put,List.getElem_toArray,List.getElem_cons_zero,List.getElem_cons_succ,List.setIfInBounds_toArray,List.set_cons_zero,List.set_cons_succ]
      refine wpAnyH_ready (rs:=[10]) (by kernel_rfl) (by simp) ?_
      refine AllReadyH.cons rfl (fun K hK=>?_) (AllReadyH.nil)
      try simp only[List.getElem_toArray,List.getElem_cons_zero,List.getElem_cons_succ]
      go_simp
      refine hK.out _ _ trivial (fun hHeldN=>?_)
      clear hHeld hK K
      have hHeld:=hHeldN
      clear hHeldN
      try simp only[Act.put,List.getElem_toArray,List.getElem_cons_zero,List.getElem_cons_succ,List.setIfInBounds_toArray,List.set_cons_zero,List.set_cons_succ]
      refine wpAnyH_done (by kernel_rfl) ?_ _
      refine NoPanic.normal ?_
      have hl':(P.app (.cons kd a b t i (body.app (.cons 5 1 0 ⟨false,0,0⟩ ⟨[],[]⟩ .nil .nil .nil)) els R)).len=n:=by rw[hn.out,hLc.out.1,Cms.len_app];simp only[Cms.len];omega
      have hT:=mut4B (c9:=c9) (cF:=cF) (cA:=cA) (cE:=cE) s2.out s3.out s4.out s5.out s6.out s8.out hx8.out same9.out e8 hne8 hk8.out hpl8.out hc8'.out hkb9.out hgb9.out hc.out hpl.out hgb F9.out
      replace hT:=Lib.hid hT
      replace hl':=Lib.hid hl'
      go_wp2_with fail
      refine bodyPost_ret (v:=.slice (some ⟨gb,0,none⟩) n c1) (by simp[results,Tryz.results26,go_sem]) rfl ⟨_,c1,P.app (.cons kd a b t i (body.app (.cons 5 1 0 ⟨false,0,0⟩ ⟨[],[]⟩ .nil .nil .nil)) els R),by rw[hl'.out],hT.out.1,?_,⟨_,by omega,hT.out.2⟩,by rw[hl'.out];exact hcap.out,by rw[hl'.out];exact hL1⟩
      have h1:=hLc.out;have h2:=hLS.out;rw[Cms.len_app,Cms.cost_app];simp only[Cms.len,Cms.cost,Cms.len_app,Cms.cost_app];simp;omega
    ·try simp only[List.getElem_toArray,List.getElem_cons_zero,List.getElem_cons_succ]
     go_simp
     refine hK.out _ _ trivial (fun hHeldN=>?_)
     clear hHeld hK K
     have hHeld:=hHeldN
     clear hHeldN
     try simp only[Act.put,List.getElem_toArray,List.getElem_cons_zero,List.getElem_cons_succ,List.setIfInBounds_toArray,List.set_cons_zero,List.set_cons_succ]
     refine wpAnyH_ready (rs:=[9]) (by kernel_rfl) (by simp) ?_
     refine AllReadyH.cons rfl (fun K hK=>?_) (AllReadyH.nil)
     try simp only[List.getElem_toArray,List.getElem_cons_zero,List.getElem_cons_succ]
     go_simp
     refine hK.out _ _ trivial (fun hHeldN=>?_)
     clear hHeld hK K
     have hHeld:=hHeldN
     clear hHeldN
     try simp only[Act.put,List.getElem_toArray,List.getElem_cons_zero,List.getElem_cons_succ,List.setIfInBounds_toArray,List.set_cons_zero,List.set_cons_succ]
     refine wpAnyH_ready (rs:=[10]) (by kernel_rfl) (by simp) ?_
     refine AllReadyH.cons rfl (fun K hK=>?_) (AllReadyH.nil)
     try simp only[List.getElem_toArray,List.getElem_cons_zero,List.getElem_cons_succ]
     go_simp
     refine hK.out _ _ trivial (fun hHeldN=>?_)
     clear hHeld hK K
     have hHeld:=hHeldN
     clear hHeldN
     try simp only[Act.put,List.getElem_toArray,List.getElem_cons_zero,List.getElem_cons_succ,List.setIfInBounds_toArray,List.set_cons_zero,List.set_cons_succ]
     refine wpAnyH_done (by kernel_rfl) ?_ _
     refine NoPanic.normal ?_
     have hl':(P.app (.cons kd a b t i (body.app (.cons 5 1 0 ⟨false,0,0⟩ ⟨[],[]⟩ .nil .nil .nil)) els R)).len=n:=by rw[hn.out,hLc.out.1,Cms.len_app];simp only[Cms.len];omega
     have hT:=mut4B (c9:=c9) (cF:=cF) (cA:=cA) (cE:=cE) s2.out s3.out s4.out s5.out s6.out s8.out hx8.out same9.out e8 hne8 hk8.out hpl8.out hc8'.out hkb9.out hgb9.out hc.out hpl.out hgb F9.out
     replace hT:=Lib.hid hT
     replace hl':=Lib.hid hl'
     go_wp2_with fail
     refine bodyPost_ret (v:=.slice (some ⟨gb,0,none⟩) n c1) (by simp[results,Tryz.results26,go_sem]) rfl ⟨_,c1,P.app (.cons kd a b t i (body.app (.cons 5 1 0 ⟨false,0,0⟩ ⟨[],[]⟩ .nil .nil .nil)) els R),by rw[hl'.out],hT.out.1,?_,⟨_,by omega,hT.out.2⟩,by rw[hl'.out];exact hcap.out,by rw[hl'.out];exact hL1⟩
     have h1:=hLc.out;have h2:=hLS.out;rw[Cms.len_app,Cms.cost_app];simp only[Cms.len,Cms.cost,Cms.len_app,Cms.cost_app];simp;omega
  ·try simp only[List.getElem_toArray,List.getElem_cons_zero,List.getElem_cons_succ]
   go_simp
   refine hK.out _ _ trivial (fun hHeldN=>?_)
   clear hHeld hK K
   have hHeld:=hHeldN
   clear hHeldN
   try simp only[Act.put,List.getElem_toArray,List.getElem_cons_zero,List.getElem_cons_succ,List.setIfInBounds_toArray,List.set_cons_zero,List.set_cons_succ]
   refine wpAnyH_ready (rs:=[4]) (by kernel_rfl) (by simp) ?_
   refine AllReadyH.cons rfl (fun K hK=>?_) (AllReadyH.nil)
   try simp only[List.getElem_toArray,List.getElem_cons_zero,List.getElem_cons_succ]
   go_simp
   refine hK.out _ _ trivial (fun hHeldN=>?_)
   clear hHeld hK K
   have hHeld:=hHeldN
   clear hHeldN
   try simp only[Act.put,List.getElem_toArray,List.getElem_cons_zero,List.getElem_cons_succ,List.setIfInBounds_toArray,List.set_cons_zero,List.set_cons_succ]
   refine wpAnyH_ready (rs:=[6]) (by kernel_rfl) (by simp) ?_
   refine AllReadyH.cons rfl (fun K hK=>?_) (AllReadyH.nil)
   try simp only[List.getElem_toArray,List.getElem_cons_zero,List.getElem_cons_succ]
   go_simp
   refine hK.out _ _ trivial (fun hHeldN=>?_)
   clear hHeld hK K
   have hHeld:=hHeldN
   clear hHeldN
   try simp only[Act.put,List.getElem_toArray,List.getElem_cons_zero,List.getElem_cons_succ,List.setIfInBounds_toArray,List.set_cons_zero,List.set_cons_succ]
   refine wpAnyH_ready (rs:=[8]) (by kernel_rfl) (by simp) ?_
   refine AllReadyH.cons rfl (fun K hK=>?_) (AllReadyH.nil)
   skip
   refine stepCX (base:=w.heap.size) (g0:=w3.heap.size) rfl _ _ rfl rfl own7.out (tenL 0 0 0 ⟨false,0,0⟩ (.slice none 0 0) (.slice none 0 0) (.slice none 0 0) (.slice none 0 0)) rfl (Blk.new w3.drew tC _) rfl rfl (tenOne _ _ _ _ _ _ _ _ _ _ _ _ _ _ _ _) (by omega) (by simp;omega) ?_;intro A9 c9 w9 o9 g9 B9 v9;obtain ⟨g8,cur8,rfl,e8,hk8,hob8,hc8⟩:=row_open o9 (by omega)
   have hgn:(Value.slice AB body.len cB).ownBlock≠some gb:=fun e=>(s1.out gb e).2 rfl
   have same9:∀ x,x<w3.heap.size→(Value.slice AB body.len cB).ownBlock≠some x→w9.heap[x]? = w3.heap[x]?:=fun x h1 h2=>(g9.block x (by simp;omega) (fun e=>h2 e.symm)).trans (kept.out x h1)
   have y89:w9.cell? ⟨gb,k * 10+8,none⟩=some (.slice AB body.len cB):=(World.cell?_of_block (a:=⟨gb,k * 10+8,none⟩) (same9 gb hlb hgn)).trans y8
   have hkb9:Blk w9 gb tC cur:=(same9 gb hlb hgn).trans hkb.out
   have fr9:=hkb9.frozen
   have fr8:=hk8.frozen
   have hpl8:csB.length=body.len * 10:=s8.out.len
   have hne8:gb≠g8:=fun e=>v9.elim (fun h=>hgn (Eq.trans (show (Value.slice AB body.len cB).ownBlock=(Value.slice (some ⟨g8,0,none⟩) (body.len+1) c9).ownBlock from h.symm) (hob8.trans (by rw[e])))) (fun h=>by rw[hob8] at h;injection h with h;simp at h;omega)
   have hc8':∀ j u,(csB++([.int .i64 0,.int .i64 0,.int .i64 0,.bool false,.int .i64 0,.int .i64 0,.slice none 0 0,.slice none 0 0,.slice none 0 0,.slice none 0 0]++[]))[j]? = some u→w9.cell? ⟨g8,j,none⟩=some u:=fun j u hu=>hc8 j u (by rw[List.append_nil] at hu;exact hu)
   have zz0:w9.cell? ⟨g8,body.len * 10,none⟩=some (.int .i64 0):=hc8' _ _ (mid (d:=0) hpl8 (by rfl))
   have zz1:w9.cell? ⟨g8,body.len * 10+1,none⟩=some (.int .i64 0):=hc8' _ _ (mid (d:=1) hpl8 (by rfl))
   have zz2:w9.cell? ⟨g8,body.len * 10+2,none⟩=some (.int .i64 0):=hc8' _ _ (mid (d:=2) hpl8 (by rfl))
   have zz3:w9.cell? ⟨g8,body.len * 10+3,none⟩=some (.bool false):=hc8' _ _ (mid (d:=3) hpl8 (by rfl))
   have zz4:w9.cell? ⟨g8,body.len * 10+4,none⟩=some (.int .i64 0):=hc8' _ _ (mid (d:=4) hpl8 (by rfl))
   have zz5:w9.cell? ⟨g8,body.len * 10+5,none⟩=some (.int .i64 0):=hc8' _ _ (mid (d:=5) hpl8 (by rfl))
   have zz6:w9.cell? ⟨g8,body.len * 10+6,none⟩=some (.slice none 0 0):=hc8' _ _ (mid (d:=6) hpl8 (by rfl))
   have zz7:w9.cell? ⟨g8,body.len * 10+7,none⟩=some (.slice none 0 0):=hc8' _ _ (mid (d:=7) hpl8 (by rfl))
   have zz8:w9.cell? ⟨g8,body.len * 10+8,none⟩=some (.slice none 0 0):=hc8' _ _ (mid (d:=8) hpl8 (by rfl))
   have zz9:w9.cell? ⟨g8,body.len * 10+9,none⟩=some (.slice none 0 0):=hc8' _ _ (mid (d:=9) hpl8 (by rfl))
   have hb1:(body.len:Int)<(body.len:Int)+1:=by omega
   have hx8:∀ x,x<w3.heap.size→(Value.slice AB body.len cB).ownBlock≠some x→x≠g8:=fun x h1 h2 e=>v9.elim (fun h=>h2 (Eq.trans (show (Value.slice AB body.len cB).ownBlock=(Value.slice (some ⟨g8,0,none⟩) (body.len+1) c9).ownBlock from h.symm) (hob8.trans (by rw[e])))) (fun h=>by rw[hob8] at h;injection h with h;simp at h;omega)
   have F9:Rdf g (p+1+1) w w9:=((F3.out.drew).alloc _).goB B9 (Nat.le_refl _)
   have hgb9:w9.heap[gb]? = w3.heap[gb]?:=same9 gb hlb hgn
   have z9:=B9.size
   simp at z9
   replace hx8:=Lib.hid hx8
   replace F9:=Lib.hid F9
   replace hgb9:=Lib.hid hgb9
   replace same9:=Lib.hid same9
   replace hc8':=Lib.hid hc8'
   replace hk8:=Lib.hid hk8
   replace hkb9:=Lib.hid hkb9
   replace g9:=Lib.hid g9
   replace B9:=Lib.hid B9
   replace v9:=Lib.hid v9
   replace o9:=Lib.hid o9
   replace hpl8:=Lib.hid hpl8
   replace hob8:=Lib.hid hob8
   clear hc8 hgn
   refine hK.out _ _ trivial (fun hHeldN=>?_)
   clear hHeld hK K
   have hHeld:=hHeldN
   clear hHeldN
   try simp only[Act.put,List.getElem_toArray,List.getElem_cons_zero,List.getElem_cons_succ,List.setIfInBounds_toArray,List.set_cons_zero,List.set_cons_succ]
   refine tk 11 ?_ rfl (fun w hSw=>?_) hHeld ?_
   rotate_left
   ·((try dsimp only at hSw);go_split_ands;go_simp;(try with_reducible rfl))
   try simp only[Act.put,zA,zB,zC,zD,zE,zF]
   refine tk 12 ?_ rfl (fun w hSw=>?_) hHeld ?_
   rotate_left
   ·((try dsimp only at hSw);go_split_ands;go_simp;(try with_reducible rfl))
   try simp only[Act.put,zA,zB,zC,zD,zE,zF]
   refine wpAnyH_ready (rs:=[9,13]) (by kernel_rfl) (by simp) ?_
   refine AllReadyH.cons rfl (fun K hK=>?_) (AllReadyH.cons rfl (fun K hK=>?_) (AllReadyH.nil))
   ·try simp only[List.getElem_toArray,List.getElem_cons_zero,List.getElem_cons_succ]
    go_simp
    refine hK.out _ _ trivial (fun hHeldN=>?_)
    clear hHeld hK K
    have hHeld:=hHeldN
    clear hHeldN
    try simp only[Act.put,List.getElem_toArray,List.getElem_cons_zero,List.getElem_cons_succ,List.setIfInBounds_toArray,List.set_cons_zero,List.set_cons_succ]
    refine wpAnyH_ready (rs:=[10,13]) (by kernel_rfl) (by simp) ?_
    refine AllReadyH.cons rfl (fun K hK=>?_) (AllReadyH.cons rfl (fun K hK=>?_) (AllReadyH.nil))
    ·try simp only[List.getElem_toArray,List.getElem_cons_zero,List.getElem_cons_succ]
     go_simp
     refine hK.out _ _ trivial (fun hHeldN=>?_)
     clear hHeld hK K
     have hHeld:=hHeldN
     clear hHeldN
     try simp only[Act.put,List.getElem_toArray,List.getElem_cons_zero,List.getElem_cons_succ,List.setIfInBounds_toArray,List.set_cons_zero,List.set_cons_succ]
     refine wpAnyH_ready (rs:=[13]) (by kernel_rfl) (by simp) ?_
     refine AllReadyH.cons rfl (fun K hK=>?_) (AllReadyH.nil)
     try simp only[List.getElem_toArray,List.getElem_cons_zero,List.getElem_cons_succ]
     go_simp
     refine hK.out _ _ trivial (fun hHeldN=>?_)
     clear hHeld hK K
     have hHeld:=hHeldN
     clear hHeldN
     try simp only[Act.put,List.getElem_toArray,List.getElem_cons_zero,List.getElem_cons_succ,List.setIfInBounds_toArray,List.set_cons_zero,List.set_cons_succ]
     refine wpAnyH_done (by kernel_rfl) ?_ _
     refine NoPanic.normal ?_
     have hl':(P.app (.cons kd a b t i (body.app (.cons 5 1 0 ⟨false,0,0⟩ ⟨[],[]⟩ .nil .nil .nil)) els R)).len=n:=by rw[hn.out,hLc.out.1,Cms.len_app];simp only[Cms.len];omega
     have hT:=mut4A (c9:=c9) (cF:=cF) (cA:=cA) (cE:=cE) s2.out s3.out s4.out s5.out s6.out s8.out hx8.out same9.out e8 hne8 hk8.out hpl8.out hc8'.out hkb9.out hgb9.out hc.out hpl.out hgb F9.out
     replace hT:=Lib.hid hT
     replace hl':=Lib.hid hl'
     go_wp2_with fail
     refine bodyPost_ret (v:=.slice (some ⟨gb,0,none⟩) n c1) (by simp[results,Tryz.results26,go_sem]) rfl ⟨_,c1,P.app (.cons kd a b t i (body.app (.cons 5 1 0 ⟨false,0,0⟩ ⟨[],[]⟩ .nil .nil .nil)) els R),by rw[hl'.out],hT.out.1,?_,⟨_,by omega,hT.out.2⟩,by rw[hl'.out];exact hcap.out,by rw[hl'.out];exact hL1⟩
     have h1:=hLc.out;have h2:=hLS.out;rw[Cms.len_app,Cms.cost_app];simp only[Cms.len,Cms.cost,Cms.len_app,Cms.cost_app];simp;omega
    ·try simp only[List.getElem_toArray,List.getElem_cons_zero,List.getElem_cons_succ]
     go_simp
     refine hK.out _ _ trivial (fun hHeldN=>?_)
     clear hHeld hK K
     have hHeld:=hHeldN
     clear hHeldN
     try simp only[Act.put,List.getElem_toArray,List.getElem_cons_zero,List.getElem_cons_succ,List.setIfInBounds_toArray,List.set_cons_zero,List.set_cons_succ]
     refine wpAnyH_ready (rs:=[10]) (by kernel_rfl) (by simp) ?_
     refine AllReadyH.cons rfl (fun K hK=>?_) (AllReadyH.nil)
     try simp only[List.getElem_toArray,List.getElem_cons_zero,List.getElem_cons_succ]
     go_simp
     refine hK.out _ _ trivial (fun hHeldN=>?_)
     clear hHeld hK K
     have hHeld:=hHeldN
     clear hHeldN
     try simp only[Act.put,List.getElem_toArray,List.getElem_cons_zero,List.getElem_cons_succ,List.setIfInBounds_toArray,List.set_cons_zero,List.set_cons_succ]
     refine wpAnyH_done (by kernel_rfl) ?_ _
     refine NoPanic.normal ?_
     have hl':(P.app (.cons kd a b t i (body.app (.cons 5 1 0 ⟨false,0,0⟩ ⟨[],[]⟩ .nil .nil .nil)) els R)).len=n:=by rw[hn.out,hLc.out.1,Cms.len_app];simp only[Cms.len];omega
     have hT:=mut4B (c9:=c9) (cF:=cF) (cA:=cA) (cE:=cE) s2.out s3.out s4.out s5.out s6.out s8.out hx8.out same9.out e8 hne8 hk8.out hpl8.out hc8'.out hkb9.out hgb9.out hc.out hpl.out hgb F9.out
     replace hT:=Lib.hid hT
     replace hl':=Lib.hid hl'
     go_wp2_with fail
     refine bodyPost_ret (v:=.slice (some ⟨gb,0,none⟩) n c1) (by simp[results,Tryz.results26,go_sem]) rfl ⟨_,c1,P.app (.cons kd a b t i (body.app (.cons 5 1 0 ⟨false,0,0⟩ ⟨[],[]⟩ .nil .nil .nil)) els R),by rw[hl'.out],hT.out.1,?_,⟨_,by omega,hT.out.2⟩,by rw[hl'.out];exact hcap.out,by rw[hl'.out];exact hL1⟩
     have h1:=hLc.out;have h2:=hLS.out;rw[Cms.len_app,Cms.cost_app];simp only[Cms.len,Cms.cost,Cms.len_app,Cms.cost_app];simp;omega
   ·try simp only[List.getElem_toArray,List.getElem_cons_zero,List.getElem_cons_succ]
    go_simp
    refine hK.out _ _ trivial (fun hHeldN=>?_)
    clear hHeld hK K
    have hHeld:=hHeldN
    clear hHeldN
    try simp only[Act.put,List.getElem_toArray,List.getElem_cons_zero,List.getElem_cons_succ,List.setIfInBounds_toArray,List.set_cons_zero,List.set_cons_succ]
    refine wpAnyH_ready (rs:=[9]) (by kernel_rfl) (by simp) ?_
    refine AllReadyH.cons rfl (fun K hK=>?_) (AllReadyH.nil)
    try simp only[List.getElem_toArray,List.getElem_cons_zero,List.getElem_cons_succ]
    go_simp
    refine hK.out _ _ trivial (fun hHeldN=>?_)
    clear hHeld hK K
    have hHeld:=hHeldN
    clear hHeldN
    try simp only[Act.put,List.getElem_toArray,List.getElem_cons_zero,List.getElem_cons_succ,List.setIfInBounds_toArray,List.set_cons_zero,List.set_cons_succ]
    refine wpAnyH_ready (rs:=[10]) (by kernel_rfl) (by simp) ?_
    refine AllReadyH.cons rfl (fun K hK=>?_) (AllReadyH.nil)
    try simp only[List.getElem_toArray,List.getElem_cons_zero,List.getElem_cons_succ]
    go_simp
    refine hK.out _ _ trivial (fun hHeldN=>?_)
    clear hHeld hK K
    have hHeld:=hHeldN
    clear hHeldN
    try simp only[Act.put,List.getElem_toArray,List.getElem_cons_zero,List.getElem_cons_succ,List.setIfInBounds_toArray,List.set_cons_zero,List.set_cons_succ]
    refine wpAnyH_done (by kernel_rfl) ?_ _
    refine NoPanic.normal ?_
    have hl':(P.app (.cons kd a b t i (body.app (.cons 5 1 0 ⟨false,0,0⟩ ⟨[],[]⟩ .nil .nil .nil)) els R)).len=n:=by rw[hn.out,hLc.out.1,Cms.len_app];simp only[Cms.len];omega
    have hT:=mut4B (c9:=c9) (cF:=cF) (cA:=cA) (cE:=cE) s2.out s3.out s4.out s5.out s6.out s8.out hx8.out same9.out e8 hne8 hk8.out hpl8.out hc8'.out hkb9.out hgb9.out hc.out hpl.out hgb F9.out
    replace hT:=Lib.hid hT
    replace hl':=Lib.hid hl'
    go_wp2_with fail
    refine bodyPost_ret (v:=.slice (some ⟨gb,0,none⟩) n c1) (by simp[results,Tryz.results26,go_sem]) rfl ⟨_,c1,P.app (.cons kd a b t i (body.app (.cons 5 1 0 ⟨false,0,0⟩ ⟨[],[]⟩ .nil .nil .nil)) els R),by rw[hl'.out],hT.out.1,?_,⟨_,by omega,hT.out.2⟩,by rw[hl'.out];exact hcap.out,by rw[hl'.out];exact hL1⟩
    have h1:=hLc.out;have h2:=hLS.out;rw[Cms.len_app,Cms.cost_app];simp only[Cms.len,Cms.cost,Cms.len_app,Cms.cost_app];simp;omega
 have b4:((m:Int) == 4)=false:=by simpa using hm4
 clear hm4
 go_wp2_with fail
 refine bodyPost_ret (v:=.slice (some ⟨gb,0,none⟩) n c1) (by simp[results,Tryz.results26,go_sem]) rfl ⟨_,c1,L,by rw[←hn.out],?_,?_,⟨_,by omega,F3.out⟩,by rw[←hn.out];exact hcap.out,by rw[←hn.out];exact hL1⟩
 ·rw[eL.out]
  exact mut_close Y2.out Y3.out Y4.out Y5.out Y8.out Y6.out (fun _ _ _ _=>rfl) hgb hlb hc.out
 ·have:=hLS.out;omega
end Go.Proofs.YtjbboklnegfohaaGreatDoor

/- What is drawn: programs for the laws of programs. -/
namespace Go.Proofs.YtjbboklnegfohaaGreatDoor
open Go Go.RowKit Go.Proofs
set_option maxRecDepth 100000 in
set_option maxHeartbeats 6400000 in
theorem c_DrawProgram (A:Option Addr) (n c:Nat) (w:World) (h:BytesR w A n c) :
  Calls Tryz.prog 13 #[.slice A n c] w fun e w'=>∃ A' c' L,e=.returned (.slice A' L.len c')∧CmsV w' w.heap.size w'.heap.size A' L∧L.len+L.cost≤1000∧Below w.heap.size w w'∧L.len≤c':=by
 have HR0:=Lib.hid h
 clear h
 go_enter Tryz.func13,Tryz.ntmps13
 go_wp2_with fail
 refine (c_l18Open A n c _ HR0.out).mono ?_
 rintro e w1 ⟨g,rfl,hg,hR,hB1⟩
 have HB1:=Lib.hid hB1
 have HR1:=Lib.hid hR
 have lg:=hR.lt
 have z1:=hB1.size
 clear hR hB1 HR0
 go_wp2_with fail
 refine (c_l8Program g 0 _ HR1.out (by omega)).mono ?_
 rintro e w2 ⟨A2,c2,L,q,rfl,hV,hL1,hLS,hR,hq,hF⟩
 have HF2:=Lib.hid hF
 have HR2:=Lib.hid hR
 have HV2:=Lib.hid hV
 have z2:=hF.size
 clear hR hF HR1 hV
 go_wp2_with fail
 refine (c_l8Mutate g q _ L A2 c2 _ _ HR2.out (by omega) HV2.out hL1 hLS).mono ?_
 rintro e w3 ⟨A3,c3,M,rfl,hV,hLS3,⟨qx,hqx,hRd⟩,hcap,-⟩
 have hF:=hRd.2.1
 have z3:=hF.size
 go_wp2_with fail
 go_ret
 exact ⟨A3,c3,M,rfl,hV.mono (by omega) (Nat.le_refl _),hLS3,Below.trans HB1.out ((HF2.out.trans hF).below (by omega) (by omega)),hcap⟩
end Go.Proofs.YtjbboklnegfohaaGreatDoor
