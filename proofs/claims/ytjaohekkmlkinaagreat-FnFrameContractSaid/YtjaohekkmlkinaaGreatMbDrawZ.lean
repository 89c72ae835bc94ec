/- What the reader draws: lists of commands. -/
import Derived.Deep.DeepCutAuto
import Derived.Laws.BitsAllLaws
import Derived.BigQuiet
import Derived.Deep.RegionHeld3
import Derived.Deep.QuietTactic
import Derived.Test.YtjaohekkmlkinaaGreatMbPrgV
set_option linter.unusedSimpArgs false
set_option linter.unusedVariables false
set_option maxRecDepth 100000
set_option maxHeartbeats 25600000
namespace Go.Proofs.YtjaohekkmlkinaaGreat
section
open Go Go.RowKit Go.Proofs
theorem c_l8Draw_step (M S:Nat) (D:Int) (hD1:1≤D) (hD3:D≤3) (hS:S≤10000)
  (IH:1<D→∀ (g p:Nat) (w:World),Rdr w g p→p+M≤999000→Calls Tryz.prog 177 #[.pointer (some ⟨g,0,none⟩),.int .i64 (D - 1)] w fun e w'=>∃ r L q,e=.returned r∧CmsN w' w.heap.size r L∧1≤L.len∧L.len+L.cost≤S∧Rdr w' g q∧q≤p+M∧Fr g w w')
  (g p:Nat) (w:World) (h:Rdr w g p) (hp:p+(130+9 * M)≤999000) :
  Calls Tryz.prog 177 #[.pointer (some ⟨g,0,none⟩),.int .i64 D] w fun e w'=>∃ r L q,e=.returned r∧CmsN w' w.heap.size r L∧1≤L.len∧L.len+L.cost≤21+6 * S∧Rdr w' g q∧q≤p+(130+9 * M)∧Fr g w w':=by
 have H:=ax h;have hlt:=h.lt;replace IH:=ax IH;clear h;(go_enter Tryz.func177,Tryz.ntmps177);have hN0:=CmsN.empty w (Nat.le_refl _);(go_wp2_with fail);refine (c_numL g p [2,1,3,2] _ _ _ _ (H.o.bz bel) (by omega) blks (by rfl) (by first|omega|(simp;omega)) (by rfl) (by simp) (by simp)).mono ?_;rintro e w1 ⟨m,hm,rfl,hR,hF⟩;replace hN0:=ax ((hN0.bz (w':=(w.alloc (.cells #[] tC)).alloc (.cells #[.int .i64 2,.int .i64 1,.int .i64 3,.int .i64 2] tI)) bel).fr hF hlt);have HF1:aJ (Fr g w w1):=(((Fr.refl g w).alloc _).alloc _).trans hF;obtain ⟨k0,rfl⟩:=Int.eq_ofNat_of_zero_le ((by decide:∀ m∈[(2:Int),1,3,2],0≤m) m hm);have hk1:k0≤3:=by have:=(by decide:∀ m∈[(2:Int),1,3,2],m≤3) _ hm;omega
 have hk2:1≤k0:=by have:=(by decide:∀ m∈[(2:Int),1,3,2],1≤m) _ hm;omega
 have HR1:=ax hR;clear hm hR hF H;(go_wp2_with fail)
 go_loopg [5,6] k0 (fun gh s5 s6 wr=>∃ (I:Int) (L:Cms) (q:Nat),s6=.int .i64 I∧0≤I∧I≤gh∧I+L.len=k0∧aJ (CmsN wr w.heap.size s5 L)∧aJ (L.len+L.cost≤L.len * (7+2 * S))∧aJ (q≤p+1+L.len * (42+3 * M))∧aJ (Rdr wr g q)∧aJ (Fr g w wr))
 case atStart=>exact ⟨k0,.nil,p+1,rfl,by omega,by omega,by simp[Cms.len],hN0.o,by simp[aJ,Cms.len,Cms.cost],by simp[aJ,Cms.len],HR1.o,HF1.o⟩
 case round=>
  clear hN0 HR1 HF1;obtain ⟨I,L,q,rfl,hI0,hIg,hIL,hN,hZ,hQ,hR,hF⟩:=hrel;obtain ⟨wo,rfl⟩:∃ x,x=wr:=⟨_,rfl⟩;have hsz:=hF.o.size;have hgb:g<w.heap.size:=hlt;replace hIL:=ax hIL;obtain ⟨A5,c5,rfl,-⟩:=hN.o.rj;have hOL:=ax hN.o.own_lt;by_cases hI:0<I
  ·have hI3:I≤3:=by have:=hIL.o;omega
   have hqp:q+(42+3 * M)≤999000:=by
    have h1:=hQ.o;have h2:L.len * (42+3 * M)≤2 * (42+3 * M):=Nat.mul_le_mul_right _ (by have:=hIL.o;omega);omega
   (go_wp2_with fail);refine (c_l8Simple g q _ (hR.o.bz bel) (by omega)).mono ?_;rintro e w1 ⟨k,a,b,rfl,hR1,hF1⟩;replace hR1:=ax hR1;replace hF1:=ax hF1;have hs1:=hF1.o.size;have hg1:g<w1.heap.size:=by omega
   unfold simC;have c0:Blk (w1.alloc (.cells #[.int .i64 k,.int .i64 a,.int .i64 b,.bool false,.int .i64 0,.int .i64 0,.slice none 0 0,.slice none 0 0,.slice none 0 0,.slice none 0 0] tC)) w1.heap.size tC #[.int .i64 k,.int .i64 a,.int .i64 b,.bool false,.int .i64 0,.int .i64 0,.slice none 0 0,.slice none 0 0,.slice none 0 0,.slice none 0 0]:=Blk.new _ _ _;have F1:aJ (Fr g wo (w1.alloc (.cells #[.int .i64 k,.int .i64 a,.int .i64 b,.bool false,.int .i64 0,.int .i64 0,.slice none 0 0,.slice none 0 0,.slice none 0 0,.slice none 0 0] tC))):=hF1.o.alloc _;have hX:∀ x,(w.heap.size≤x∧(Value.slice A5 L.len c5).ownBlock≠some x∧x≠w1.heap.size)→x≠w1.heap.size:=fun _ h=>h.2.2;have hXg:∀ x,(w.heap.size≤x∧(Value.slice A5 L.len c5).ownBlock≠some x∧x≠w1.heap.size)→x≠g:=fun x h=>by have:=h.1;omega
   have hXN:∀ x,w1.heap.size+1≤x→w.heap.size≤x∧(Value.slice A5 L.len c5).ownBlock≠some x∧x≠w1.heap.size:=fun x h=>⟨by omega,fun e=>by have:=hOL.o x e;omega,by omega⟩;replace hX:=ax hX;replace hXg:=ax hXg;replace hXN:=ax hXN;by_cases hD:1<D
   ·(go_upto_if 24 with fail);refine (c_pick g (q+3) 4 _ (hR1.o.bz bel) (by omega)).mono ?_;rintro e w2 ⟨m,rfl,-,hR2,hF2⟩;have c2:=c0.fr hF2 (by omega);have F2:=ax (F1.o.trans hF2);have s2:=hF2.size;simp only[World.size_alloc] at s2;replace hR2:=ax hR2;clear hF2 c0 F1 hR1 hF1;(go_upto_if 24 with fail)
    go_cut [7] (fun s7 wc=>s7=.pointer (some ⟨w1.heap.size,0,none⟩)∧∃ q2,aJ (Rdr wc g q2)∧q2≤q+(8+2 * M)∧aJ (Fr g wo wc)∧aJ (CmdIn wc (fun x=>w.heap.size≤x∧(Value.slice A5 L.len c5).ownBlock≠some x∧x≠w1.heap.size) w1.heap.size (6+2 * S)))
    case first=>
     by_cases hm:(m:Int)=0
     ·have t2:((m:Int) == 0)=true:=by simpa using hm
      (go_wp2_with fail);refine (c_l8Test g (q+3+1) _ hR2.o (by omega)).mono ?_;rintro e w3 ⟨t,rfl,hR3,hF3⟩;have c3:=c2.fr hF3 (by omega);have F3:=ax (F2.o.trans hF3);have s3:=hF3.size;replace hR3:=ax hR3;clear hF3 c2 F2 hR2;(go_wp2_with fail);refine (IH.o hD g _ _ hR3.o (by omega)).mono ?_;rintro e w4 ⟨r,B,q4,rfl,hN4,hB1,hBS,hR4,hq4,hF4⟩;obtain ⟨AB,cB,rfl,-⟩:=hN4.rj;have P4:=ax (hN4.part.mono fun x hx _=>hXN.o x (by omega));have c4:=c3.fr hF4 (by omega);have F4:=ax (F3.o.trans hF4);have s4:=hF4.size;replace hR4:=ax hR4;replace hBS:=ax hBS;have C4:=ax c4;clear hF4 c3 F3 hR3 hN4;(replace qc4:=c4.z);clear c4;(go_wp2_with fail);refine (c_pick g q4 2 _ (hR4.o.ten (by omega)) (by omega)).mono ?_;rintro e w5 ⟨m2,rfl,-,hR5,hF5⟩;have c5':=(ten0 C4.o (v0:=.int .i64 6) (v1:=.int .i64 0) (v2:=.int .i64 0) (v3:=.bool t.eq) (v4:=.int .i64 t.a) (v5:=.int .i64 t.b) (v6:=.slice none 0 0) (v7:=.slice none 0 0) (v8:=.slice AB B.len cB) (v9:=.slice none 0 0)).fr hF5 (by omega);have P5:=ax ((P4.o.keep fun x hx _=>ten0_far (hX.o x hx)).keep fun x hx hl=>hF5.block x hl (hXg.o x hx));have F5:=ax ((F4.o.ten (by omega)).trans hF5);have s5:=hF5.size;simp only[World.size_setCell] at s5;replace hR5:=ax hR5;clear hF5 P4 F4 hR4 C4;by_cases hm2:(m2:Int)=0
      ·have t3:((m2:Int) == 0)=true:=by simpa using hm2
       (go_wp2_with fail);refine (IH.o hD g _ _ hR5.o (by omega)).mono ?_;rintro e w6 ⟨r,E,q6,rfl,hN6,hE1,hES,hR6,hq6,hF6⟩;obtain ⟨AE,cE,rfl,-⟩:=hN6.rj;have P6:=ax (hN6.part.mono fun x hx _=>hXN.o x (by omega));have c6:=c5'.fr hF6 (by omega);have P5:=ax (P5.o.keep fun x hx hl=>hF6.block x hl (hXg.o x hx));have F6:=ax (F5.o.trans hF6);have s6:=hF6.size;replace hR6:=ax hR6;replace hES:=ax hES;have C6:=ax c6;clear hF6 F5 hR5 hN6 c5';(replace qc6:=c6.z);clear c6;(go_wp2_with fail);go_meet
       case rel=>exact ⟨rfl,q6,hR6.o.set_ (by simp only;omega) _,by omega,F6.o.set_ (Or.inr (by simp only;omega)) _,CmdIn.els_ (i:=⟨[],[]⟩) hX.o C6.o (RwX.none ..) (RwX.none ..) P5.o P6.o (by have:=hBS.o;have:=hES.o;simp;omega)⟩
      ·have t3:((m2:Int) == 0)=false:=by simpa using hm2
       (go_wp2_with fail);go_meet
       case rel=>exact ⟨rfl,q4+1,hR5.o,by omega,F5.o,⟨6,0,0,t,⟨[],[]⟩,B,.nil,none,0,none,0,AB,cB,none,0,c5',RwX.none ..,RwX.none ..,P5.o,PartX.nil _,by have:=hBS.o;simp[Cms.len,Cms.cost];omega⟩⟩
     ·have t2:((m:Int) == 0)=false:=by simpa using hm
      (go_wp2_with fail);go_meet
      case rel=>exact ⟨rfl,q+3+1,hR2.o,by omega,F2.o,(CmdIn.simple c2).more (by omega)⟩
    case rest=>
     obtain ⟨rfl,q2,R2,hq2,F2',C2⟩:=hcut;clear F2 hR2 c2;have s3:=F2'.o.size;have s3':=C2.o.lt;(go_upto_if 46 with fail);refine (c_pick g q2 8 _ R2.o (by omega)).mono ?_;rintro e w4 ⟨m,rfl,-,hR2,hF2⟩;have s4:=hF2.size;have F3:=ax (F2'.o.trans hF2);have C3:=ax (C2.o.fr hF2 hXg.o (by omega));replace hR2:=ax hR2;clear hF2 F2' C2 R2;(go_upto_if 46 with fail)
     go_cut [7] (fun s7 wc=>s7=.pointer (some ⟨w1.heap.size,0,none⟩)∧∃ q2,aJ (Rdr wc g q2)∧q2≤q+(42+3 * M)∧aJ (Fr g wo wc)∧aJ (CmdIn wc (fun x=>w.heap.size≤x∧(Value.slice A5 L.len c5).ownBlock≠some x∧x≠w1.heap.size) w1.heap.size (6+2 * S)))
     case first=>
      by_cases hm:(m:Int)=0
      ·have t2:((m:Int) == 0)=true:=by simpa using hm
       obtain ⟨k,a,b,t0,i,body,els,AF,cF,AA,cA,AB,cB,AE,cE,c3,-⟩:=C3.o;clear C3;(go_wp2_with fail);refine (c_l8Test g (q2+1) _ hR2.o (by omega)).mono ?_;rintro e w5 ⟨t,rfl,hR5,hF5⟩;have c4:=c3.fr hF5 (by omega);have F5:=ax (F3.o.trans hF5);have s5:=hF5.size;replace hR5:=ax hR5;clear hF5 c3 F3 hR2;(go_wp2_with fail);refine (c_l3Draw g (q2+1+3) _ hR5.o (by omega)).mono ?_;rintro e w6 ⟨ra,inv,q6,rfl,hA6,-,hA1,hA2,hR6,hq6,hF6⟩;obtain ⟨B1,d1,B2,d2,rfl,hA3,hA4⟩:=hA6.rj;have P1:=ax (hA3.1.x (X:=(fun x=>w.heap.size≤x∧(Value.slice A5 L.len c5).ownBlock≠some x∧x≠w1.heap.size)) fun x hx _=>hXN.o x (by omega));have P2:=ax (hA4.1.x (X:=(fun x=>w.heap.size≤x∧(Value.slice A5 L.len c5).ownBlock≠some x∧x≠w1.heap.size)) fun x hx _=>hXN.o x (by omega));have c5':=c4.fr hF6 (by omega);have F6:=ax (F5.o.trans hF6);have s6:=hF6.size;replace hR6:=ax hR6;clear hF6 c4 F5 hR5 hA6 hA3 hA4;(go_wp2_with fail);refine (IH.o hD g _ _ hR6.o (by omega)).mono ?_;rintro e w7 ⟨r,B,q7,rfl,hN7,hB1,hBS,hR7,hq7,hF7⟩;obtain ⟨AB7,cB7,rfl,-⟩:=hN7.rj;have P7:=ax (hN7.part.mono fun x hx _=>hXN.o x (by omega));have P1:=ax (P1.o.keep fun x hx hl=>hF7.block x hl (hXg.o x hx));have P2:=ax (P2.o.keep fun x hx hl=>hF7.block x hl (hXg.o x hx));have c7:=c5'.fr hF7 (by omega);have F7:=ax (F6.o.trans hF7);have s7:=hF7.size;replace hR7:=ax hR7;replace hBS:=ax hBS;have C7:=ax c7;clear hF7 c5' F6 hR6 hN7;(replace qc7:=c7.z);clear c7;(go_wp2_with fail);go_meet
       case rel=>
        refine ⟨rfl,q7,ax ?_,by omega,ax ?_,ax ?_⟩
        ·exact Rdr.ten hR7.o (by omega)
        ·exact Fr.ten F7.o (by omega)
        ·exact CmdIn.ten (t:=t) (els:=.nil) C7.o hX.o P1.o P2.o P7.o (PartX.nil _) (by have:=hBS.o;simp[Cms.len,Cms.cost];omega)
      ·have t2:((m:Int) == 0)=false:=by simpa using hm
       (go_wp2_with fail);go_meet
       case rel=>exact ⟨rfl,q2+1,hR2.o,by omega,F3.o,C3.o⟩
     case rest=>
      obtain ⟨rfl,q9,R9,hq9,F9,C9⟩:=hcut;obtain ⟨wx,rfl⟩:∃ x,x=wc:=⟨_,rfl⟩;clear F3 hR2 C3;obtain ⟨k,a,b,t,i,body,els,AF,cF,AA,cA,AB,cB,AE,cE,h0,h1,h2,h3,h4,hn⟩:=C9.o;have H0:=ax h0;(replace qh0:=h0.z);clear h0;replace h1:=ax h1;replace h2:=ax h2;replace h3:=ax h3;replace h4:=ax h4;replace hn:=ax hn;have hl9:w.heap.size≤wx.heap.size:=by have:=hF.o.size;have:=F9.o.size;omega
      have hN9:CmsN wx w.heap.size (.slice A5 L.len c5) L:=hN.o.fr F9.o hgb;obtain ⟨cs,ho9,hT9,-⟩:=hN9;replace hT9:=ax hT9;replace ho9:=ax ho9;have hL3:L.len≤2:=by have:=hIL.o;omega
      clear C9;(go_wp2_with (at_builtin;(refine appCX (base:=w.heap.size) (g0:=wx.heap.size) rfl _ _ rfl rfl (own_below ho9.o (bbox (Below.refl _ _) _)) (tenL k a b t (.slice AF i.facts.length cF) (.slice AA i.atoms.length cA) (.slice AB body.len cB) (.slice AE els.len cE)) rfl (Blk.new _ _ _) rfl rfl (tenOne _ _ _ _ _ _ _ _ _ _ _ _ _ _ _ _) (by omega) (by simp;omega) ?_);(intro A8 c8 w8 o8 g8 B8 v8;have o8:=ax o8;have g8:=ax g8;have v8:=ax v8;have B8:=ax B8)));have kX:∀ x,x<wx.heap.size→(wx.alloc (.cells (tenL k a b t (.slice AF i.facts.length cF) (.slice AA i.atoms.length cA) (.slice AB body.len cB) (.slice AE els.len cE)).toArray tC)).heap[x]? = wx.heap[x]?:=fun x hx=>(bbox (Below.refl _ wx) _).block x hx;have N8:CmsN w8 w.heap.size (.slice A8 (L.len+1) c8) (L.app (.cons k a b t i body els .nil)):=CmsN.grow (hT9.o.keep fun x _ hx=>kX x hx) (by omega) ((h1.o.mono fun x hx _=>⟨hx.1,hx.2.1⟩).keep fun x _ hx=>kX x hx) ((h2.o.mono fun x hx _=>⟨hx.1,hx.2.1⟩).keep fun x _ hx=>kX x hx) ((h3.o.mono fun x hx _=>⟨hx.1,hx.2.1⟩).keep fun x _ hx=>kX x hx) ((h4.o.mono fun x hx _=>⟨hx.1,hx.2.1⟩).keep fun x _ hx=>kX x hx) o8.o g8.o v8.o;have F8:Fr g w w8:=((hF.o.trans F9.o).alloc _).goB B8.o (Nat.le_refl _);have R8:Rdr w8 g q9:=(R9.o.bz (bbox (Below.refl _ _) _)).belowB B8.o hgb;have hLl:(L.app (.cons k a b t i body els .nil)).len=L.len+1:=by rw[Cms.len_app];rfl
      have hLc:(L.app (.cons k a b t i body els .nil)).cost=L.cost+(i.facts.length+i.atoms.length+(body.len+body.cost)+(els.len+els.cost)):=by rw[Cms.cost_app];simp[Cms.cost]
      go_roundg (gk - 1)
      case rel=>
       refine ⟨I - 1,L.app (.cons k a b t i body els .nil),q9,rfl,by omega,by omega,by rw[hLl];have:=hIL.o;omega,N8,?_,?_,R8,F8⟩
       ·show _≤_;rw[hLl,hLc,Nat.succ_mul];have:=hZ.o;have:=hn.o;omega
       ·show _≤_;rw[hLl,Nat.succ_mul];have:=hQ.o;omega
      case measure=>omega
   ·have hD0:¬1<D:=hD;have C1:=ax (CmdIn.simple (X:=fun x=>w.heap.size≤x∧(Value.slice A5 L.len c5).ownBlock≠some x∧x≠w1.heap.size) c0);have R1:=ax (hR1.o.bz (w':=w1.alloc (.cells #[.int .i64 k,.int .i64 a,.int .i64 b,.bool false,.int .i64 0,.int .i64 0,.slice none 0 0,.slice none 0 0,.slice none 0 0,.slice none 0 0] tC)) (bbox (Below.refl _ _) _));obtain ⟨q9,hq9⟩:∃ q9,q9=q+3:=⟨_,rfl⟩;rw[←hq9] at R1;(go_upto_region 12 with fail);generalize w1.alloc (.cells #[.int .i64 k,.int .i64 a,.int .i64 b,.bool false,.int .i64 0,.int .i64 0,.slice none 0 0,.slice none 0 0,.slice none 0 0,.slice none 0 0] tC)=wx at *;have R9:=R1;have F9:=F1;have C9:=C1;clear R1 F1 C1 c0 hR1 hF1;obtain ⟨k,a,b,t,i,body,els,AF,cF,AA,cA,AB,cB,AE,cE,h0,h1,h2,h3,h4,hn⟩:=C9.o;have H0:=ax h0;(replace qh0:=h0.z);clear h0;replace h1:=ax h1;replace h2:=ax h2;replace h3:=ax h3;replace h4:=ax h4;replace hn:=ax hn;have hl9:w.heap.size≤wx.heap.size:=by have:=hF.o.size;have:=F9.o.size;omega
    have hN9:CmsN wx w.heap.size (.slice A5 L.len c5) L:=hN.o.fr F9.o hgb;obtain ⟨cs,ho9,hT9,-⟩:=hN9;replace hT9:=ax hT9;replace ho9:=ax ho9;have hL3:L.len≤2:=by have:=hIL.o;omega
    clear C9;(go_wp2_with (at_builtin;(refine appCX (base:=w.heap.size) (g0:=wx.heap.size) rfl _ _ rfl rfl (own_below ho9.o (bbox (Below.refl _ _) _)) (tenL k a b t (.slice AF i.facts.length cF) (.slice AA i.atoms.length cA) (.slice AB body.len cB) (.slice AE els.len cE)) rfl (Blk.new _ _ _) rfl rfl (tenOne _ _ _ _ _ _ _ _ _ _ _ _ _ _ _ _) (by omega) (by simp;omega) ?_);(intro A8 c8 w8 o8 g8 B8 v8;have o8:=ax o8;have g8:=ax g8;have v8:=ax v8;have B8:=ax B8)));have kX:∀ x,x<wx.heap.size→(wx.alloc (.cells (tenL k a b t (.slice AF i.facts.length cF) (.slice AA i.atoms.length cA) (.slice AB body.len cB) (.slice AE els.len cE)).toArray tC)).heap[x]? = wx.heap[x]?:=fun x hx=>(bbox (Below.refl _ wx) _).block x hx;have N8:CmsN w8 w.heap.size (.slice A8 (L.len+1) c8) (L.app (.cons k a b t i body els .nil)):=CmsN.grow (hT9.o.keep fun x _ hx=>kX x hx) (by omega) ((h1.o.mono fun x hx _=>⟨hx.1,hx.2.1⟩).keep fun x _ hx=>kX x hx) ((h2.o.mono fun x hx _=>⟨hx.1,hx.2.1⟩).keep fun x _ hx=>kX x hx) ((h3.o.mono fun x hx _=>⟨hx.1,hx.2.1⟩).keep fun x _ hx=>kX x hx) ((h4.o.mono fun x hx _=>⟨hx.1,hx.2.1⟩).keep fun x _ hx=>kX x hx) o8.o g8.o v8.o;have F8:Fr g w w8:=((hF.o.trans F9.o).alloc _).goB B8.o (Nat.le_refl _);have R8:Rdr w8 g q9:=(R9.o.bz (bbox (Below.refl _ _) _)).belowB B8.o hgb;have hLl:(L.app (.cons k a b t i body els .nil)).len=L.len+1:=by rw[Cms.len_app];rfl
    have hLc:(L.app (.cons k a b t i body els .nil)).cost=L.cost+(i.facts.length+i.atoms.length+(body.len+body.cost)+(els.len+els.cost)):=by rw[Cms.cost_app];simp[Cms.cost]
    go_roundg (gk - 1)
    case rel=>
     refine ⟨I - 1,L.app (.cons k a b t i body els .nil),q9,rfl,by omega,by omega,by rw[hLl];have:=hIL.o;omega,N8,?_,?_,R8,F8⟩
     ·show _≤_;rw[hLl,hLc,Nat.succ_mul];have:=hZ.o;have:=hn.o;omega
     ·show _≤_;rw[hLl,Nat.succ_mul];have:=hQ.o;omega
    case measure=>omega
  ·have hI0:I=0:=by omega
   subst hI0;(go_wp2_with fail);refine bodyPost_ret (v:=.slice A5 L.len c5) (by simp[results,Tryz.results177,go_sem]) rfl ⟨_,rfl,L,hN.o,by have:=hIL.o;omega,?_,q,hR.o,?_,hF.o⟩
   ·have h1:=hZ.o;have h2:L.len * (7+2 * S)≤3 * (7+2 * S):=Nat.mul_le_mul_right _ (by have:=hIL.o;omega);omega
   ·have h1:=hQ.o;have h2:L.len * (42+3 * M)≤3 * (42+3 * M):=Nat.mul_le_mul_right _ (by have:=hIL.o;omega);omega
theorem c_l8Draw (D:Int) (hD1:1≤D) (hD3:D≤3) (g p:Nat) (w:World) (h:Rdr w g p) (hp:p≤900000) :
  Calls Tryz.prog 177 #[.pointer (some ⟨g,0,none⟩),.int .i64 D] w fun e w'=>∃ r L q,e=.returned r∧CmsN w' w.heap.size r L∧1≤L.len∧L.len+L.cost≤903∧Rdr w' g q∧q≤p+11830∧Fr g w w':=by
 have s1:=fun (D:Int) (h1:1≤D) (h2:D≤1) (g p:Nat) (w:World) (h:Rdr w g p) (hp:p+130≤999000)=>c_l8Draw_step 0 0 D h1 (by omega) (by omega) (fun hd=>absurd hd (by omega)) g p w h (by omega);have s2:=fun (D:Int) (h1:1≤D) (h2:D≤2) (g p:Nat) (w:World) (h:Rdr w g p) (hp:p+1300≤999000)=>c_l8Draw_step 130 21 D h1 (by omega) (by omega) (fun hd g p w h hp=>s1 (D - 1) (by omega) (by omega) g p w h (by omega)) g p w h (by omega);exact c_l8Draw_step 1300 147 D hD1 hD3 (by omega) (fun hd g p w h hp=>s2 (D - 1) (by omega) (by omega) g p w h (by omega)) g p w h (by omega)
theorem c_l8Program (g p:Nat) (w:World) (h:Rdr w g p) (hp:p≤800000) :
  Calls Tryz.prog 196 #[.pointer (some ⟨g,0,none⟩)] w fun e w'=>∃ A c L q,e=.returned (.slice A L.len c)∧CmsV w' w.heap.size w'.heap.size A L∧1≤L.len∧L.len+L.cost≤903∧Rdr w' g q∧q≤p+11900∧Fr g w w':=by
 have H:=ax h;have hlt:=h.lt;clear h;(go_enter Tryz.func196,Tryz.ntmps196);(go_wp2_with fail);refine (c_numL g p [1,2,3,1] _ _ _ _ (H.o.bz bel) (by omega) blks (by rfl) (by first|omega|(simp;omega)) (by rfl) (by simp) (by simp)).mono ?_;rintro e w1 ⟨m,hm,rfl,hR1,hF1⟩;have F1:aJ (Fr g w w1):=((Fr.refl g w).alloc _).trans hF1;have hm1:1≤m:=(by decide:∀ m∈[(1:Int),2,3,1],1≤m) _ hm;have hm3:m≤3:=(by decide:∀ m∈[(1:Int),2,3,1],m≤3) _ hm;have z1:=F1.o.size;replace hR1:=ax hR1;clear hm hF1 H;(go_wp2_with fail);refine (c_l8Draw m hm1 hm3 g (p+1) _ hR1.o (by omega)).mono ?_;rintro e w2 ⟨r,L,q,rfl,hN,hL1,hLS,hR2,hq,hF2⟩;have F2:=ax (F1.o.trans hF2);have z2:=hF2.size;obtain ⟨A,c,rfl,hV⟩:=hN.rj;replace hR2:=ax hR2;replace hV:=ax (hV.mono (lo':=w.heap.size) (by omega) (Nat.le_refl _));replace hLS:=ax hLS;clear hF2 hN F1 hR1;(go_wp2_with fail);refine (c_spec_ProgramValid L A c _ hV.o (by have:=hLS.o;omega) (Cms.cost_small (by have:=hLS.o;omega)) (by have:=hLS.o;have:=Cms.sz_cost L;omega)).mono ?_;rintro e w3 ⟨rfl,hB3⟩;have F3:=ax (F2.o.go hB3);have hR3:=ax (hR2.o.bz hB3);have hV3:=ax (hV.o.bz hB3);have z3:=hB3.size;clear hV F2 hR2 hB3;by_cases hv:L.prog=true
 ·(go_wp2_with fail);go_ret;exact ⟨A,c,L,q,rfl,hV3.o.mono (Nat.le_refl _) (by omega),hL1,hLS.o,hR3.o,by omega,F3.o⟩
 ·replace hv:=Bool.eq_false_iff.2 hv;have hLe:L.len=(L.len - 1)+1:=by omega
  obtain ⟨n,hn⟩:∃ n,n=L.len:=⟨_,rfl⟩;rw[←hn];have hn0:0<n:=by omega
  have hn1:(0:Int)<(n:Int):=by omega
  replace hn:=ax hn;obtain ⟨k,a,b,t,i,body,els,r,rfl⟩:=Cms.cons_of_len hL1;obtain ⟨b0,o0,rfl,hb1,hb2,hA⟩:=hV3.o hL1;obtain ⟨⟨p0,p1,p2,p3,p4,p5⟩,⟨A6,d6,p6,g6⟩,⟨A7,d7,p7,g7⟩,⟨A8,d8,p8,g8⟩,⟨A9,d9,p9,g9⟩,-⟩:=hA;replace g6:=ax g6;replace g7:=ax g7;replace g8:=ax (show CmsV w3 w.heap.size w2.heap.size A8 body from g8);replace g9:=ax (show CmsV w3 w.heap.size w2.heap.size A9 els from g9);have hb3:b0<w3.heap.size:=by omega
  replace hL1:=ax hL1;clear hLe;(go_wp2_with fail);go_ret;have hB:Below w3.heap.size w3 (w3.alloc (.cells #[.int .i64 k,.int .i64 a,.int .i64 b,.bool t.eq,.int .i64 t.a,.int .i64 t.b,.slice A6 i.facts.length d6,.slice A7 i.atoms.length d7,.slice A8 body.len d8,.slice A9 els.len d9] tC)):=bbox (Below.refl _ _) _;have hK:Blk (w3.alloc (.cells #[.int .i64 k,.int .i64 a,.int .i64 b,.bool t.eq,.int .i64 t.a,.int .i64 t.b,.slice A6 i.facts.length d6,.slice A7 i.atoms.length d7,.slice A8 body.len d8,.slice A9 els.len d9] tC)) w3.heap.size tC #[.int .i64 k,.int .i64 a,.int .i64 b,.bool t.eq,.int .i64 t.a,.int .i64 t.b,.slice A6 i.facts.length d6,.slice A7 i.atoms.length d7,.slice A8 body.len d8,.slice A9 els.len d9]:=Blk.new _ _ _;have hsz:(w3.alloc (.cells #[.int .i64 k,.int .i64 a,.int .i64 b,.bool t.eq,.int .i64 t.a,.int .i64 t.b,.slice A6 i.facts.length d6,.slice A7 i.atoms.length d7,.slice A8 body.len d8,.slice A9 els.len d9] tC)).heap.size=w3.heap.size+1:=by simp
  refine ⟨_,_,.cons k a b t i body els .nil,q,rfl,fun _=>⟨_,0,rfl,by omega,by simp,⟨⟨hK.cell 0,hK.cell 1,hK.cell 2,hK.cell 3,hK.cell 4,hK.cell 5⟩,⟨A6,d6,hK.cell 6,(g6.o.bz hB).mono (Nat.le_refl _) (by simp;omega)⟩,⟨A7,d7,hK.cell 7,(g7.o.bz hB).mono (Nat.le_refl _) (by simp;omega)⟩,⟨A8,d8,hK.cell 8,(g8.o.bz hB).mono (Nat.le_refl _) (by simp;omega)⟩,⟨A9,d9,hK.cell 9,(g9.o.bz hB).mono (Nat.le_refl _) (by simp;omega)⟩,trivial⟩⟩,by simp[Cms.len],?_,hR3.o.bz hB,by omega,F3.o.go hB⟩;have:=hLS.o;simp only[Cms.len,Cms.cost] at this ⊢;omega
end
section
open Go Go.RowKit Go.Proofs
attribute [local go_sem ↓] Go.wp_at_zero Go.wp_at_succ
end
section
open Go Go.RowKit Go.Proofs
def tlistL (S k:Nat):List Int:=((List.range k).filter fun n=>S.testBit n).map fun n:Nat=>(n:Int)
theorem tlistL_length (S k:Nat):(tlistL S k).length≤k:=by
 unfold tlistL;rw[List.length_map];exact Nat.le_trans (List.length_filter_le _ _) (by simp)
def Cms.fold (F:Nat→Int→Int→Int→Fct→Asn→Nat):Cms→Nat→Nat
 | .nil,S=>S
 | .cons k a b t i body els r,S=>r.fold F (els.fold F (body.fold F (F S k a b t i)))
def chF (S:Nat) (k a _b:Int) (_t:Fct) (_i:Asn):Nat:=if k=1∨k=2∨k=4 then tins S a else S
theorem chF_lt {S:Nat} (h:S<512) (k a b:Int) (t:Fct) (i:Asn):chF S k a b t i<512:=by
 unfold chF;split
 ·exact tins_lt h a
 ·exact h
theorem Cms.fold_lt {F:Nat→Int→Int→Int→Fct→Asn→Nat} (hF:∀ S k a b t i,S<512→F S k a b t i<512):∀ (L:Cms) {S:Nat},S<512→L.fold F S<512
 | .nil,_,h=>h
 | .cons k a b t i body els r,S,h=>Cms.fold_lt hF r (Cms.fold_lt hF els (Cms.fold_lt hF body (hF S k a b t i h)))
theorem tlistL_idx (S:Nat):idxL (zj S) (zj S).length=tlistL S 9:=by
 rw[zjB];unfold idxL tlistL
 congr 1
theorem fval_terms {k a b:Int} {t:Fct} {i:Asn} {body els:Cms} (h:fvalB k a b t i body els=true):jq a=true∧jq b=true∧jq t.a=true∧jq t.b=true∧∀ x∈mz i,jq x=true:=by
 unfold fvalB at h
 split at h
 ·simp only[Bool.and_eq_true,decide_eq_true_eq,noAsn,Fct.valid] at h;obtain ⟨rfl,rfl,⟨h1,h2⟩,h3,h4⟩:=h;refine ⟨by decide,by decide,h1,h2,?_⟩;have e:i=⟨[],[]⟩:=by cases i;simp_all
  subst e;simp[mz]
 split at h
 ·simp only[Bool.and_eq_true,decide_eq_true_eq,Fct.valid] at h;obtain ⟨rfl,rfl,⟨h1,h2⟩,h3,h4⟩:=h;exact ⟨by decide,by decide,h1,h2,termsL_ok h3⟩
 ·simp only[Bool.and_eq_true,plainB,noFct,noAsn,decide_eq_true_eq] at h;obtain ⟨⟨rfl,⟨h1,h2⟩,h3,h4⟩,h5⟩:=h;have e:i=⟨[],[]⟩:=by cases i;simp_all
  subst e
  have hab:jq a=true∧jq b=true:=by
   have hp:∀ {x:Int},isProgB x=true→jq x=true:=fun h=>by simp[isProgB] at h;rw[zjA];omega
   unfold fieldsB at h5
   split at h5
   ·simp only[Bool.and_eq_true] at h5;exact ⟨hp h5.1,h5.2⟩
   split at h5
   ·simpa using h5
   split at h5
   ·simp only[Bool.and_eq_true,decide_eq_true_eq] at h5;exact ⟨hp h5.1,by rw[h5.2];decide⟩
   split at h5
   ·simp only[Bool.and_eq_true,decide_eq_true_eq] at h5;exact ⟨h5.1,by rw[h5.2];decide⟩
   ·cases h5
  exact ⟨hab.1,hab.2,by decide,by decide,by simp[mz]⟩
def changedL (L:Cms):List Int:=if L.prog then tlistL (L.fold chF 0) 9 else []
section
variable {w w':World} {lo hi:Nat}
theorem CmsAt.keep (hk:∀ b,lo≤b→b<hi→w'.heap[b]? = w.heap[b]?):∀ {L:Cms} {bl o:Nat},lo≤bl→bl<hi→CmsAt w lo hi L bl o→CmsAt w' lo hi L bl o
 | .nil,_,_,_,_,_=>trivial
 | .cons k a b t i body els r,bl,o,e1,e2,h=>by
  obtain ⟨⟨h0,h1,h2,h3,h4,h5⟩,⟨A6,c6,h6,g6⟩,⟨A7,c7,h7,g7⟩,⟨A8,c8,h8,g8⟩,⟨A9,c9,h9,g9⟩,hr⟩:=h;have hc:∀ j,w'.cell? ⟨bl,j,none⟩=w.cell? ⟨bl,j,none⟩:=fun j=>World.cell?_of_block (a:=⟨bl,j,none⟩) (hk bl e1 e2);refine ⟨⟨(hc _).trans h0,(hc _).trans h1,(hc _).trans h2,(hc _).trans h3,(hc _).trans h4,(hc _).trans h5⟩,⟨A6,c6,(hc _).trans h6,g6.keep hk⟩,⟨A7,c7,(hc _).trans h7,g7.keep hk⟩,⟨A8,c8,(hc _).trans h8,fun hl=>?_⟩,⟨A9,c9,(hc _).trans h9,fun hl=>?_⟩,CmsAt.keep hk e1 e2 hr⟩
  ·obtain ⟨b',o',e,p1,p2,p3⟩:=g8 hl;exact ⟨b',o',e,p1,p2,CmsAt.keep hk p1 p2 p3⟩
  ·obtain ⟨b',o',e,p1,p2,p3⟩:=g9 hl;exact ⟨b',o',e,p1,p2,CmsAt.keep hk p1 p2 p3⟩
theorem CmsV.keep {A:Option Addr} {L:Cms} (h:CmsV w lo hi A L) (hk:∀ b,lo≤b→b<hi→w'.heap[b]? = w.heap[b]?):CmsV w' lo hi A L:=fun hl=>by
 obtain ⟨b,o,e,p1,p2,p3⟩:=h hl;exact ⟨b,o,e,p1,p2,p3.keep hk p1 p2⟩
theorem CmsV.mk1 {A:Option Addr} {L:Cms} {g:Nat} (h:CmsV w lo hi A L) (hm:Mk (fun x=>x=g) w w') (hg:hi≤g) (hl:g<w.heap.size):CmsV w' lo hi A L:=
 h.keep fun b _ h2=>hm.block b (by omega) (by omega)
end
theorem Cms.invs_cost:∀ {L:Cms},L.invs→L.len+L.cost≤19 * L.sz
 | .nil,_=>Nat.le_refl _
 | .cons k a b t i body els r,h=>by
  have h1:=Cms.invs_cost h.2.1;have h2:=Cms.invs_cost h.2.2.1;have h3:=Cms.invs_cost h.2.2.2;have h4:=h.1;simp only[Cms.len,Cms.cost,Cms.sz];omega
theorem parseP_ok {l:Bs} (h:parsesP l=true) (h0:l≠[]):1≤(parseP l).len∧(parseP l).len+(parseP l).cost≤903:=by
 unfold parseP;rw[if_pos h];unfold parsesP at h;simp only[Bool.and_eq_true,decide_eq_true_eq] at h;refine ⟨?_,?_⟩
 ·cases hL:readP l with
  | nil=>rw[hL] at h;exact absurd h.2.1.symm h0
  | cons=>simp[Cms.len]
 ·have:=Cms.invs_cost (L:=readP l) (blkF_invs _ _ _ _);have:=(prog_shape h.2.2).2;omega
def strOf:Value→Bs
 | .string s=>s.data.toList
 | _=>[]
theorem c_of {lo hi:Nat} (g p:Nat) (A:Option Addr) (c:Nat) (xs:List Bs) (w:World) (h:Rdr w g p) (hp:p≤1000000) (hx:StrsV w lo hi A xs) (hg:g<lo∨hi≤g) (hn:0<xs.length) :
  Calls Tryz.prog 175 #[.pointer (some ⟨g,0,none⟩),.slice A xs.length c] w fun e w'=>∃ m∈xs,e=.returned (sv m)∧Rdr w' g (p+1)∧Fr g w w':=by
 have H:=ax h;have HX:=ax hx;clear h hx;(go_enter Tryz.func175,Tryz.ntmps175);(go_wp2_with fail);refine (c_pick g p _ _ H.o hp).mono ?_;rintro e w1 ⟨m,rfl,hm,hR,hF⟩;have hlt:m<xs.length:=by omega
 obtain ⟨b,o,rfl,c0⟩:=StrsV.at (Rd.fr HX.o hF hg) hlt;have hmi:(m:Int)<(xs.length:Int):=by omega
 have HRF:=ax (And.intro hR hF);have hmem:=ax (List.getElem_mem hlt);obtain ⟨x,hxx⟩:∃ x,x=xs[m]:=⟨_,rfl⟩;rw[←hxx] at c0 hmem;clear hm hR hF hxx;(go_wp2_with fail);go_ret;exact ⟨x,hmem.o,rfl,HRF.o.1,HRF.o.2⟩
theorem c_ofL (g p:Nat) (cs:Array Value) (x n:Nat) (w:World) (h:Rdr w g p) (hp:p≤1000000) (hk:Blk w x tS cs) (hcs:cs=(encS (cs.toList.map strOf)).toArray) (hg:g<x) (hn:n=cs.size) (h0:0<cs.size) (hl:∀ u∈cs.toList.map strOf,1≤u.length∧u.length≤4000) (hl1:cs.size≤100) :
  Calls Tryz.prog 175 #[.pointer (some ⟨g,0,none⟩),.slice (some ⟨x,0,none⟩) n n] w fun e w'=>∃ m:Bs,(1≤m.length∧m.length≤4000)∧e=.returned (sv m)∧Rdr w' g (p+1)∧Fr g w w':=by
 have e:n=(cs.toList.map strOf).length:=by rw[hn];simp
 rw[e];refine (c_of (lo:=x) (hi:=x+1) g p _ _ (cs.toList.map strOf) w h hp ⟨⟨by simp[encS],fun _=>⟨x,0,rfl,Nat.le_refl _,Nat.lt_succ_self _,fun j u hu=>?_⟩⟩,by unfold Lim;simp;omega⟩ (Or.inl hg) (by simpa using h0)).mono ?_
 ·rw[Nat.zero_add,hk.cell,hcs];simpa using hu
 ·rintro e w' ⟨m,hm,rfl,h1,h2⟩;exact ⟨m,hl m hm,rfl,h1,h2⟩
theorem c_l9Code (g p:Nat) (w:World) (h:Rdr w g p) (hp:p≤700000) :
  Calls Tryz.prog 145 #[.pointer (some ⟨g,0,none⟩)] w fun e w'=>∃ A c L q,e=.returned (.slice A (Cms.len L) c)∧CmsV w' w.heap.size w'.heap.size A L∧1≤L.len∧L.len+L.cost≤903∧Rdr w' g q∧q≤p+90000∧Fr g w w':=by
 have H:=ax h;have hlt:=h.lt;clear h;(go_enter Tryz.func145,Tryz.ntmps145);(go_wp2_with fail);refine (c_ofL g p _ _ _ _ (H.o.bz bel) (by omega) blks (by rfl) hlt (by rfl) (by decide) (by decide) (by decide)).mono ?_;rintro e w1 ⟨l,hl,rfl,hR,hF⟩;have hF1:aJ (Fr g w w1):=((Fr.refl g w).alloc _).trans hF;have HR1:=ax hR;have z1:=hF1.o.size;have hg1:g<w1.heap.size:=by omega
 clear hR hF H;obtain ⟨hl1,hl2⟩:=hl;have cP:=ax (fun W=>c_ParseProgram l W (by omega));have hok:=ax (fun h=>parseP_ok (l:=l) h (by intro e;subst e;simp at hl1));obtain ⟨ok,hk⟩:∃ ok,ok=parsesP l:=⟨_,rfl⟩;obtain ⟨L,hL⟩:∃ L,L=parseP l:=⟨_,rfl⟩;rw[←hk,←hL] at cP hok;clear hk hL hl1 hl2;(go_wp2_with fail);refine (cP.o _).mono ?_;rintro e w2 ⟨v,rfl,N2,hB2⟩;obtain ⟨A2,d2,rfl,V2⟩:=N2.rj;have HF2:aJ (Fr g w w2):=ax (hF1.o.trans (Fr.ofBelow hB2));have HR2:=ax (HR1.o.bz hB2);have HV2:=ax (V2.mono z1 (Nat.le_refl _));have z2:=HF2.o.size;have hg2:g<w2.heap.size:=by omega
 clear N2 V2 hB2 hF1 HR1 cP;cases ok
 ·(go_wp2_with fail);refine (c_l8Program g _ _ HR2.o (by omega)).mono ?_;rintro e w3 ⟨A3,c3,L3,q,rfl,hV,hL1,hLS,hR,hq,hF⟩;have HF3:=ax (HF2.o.trans hF);have HV3:=ax (hV.mono z2 (Nat.le_refl _));have HR3:=ax hR;clear hV hR hF;(go_wp2_with fail);go_ret;exact ⟨A3,c3,L3,q,rfl,HV3.o,hL1,hLS,HR3.o,by omega,HF3.o⟩
 ·(go_wp2_with fail);refine (c_pick g _ 3 _ HR2.o (by omega)).mono ?_;rintro e w3 ⟨m,rfl,-,hR,hF⟩;have HF3:=ax (HF2.o.trans hF);have HR3:=ax hR;have z3:=HF3.o.size;clear hR;have HV3:=ax (show CmsV w3 w.heap.size w3.heap.size A2 L from (HV2.o.keep (fun b h1 h2=>hF.block b h2 (by omega))).mono (Nat.le_refl _) hF.size);clear hF;by_cases hm:(0:Int)<(m:Int)
  ·have hs:=ax (hok.o (by simp));(go_wp2_with fail);go_ret;exact ⟨A2,d2,L,p+1+1,rfl,HV3.o,hs.o.1,hs.o.2,HR3.o,by omega,HF3.o⟩
  ·(go_wp2_with fail);refine (c_l8Program g _ _ HR3.o (by omega)).mono ?_;rintro e w4 ⟨A4,c4,L4,q,rfl,hV,hL1,hLS,hR,hq,hF⟩;have HF4:=ax (HF3.o.trans hF);have HV4:=ax (hV.mono z3 (Nat.le_refl _));have HR4:=ax hR;clear hV hR hF;(go_wp2_with fail);go_ret;exact ⟨A4,c4,L4,q,rfl,HV4.o,hL1,hLS,HR4.o,by omega,HF4.o⟩
end
end Go.Proofs.YtjaohekkmlkinaaGreat
