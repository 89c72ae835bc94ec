/- Contracts: commands from lines (spec.l8Block), the step. -/
import Derived.Test.YtjbboklnegfohaaGreatMPrgC
import Derived.Deep.DeepCutAuto
set_option linter.unusedSimpArgs false
set_option linter.unusedVariables false
set_option maxRecDepth 100000
set_option maxHeartbeats 25600000
namespace Go.Proofs.YtjbboklnegfohaaGreat
open List (append_assoc append_nil getElem_mem length_append nil_append setIfInBounds_toArray set_cons_succ set_cons_zero)
section
open Go Go.RowKit Go.Proofs
theorem Ej(d:Nat)(hd:d<=9)(IH:Ki d):Ki (d+1):=by
  intro lo hi A c ls p n w hV hS hL hp hn;replace IH:=ax (fun lo hi A c p n w hV=>IH lo hi A c ls p n w hV hS hL);have HV:=ax hV;have HS:=ax hS;obtain⟨R,hR⟩:∃R,R=bR ls n p (d+1):=⟨_,rfl⟩;have hst:aJ (dZ ls (d+1) R .nil (some p)):=ax (by rw[hR];exact dZ.start n hn);rw[<-hR];clear hV hS hn hR;(go_enter Tryz.func64,Tryz.ntmps64);have hN0:=dB.empty w bn;(go_wp2_with fail)
  go_loopg [1,8] (ls.length+12) (fun gh s1 s8 wr=>∃(acc:ay) (nx:Option Nat),s1=.int .i64 (Ef nx)/\aJ (dB wr w.heap.size s8 acc)/\aJ (dZ ls (d+1) R acc nx)/\acc.len<=ls.length+d+1/\aJ (∀q,nx=some q->acc.len<=q/\q<=ls.length+d+1/\ls.length+12<=gh+q)/\aJ (Below w.heap.size w wr))
  case atStart=>exact⟨.nil,some p,rfl,ax hN0,hst,by simp[ay.len],ax (fun q e=>by injection e with e;subst e;simp[ay.len];omega),ax (ai aU _)⟩
  case round=>
   clear hN0 hst;obtain⟨acc,nx,rfl,hN,hst,hal,hnx,HB⟩:=hrel;have hz:=HB.o.size;obtain⟨A5,c5,rfl,-⟩:=hN.o.rj;have Tx:=ax hN.o.Bd
   cases nx with
   | none=>
    have hE:=ax hst.o;have hf:aJ (R.2=none):=ax hE.o.2;have ha:aJ (acc=R.1):=ax hE.o.1;have hm1:Ef none = -1:=rfl;rw[hm1];clear hE hst hnx;go_wp2;refine bodyPost_ret (v:=.tuple #[.slice A5 acc.len c5,.int .i64 (-1)]) (by simp[results,Tryz.results64,go_sem]) rfl ⟨_,by rw[hf.o];rfl,by rw[<-ha.o];exact hN.o,HB.o⟩
   | some q=>
    obtain⟨hq1,hq2,hq3⟩:=hnx.o q rfl;have hqi:Ef (some q)=(q:Int):=rfl;rw[hqi];clear hnx;have hq0:(0:Int)<=(q:Int):=by omega
    have hSt:=ax (fun hc=>hst.o.stop hc);by_cases hlt:q+1<ls.length
    ·have Br:(q:Int)+1<(ls.length:Int):=by omega
     obtain⟨b,o,rfl,hc⟩:=(HV.o.bz HB.o).at (show q<ls.length by omega);have hbl:=block_lt_of_cell hc;have hgd:=getD_at (ls:=ls) (p:=q) (by omega);have hxl:(ls[q]'(by omega)).length<=1000000:=HS.o _ (getElem_mem _);have Qu:=ax (hst.o.on (by omega));obtain⟨x,AY⟩:∃x,x=ls[q]'(by omega):=⟨_,rfl⟩;rw[<-AY] at hc hgd hxl;rw[hgd] at hSt;clear AY;by_cases he1:x=yl
     ·subst he1;have hE:=ax (hSt.o (fun h=>h.2.1 rfl));have hf:aJ (R.2=some q):=ax hE.o.2;have ha:aJ (acc=R.1):=ax hE.o.1;clear hE hSt Qu hst;go_wp2;refine bodyPost_ret (v:=.tuple #[.slice A5 acc.len c5,.int .i64 q]) (by simp[results,Tryz.results64,go_sem]) rfl ⟨_,by rw[hf.o];rfl,by rw[<-ha.o];exact hN.o,HB.o⟩
     have Oc:(x == [101,110,100])=false:=by rw[bP];simpa using he1
     by_cases he2:x=kK
     ·subst he2;have hE:=ax (hSt.o (fun h=>h.2.2 rfl));have hf:aJ (R.2=some q):=ax hE.o.2;have ha:aJ (acc=R.1):=ax hE.o.1;clear hE hSt Qu hst;go_wp2;refine bodyPost_ret (v:=.tuple #[.slice A5 acc.len c5,.int .i64 q]) (by simp[results,Tryz.results64,go_sem]) rfl ⟨_,by rw[hf.o];rfl,by rw[<-ha.o];exact hN.o,HB.o⟩
     have Od:(x == [101,108,115,101])=false:=by rw[bP];simpa using he2
     have hcc:=ax (show q+1<ls.length/\ls.getD q []≠yl/\ls.getD q []≠kK from⟨hlt,by rw[hgd];exact he1,by rw[hgd];exact he2⟩);obtain⟨m,hm,hF1,hF2⟩:=Qu.o;replace hF1:=ax hF1;replace hF2:=ax hF2;clear he1 he2 Qu hst hSt;(go_wp2_with fail);refine(GG x _ hxl).mono ?_;rintro e w1 ⟨fv,av,rfl,of,oa,hB1⟩;obtain⟨⟨k,ha,hb,⟨te,ta,tb⟩,i⟩,hH⟩:∃h,h=bS x:=⟨_,rfl⟩;rw[<-hH] at of oa⊢;replace hH:=ax (show bS (ls.getD q [])=⟨k,ha,hb,⟨te,ta,tb⟩,i⟩ by rw[hgd];exact hH.symm);unfold vX;simp only at of oa⊢;obtain⟨AF,cF,rfl,vF⟩:=of.rj;obtain⟨AA,cA,rfl,vA⟩:=oa.rj;have zr:=hB1.size;have HB1:=bF HB hB1;have hcb:w1.heap.size≠b:=by have h9:b<wr.heap.size:=hbl;omega
     have HX0:=ax (show ∀y,wr.heap.size<=y->y<w1.heap.size->(w.heap.size<=y/\(Value.slice A5 acc.len c5).ownBlock≠some y/\y≠w1.heap.size) from fun y h1 h2=>⟨by omega,fun e=>by have:=Tx.o y e;omega,by omega⟩);have Ni:=ax (show ∀y,w1.heap.size+1<=y->(w.heap.size<=y/\(Value.slice A5 acc.len c5).ownBlock≠some y/\y≠w1.heap.size) from fun y h1=>⟨by omega,fun e=>by have:=Tx.o y e;omega,by omega⟩);have XF:=ax (Rw.x vF.raw HX0.o);have XA:=ax (Rw.x vA.raw HX0.o);have J6:=ax (hN.o.bz hB1);have k0:ae (w1.alloc (.cells #[.int .i64 k,.int .i64 ha,.int .i64 hb,.bool te,.int .i64 ta,.int .i64 tb,.slice AF i.facts.length cF,.slice AA i.atoms.length cA,.slice none 0 0,.slice none 0 0] tC)) w1.heap.size tC #[.int .i64 k,.int .i64 ha,.int .i64 hb,.bool te,.int .i64 ta,.int .i64 tb,.slice AF i.facts.length cF,.slice AA i.atoms.length cA,.slice none 0 0,.slice none 0 0]:=ae.new _ _ _;have hBw:aJ (Below w1.heap.size w1 (w1.alloc (.cells #[.int .i64 k,.int .i64 ha,.int .i64 hb,.bool te,.int .i64 ta,.int .i64 tb,.slice AF i.facts.length cF,.slice AA i.atoms.length cA,.slice none 0 0,.slice none 0 0] tC))):=ax (ai aU _);have Ty:=ax (show (q:Int)+1=((q+1:Nat):Int) by omega);clear of oa vF vA hB1 hc hN hbl HB;have hd1:((d+1:Nat):Int) - 1=(d:Int):=by omega
     have hdn:¬(((d+1:Nat):Int)<1):=by omega
     by_cases hk:k=6\/k=7
     ·have hk':(bS (ls.getD q [])).k=6\/(bS (ls.getD q [])).k=7:=by rw[hH.o];exact hk
      have Hno:=ax (fun r h1 h2=>Jo (q:=r) (m:=m) (d:=d+1) hcc.o hk' (by omega) h1 h2);have Hn:=ax (fun h1=>Oa (m:=m) (d:=d+1) hcc.o hk' (by omega) h1);have Ex:=ax (fun r h1 h2 h3=>LP (q:=r) (m:=m) (d:=d+1) hcc.o hk' (by omega) h1 h2 h3);have He:=ax (fun r r' h1 h2 h3=>Ob (q:=r) (r:=r') (m:=m) (d:=d+1) hcc.o hk' (by omega) h1 h2 h3);rw[Nat.add_sub_cancel] at Hno Hn Ex He;rw[hH.o] at Hno Hn Ex He;have hle1:=ax (fun r=>mH ls m (q+1) d (m:=r));have Ib:=ax (fun W hW=>IH.o lo hi (some ⟨b,o,none⟩) c (q+1) m W hW (by omega) (by omega));obtain⟨⟨body,nb⟩,hB⟩:∃B,B=bR ls m (q+1) d:=⟨_,rfl⟩;rw[<-hB] at Hno Hn Ex He hle1 Ib;simp only at Hno Hn Ex He hle1 Ib;clear hB hk';have HW0:=ax (hBw.o);rcases hk with hk|hk
      ·have t6:(k == 6)=true:=by simp[hk]
       clear hk;(replace bT:=k0.z);(go_upto_if 52 with fail)
       go_cut [1] (fun s1 wc=>∃(body els:ay) (nx:Option Nat) (AB:Option Addr) (cB:Nat) (AE:Option Addr) (cE:Nat),s1=.int .i64 (Ef nx)/\aJ (dZ ls (d+1) R (acc.app (.cons k ha hb ⟨te,ta,tb⟩ i body els .nil)) nx)/\aJ (∀r,nx=some r->q+1<=r/\r<=ls.length+(d+1))/\
        ae wc w1.heap.size tC #[.int .i64 k,.int .i64 ha,.int .i64 hb,.bool te,.int .i64 ta,.int .i64 tb,.slice AF i.facts.length cF,.slice AA i.atoms.length cA,.slice AB body.len cB,.slice AE els.len cE]/\
        aJ (bu wc (fun y=>w.heap.size<=y/\(Value.slice A5 acc.len c5).ownBlock≠some y/\y≠w1.heap.size) AB body)/\aJ (bu wc (fun y=>w.heap.size<=y/\(Value.slice A5 acc.len c5).ownBlock≠some y/\y≠w1.heap.size) AE els)/\aJ (Below w1.heap.size w1 wc))
       case first=>
        (go_wp2_with fail);refine(Ib.o _ ((HV.o.bz HB1.o).bz hBw.o)).mono ?_;rintro e w2 ⟨v2,rfl,N2,hB2⟩;obtain⟨AB,cB,rfl,-⟩:=N2.rj;have z2:=hB2.size;simp only[World.size_alloc] at z2;have k2:=k0.nz hB2;have HW2:=bF hBw hB2;have P2:=ax (N2.part.mono (Y:=fun y=>w.heap.size<=y/\(Value.slice A5 acc.len c5).ownBlock≠some y/\y≠w1.heap.size) fun y hy _=>Ni.o y (by simpa using hy));have k3:=k2.ag 8 (.slice AB body.len cB);simp only[setIfInBounds_toArray,set_cons_zero,set_cons_succ] at k3;have P3:=ax (P2.o.keep (w':=w2.setCell ⟨w1.heap.size,8,none⟩ (.slice AB body.len cB)) fun y hy _=>Below.heap_setCell w2 ⟨w1.heap.size,8,none⟩ (.slice AB body.len cB) y hy.2.2);have HW3:aJ (Below w1.heap.size w1 (w2.setCell ⟨w1.heap.size,8,none⟩ (.slice AB body.len cB))):=ax (HW2.o.setCell bn _);replace k3:=ax k3;clear N2 hB2 bT P2;(replace lZ:=k2.z)
        cases nb with
        | none=>
         have hm1:Ef none = -1:=rfl;rw[hm1];have qC:=ax (dZ.XN (ls:=ls) (d:=d+1) hF1.o hF2.o (Hn.o rfl));clear Hno Hn Ex He hF1 hF2 Ib;(go_wp2_with fail);go_meet
         case rel=>exact⟨body,.nil,none,AB,cB,none,0,rfl,qC,ax (fun r e=>by cases e),k3.o,P3.o,ax (bu.nil _),HW3.o⟩
        | some r=>
         have hr:=hle1.o r rfl;have hri:Ef (some r)=(r:Int):=rfl;rw[hri];have hr0:(0:Int)<=(r:Int):=by omega
         have hr1:=ax (show (r:Int)+1=((r+1:Nat):Int) by omega);by_cases hrl:r<ls.length
         ·have TC:(r:Int)<(ls.length:Int):=by omega
          have hgr:=getD_at (ls:=ls) (p:=r) hrl;obtain⟨b',o',e',hcr⟩:=((HV.o.bz HB1.o).bz HW2.o).at hrl;injection e' with e';injection e' with e1 e2;subst e1 e2;obtain⟨y,Gt⟩:∃y,y=ls[r]:=⟨_,rfl⟩;rw[<-Gt] at hgr hcr;clear Gt;by_cases hy:y=kK
          ·subst hy;have Ie:=ax (fun W hW=>IH.o lo hi (some ⟨b,o,none⟩) c (r+1) m W hW (by omega) (by omega));have hle2:=ax (fun r'=>mH ls m (r+1) d (m:=r'));have Bh:=ax (fun h3=>Ex.o r rfl ⟨hrl,hgr⟩ h3);have Og:=ax (fun r' h3=>He.o r r' rfl ⟨hrl,hgr⟩ h3);obtain⟨⟨els,ne⟩,hE⟩:∃B,B=bR ls m (r+1) d:=⟨_,rfl⟩;rw[<-hE] at Ie hle2 Bh Og;simp only at Ie hle2 Bh Og;clear hE Hno Hn Ex He Ib;(go_wp2_with fail);refine(Ie.o _ ((HV.o.bz HB1.o).bz HW3.o)).mono ?_;rintro e w4 ⟨v4,rfl,N4,hB4⟩;obtain⟨AE,cE,rfl,-⟩:=N4.rj;have z4:=hB4.size;simp only[World.size_setCell] at z4;have k4:=k3.o.nz hB4;have HW4:=bF HW3 hB4;have P4:=ax (N4.part.mono (Y:=fun y=>w.heap.size<=y/\(Value.slice A5 acc.len c5).ownBlock≠some y/\y≠w1.heap.size) fun y hy _=>Ni.o y (by have h1:=hy;simp only[World.size_setCell] at h1;omega));have Q4:=ax (P3.o.keep (w':=w4) fun y _ hy=>hB4.block y hy);have k5:=k4.ag 9 (.slice AE els.len cE);simp only[setIfInBounds_toArray,set_cons_zero,set_cons_succ] at k5;have P5:=ax (P4.o.keep (w':=w4.setCell ⟨w1.heap.size,9,none⟩ (.slice AE els.len cE)) fun y hy _=>Below.heap_setCell w4 ⟨w1.heap.size,9,none⟩ (.slice AE els.len cE) y hy.2.2);have Q5:=ax (Q4.o.keep (w':=w4.setCell ⟨w1.heap.size,9,none⟩ (.slice AE els.len cE)) fun y hy _=>Below.heap_setCell w4 ⟨w1.heap.size,9,none⟩ (.slice AE els.len cE) y hy.2.2);have WK:aJ (Below w1.heap.size w1 (w4.setCell ⟨w1.heap.size,9,none⟩ (.slice AE els.len cE))):=ax (HW4.o.setCell bn _);replace k5:=ax k5;clear N4 hB4 lZ P4 Q4 P3 k3 HW3;(replace eZ:=k4.z)
           cases ne with
           | none=>
            have hm1:Ef none = -1:=rfl;rw[hm1];have qC:=ax (dZ.XN (ls:=ls) (d:=d+1) hF1.o hF2.o (Bh.o rfl));clear Bh Og hF1 hF2;(go_wp2_with fail);go_meet
            case rel=>exact⟨body,els,none,AB,cB,AE,cE,rfl,qC,ax (fun r e=>by cases e),k5.o,Q5.o,P5.o,WK.o⟩
           | some s=>
            have hs:=hle2.o s rfl;have hsi:Ef (some s)=(s:Int):=rfl;rw[hsi];have hs0:(0:Int)<=(s:Int):=by omega
            have hs1:=ax (show (s:Int)+1=((s+1:Nat):Int) by omega);have qC:=ax (dZ.mk (ls:=ls) (d:=d+1) (q:=s+1) hm hF1.o hF2.o (by omega) (Og.o s rfl));clear Bh Og hF1 hF2;(go_wp2_with fail);go_meet
            case rel=>exact⟨body,els,some (s+1),AB,cB,AE,cE,by rw[hs1.o];rfl,qC,ax (fun r e=>by injection e with e;subst e;omega),k5.o,Q5.o,P5.o,WK.o⟩
          ·have hyb:(y == [101,108,115,101])=false:=by rw[bP];simpa using hy
           have qC:=ax (dZ.mk (ls:=ls) (d:=d+1) (q:=r+1) hm hF1.o hF2.o (by omega) (Hno.o r rfl (fun h=>hy (by rw[<-hgr];exact h.2))));clear Hno Hn Ex He hF1 hF2 Ib hy;(go_wp2_with fail);go_meet
           case rel=>exact⟨body,.nil,some (r+1),AB,cB,none,0,by rw[hr1.o];rfl,qC,ax (fun r e=>by injection e with e;subst e;omega),k3.o,P3.o,ax (bu.nil _),HW3.o⟩
         ·have TC:¬(r:Int)<(ls.length:Int):=by omega
          have qC:=ax (dZ.mk (ls:=ls) (d:=d+1) (q:=r+1) hm hF1.o hF2.o (by omega) (Hno.o r rfl (fun h=>hrl h.1)));clear Hno Hn Ex He hF1 hF2 Ib;(go_wp2_with fail);go_meet
          case rel=>exact⟨body,.nil,some (r+1),AB,cB,none,0,by rw[hr1.o];rfl,qC,ax (fun r e=>by injection e with e;subst e;omega),k3.o,P3.o,ax (bu.nil _),HW3.o⟩
       case rest=>
        obtain⟨body,els,nx,AB,cB,AE,cE,rfl,xe,hnx,kx,h3,h4,hBx⟩:=hcut;obtain⟨wx,rfl⟩:∃z,z=wc:=⟨_,rfl⟩;clear k0 hBw bT Hno Hn Ex He Ib hF1 hF2 hle1 HW0;have hT0:=J6.o.bz hBx.o;obtain⟨cs,Be,Bg,-⟩:=hT0;replace Bg:=ax Bg;replace Be:=ax Be;have Ov:w.heap.size<=wx.heap.size:=by have:=hBx.o.size;omega
        have Tz:=ax (XF.o.keep (w':=wx) fun y _ hy=>hBx.o.block y hy);have TA:=ax (XA.o.keep (w':=wx) fun y _ hy=>hBx.o.block y hy);clear XF XA J6;have hfin:acc.len+1<=1049600/\w.heap.size<=w1.heap.size:=by omega
        have hacc:acc.len+1<=ls.length+(d+1):=by omega
        obtain⟨hfin,hw1⟩:=hfin;have hq3:=ax (show 1<=gk/\ls.length+12<=gk+q by omega);replace hacc:=ax hacc;replace hq1:=ax hq1;replace hw1:=ax hw1;have uk:=kx.cell;have XO:=kx.frozen;have Uy:=kx.lt;replace kx:=ax kx;clear hqi hgd Oc Od hcc hm hxl hq0 Br hlt hal hq2 hH hcb hz zr;(go_wp2_with (at_builtin;(refine xL (base:=w.heap.size) (g0:=wx.heap.size) rfl _ _ rfl rfl (own_below Be.o (ai aU _)) (dV k ha hb ⟨te,ta,tb⟩ (.slice AF i.facts.length cF) (.slice AA i.atoms.length cA) (.slice AB body.len cB) (.slice AE els.len cE)) rfl (ae.new _ _ _) rfl rfl (qz _ _ _ _ _ _ _ _ _ _ _ _ _ _ _ _) hfin (by simp;omega) ?_);(intro A8 c8 w8 o8 g8 B8 v8;have o8:=ax o8;have g8:=ax g8;have v8:=ax v8;have B8:=ax B8)));have kX:∀y,y<wx.heap.size->(wx.alloc (.cells (dV k ha hb ⟨te,ta,tb⟩ (.slice AF i.facts.length cF) (.slice AA i.atoms.length cA) (.slice AB body.len cB) (.slice AE els.len cE)).toArray tC)).heap[y]? = wx.heap[y]?:=fun y hy=>(ai (Below.refl _ wx) _).block y hy;have N8:dB w8 w.heap.size (.slice A8 (acc.len+1) c8) (acc.app (.cons k ha hb ⟨te,ta,tb⟩ i body els .nil)):=dB.grow (Bg.o.keep fun y _ hy=>kX y hy) hfin ((Tz.o.mono fun y hy _=>⟨hy.1,hy.2.1⟩).keep fun y _ hy=>kX y hy) ((TA.o.mono fun y hy _=>⟨hy.1,hy.2.1⟩).keep fun y _ hy=>kX y hy) ((h3.o.mono fun y hy _=>⟨hy.1,hy.2.1⟩).keep fun y _ hy=>kX y hy) ((h4.o.mono fun y hy _=>⟨hy.1,hy.2.1⟩).keep fun y _ hy=>kX y hy) o8.o g8.o v8.o;have F8:Below w.heap.size w w8:=((HB1.o.trans (hBx.o.mono hw1.o)).alloc Ov _).trans B8.o;have Ei:(acc.app (.cons k ha hb ⟨te,ta,tb⟩ i body els .nil)).len=acc.len+1:=by rw[ay.bY];rfl
        go_roundg (gk - 1)
        case rel=>exact⟨acc.app (.cons k ha hb ⟨te,ta,tb⟩ i body els .nil),nx,rfl,ax N8,xe,by rw[Ei];exact hacc.o,ax (fun r e=>by have:=hnx.o r e;have:=hq1.o;have:=hq3.o;rw[Ei];omega),ax F8⟩
        case measure=>have:=hq3.o;omega
      ·have t6:(k == 6)=false:=by simp[hk]
       have t7:(k == 7)=true:=by simp[hk]
       clear hk;(replace bT:=k0.z);(go_upto_if 52 with fail)
       go_cut [1] (fun s1 wc=>∃(body els:ay) (nx:Option Nat) (AB:Option Addr) (cB:Nat) (AE:Option Addr) (cE:Nat),s1=.int .i64 (Ef nx)/\aJ (dZ ls (d+1) R (acc.app (.cons k ha hb ⟨te,ta,tb⟩ i body els .nil)) nx)/\aJ (∀r,nx=some r->q+1<=r/\r<=ls.length+(d+1))/\
        ae wc w1.heap.size tC #[.int .i64 k,.int .i64 ha,.int .i64 hb,.bool te,.int .i64 ta,.int .i64 tb,.slice AF i.facts.length cF,.slice AA i.atoms.length cA,.slice AB body.len cB,.slice AE els.len cE]/\
        aJ (bu wc (fun y=>w.heap.size<=y/\(Value.slice A5 acc.len c5).ownBlock≠some y/\y≠w1.heap.size) AB body)/\aJ (bu wc (fun y=>w.heap.size<=y/\(Value.slice A5 acc.len c5).ownBlock≠some y/\y≠w1.heap.size) AE els)/\aJ (Below w1.heap.size w1 wc))
       case first=>
        (go_wp2_with fail);refine(Ib.o _ ((HV.o.bz HB1.o).bz hBw.o)).mono ?_;rintro e w2 ⟨v2,rfl,N2,hB2⟩;obtain⟨AB,cB,rfl,-⟩:=N2.rj;have z2:=hB2.size;simp only[World.size_alloc] at z2;have k2:=k0.nz hB2;have HW2:=bF hBw hB2;have P2:=ax (N2.part.mono (Y:=fun y=>w.heap.size<=y/\(Value.slice A5 acc.len c5).ownBlock≠some y/\y≠w1.heap.size) fun y hy _=>Ni.o y (by simpa using hy));have k3:=k2.ag 8 (.slice AB body.len cB);simp only[setIfInBounds_toArray,set_cons_zero,set_cons_succ] at k3;have P3:=ax (P2.o.keep (w':=w2.setCell ⟨w1.heap.size,8,none⟩ (.slice AB body.len cB)) fun y hy _=>Below.heap_setCell w2 ⟨w1.heap.size,8,none⟩ (.slice AB body.len cB) y hy.2.2);have HW3:aJ (Below w1.heap.size w1 (w2.setCell ⟨w1.heap.size,8,none⟩ (.slice AB body.len cB))):=ax (HW2.o.setCell bn _);replace k3:=ax k3;clear N2 hB2 bT P2;(replace lZ:=k2.z)
        cases nb with
        | none=>
         have hm1:Ef none = -1:=rfl;rw[hm1];have qC:=ax (dZ.XN (ls:=ls) (d:=d+1) hF1.o hF2.o (Hn.o rfl));clear Hno Hn Ex He hF1 hF2 Ib;(go_wp2_with fail);go_meet
         case rel=>exact⟨body,.nil,none,AB,cB,none,0,rfl,qC,ax (fun r e=>by cases e),k3.o,P3.o,ax (bu.nil _),HW3.o⟩
        | some r=>
         have hr:=hle1.o r rfl;have hri:Ef (some r)=(r:Int):=rfl;rw[hri];have hr0:(0:Int)<=(r:Int):=by omega
         have hr1:=ax (show (r:Int)+1=((r+1:Nat):Int) by omega);by_cases hrl:r<ls.length
         ·have TC:(r:Int)<(ls.length:Int):=by omega
          have hgr:=getD_at (ls:=ls) (p:=r) hrl;obtain⟨b',o',e',hcr⟩:=((HV.o.bz HB1.o).bz HW2.o).at hrl;injection e' with e';injection e' with e1 e2;subst e1 e2;obtain⟨y,Gt⟩:∃y,y=ls[r]:=⟨_,rfl⟩;rw[<-Gt] at hgr hcr;clear Gt;by_cases hy:y=kK
          ·subst hy;have Ie:=ax (fun W hW=>IH.o lo hi (some ⟨b,o,none⟩) c (r+1) m W hW (by omega) (by omega));have hle2:=ax (fun r'=>mH ls m (r+1) d (m:=r'));have Bh:=ax (fun h3=>Ex.o r rfl ⟨hrl,hgr⟩ h3);have Og:=ax (fun r' h3=>He.o r r' rfl ⟨hrl,hgr⟩ h3);obtain⟨⟨els,ne⟩,hE⟩:∃B,B=bR ls m (r+1) d:=⟨_,rfl⟩;rw[<-hE] at Ie hle2 Bh Og;simp only at Ie hle2 Bh Og;clear hE Hno Hn Ex He Ib;(go_wp2_with fail);refine(Ie.o _ ((HV.o.bz HB1.o).bz HW3.o)).mono ?_;rintro e w4 ⟨v4,rfl,N4,hB4⟩;obtain⟨AE,cE,rfl,-⟩:=N4.rj;have z4:=hB4.size;simp only[World.size_setCell] at z4;have k4:=k3.o.nz hB4;have HW4:=bF HW3 hB4;have P4:=ax (N4.part.mono (Y:=fun y=>w.heap.size<=y/\(Value.slice A5 acc.len c5).ownBlock≠some y/\y≠w1.heap.size) fun y hy _=>Ni.o y (by have h1:=hy;simp only[World.size_setCell] at h1;omega));have Q4:=ax (P3.o.keep (w':=w4) fun y _ hy=>hB4.block y hy);have k5:=k4.ag 9 (.slice AE els.len cE);simp only[setIfInBounds_toArray,set_cons_zero,set_cons_succ] at k5;have P5:=ax (P4.o.keep (w':=w4.setCell ⟨w1.heap.size,9,none⟩ (.slice AE els.len cE)) fun y hy _=>Below.heap_setCell w4 ⟨w1.heap.size,9,none⟩ (.slice AE els.len cE) y hy.2.2);have Q5:=ax (Q4.o.keep (w':=w4.setCell ⟨w1.heap.size,9,none⟩ (.slice AE els.len cE)) fun y hy _=>Below.heap_setCell w4 ⟨w1.heap.size,9,none⟩ (.slice AE els.len cE) y hy.2.2);have WK:aJ (Below w1.heap.size w1 (w4.setCell ⟨w1.heap.size,9,none⟩ (.slice AE els.len cE))):=ax (HW4.o.setCell bn _);replace k5:=ax k5;clear N4 hB4 lZ P4 Q4 P3 k3 HW3;(replace eZ:=k4.z)
           cases ne with
           | none=>
            have hm1:Ef none = -1:=rfl;rw[hm1];have qC:=ax (dZ.XN (ls:=ls) (d:=d+1) hF1.o hF2.o (Bh.o rfl));clear Bh Og hF1 hF2;(go_wp2_with fail);go_meet
            case rel=>exact⟨body,els,none,AB,cB,AE,cE,rfl,qC,ax (fun r e=>by cases e),k5.o,Q5.o,P5.o,WK.o⟩
           | some s=>
            have hs:=hle2.o s rfl;have hsi:Ef (some s)=(s:Int):=rfl;rw[hsi];have hs0:(0:Int)<=(s:Int):=by omega
            have hs1:=ax (show (s:Int)+1=((s+1:Nat):Int) by omega);have qC:=ax (dZ.mk (ls:=ls) (d:=d+1) (q:=s+1) hm hF1.o hF2.o (by omega) (Og.o s rfl));clear Bh Og hF1 hF2;(go_wp2_with fail);go_meet
            case rel=>exact⟨body,els,some (s+1),AB,cB,AE,cE,by rw[hs1.o];rfl,qC,ax (fun r e=>by injection e with e;subst e;omega),k5.o,Q5.o,P5.o,WK.o⟩
          ·have hyb:(y == [101,108,115,101])=false:=by rw[bP];simpa using hy
           have qC:=ax (dZ.mk (ls:=ls) (d:=d+1) (q:=r+1) hm hF1.o hF2.o (by omega) (Hno.o r rfl (fun h=>hy (by rw[<-hgr];exact h.2))));clear Hno Hn Ex He hF1 hF2 Ib hy;(go_wp2_with fail);go_meet
           case rel=>exact⟨body,.nil,some (r+1),AB,cB,none,0,by rw[hr1.o];rfl,qC,ax (fun r e=>by injection e with e;subst e;omega),k3.o,P3.o,ax (bu.nil _),HW3.o⟩
         ·have TC:¬(r:Int)<(ls.length:Int):=by omega
          have qC:=ax (dZ.mk (ls:=ls) (d:=d+1) (q:=r+1) hm hF1.o hF2.o (by omega) (Hno.o r rfl (fun h=>hrl h.1)));clear Hno Hn Ex He hF1 hF2 Ib;(go_wp2_with fail);go_meet
          case rel=>exact⟨body,.nil,some (r+1),AB,cB,none,0,by rw[hr1.o];rfl,qC,ax (fun r e=>by injection e with e;subst e;omega),k3.o,P3.o,ax (bu.nil _),HW3.o⟩
       case rest=>
        obtain⟨body,els,nx,AB,cB,AE,cE,rfl,xe,hnx,kx,h3,h4,hBx⟩:=hcut;obtain⟨wx,rfl⟩:∃z,z=wc:=⟨_,rfl⟩;clear k0 hBw bT Hno Hn Ex He Ib hF1 hF2 hle1 HW0;have hT0:=J6.o.bz hBx.o;obtain⟨cs,Be,Bg,-⟩:=hT0;replace Bg:=ax Bg;replace Be:=ax Be;have Ov:w.heap.size<=wx.heap.size:=by have:=hBx.o.size;omega
        have Tz:=ax (XF.o.keep (w':=wx) fun y _ hy=>hBx.o.block y hy);have TA:=ax (XA.o.keep (w':=wx) fun y _ hy=>hBx.o.block y hy);clear XF XA J6;have hfin:acc.len+1<=1049600/\w.heap.size<=w1.heap.size:=by omega
        have hacc:acc.len+1<=ls.length+(d+1):=by omega
        obtain⟨hfin,hw1⟩:=hfin;have hq3:=ax (show 1<=gk/\ls.length+12<=gk+q by omega);replace hacc:=ax hacc;replace hq1:=ax hq1;replace hw1:=ax hw1;have uk:=kx.cell;have XO:=kx.frozen;have Uy:=kx.lt;replace kx:=ax kx;clear hqi hgd Oc Od hcc hm hxl hq0 Br hlt hal hq2 hH hcb hz zr;(go_wp2_with (at_builtin;(refine xL (base:=w.heap.size) (g0:=wx.heap.size) rfl _ _ rfl rfl (own_below Be.o (ai aU _)) (dV k ha hb ⟨te,ta,tb⟩ (.slice AF i.facts.length cF) (.slice AA i.atoms.length cA) (.slice AB body.len cB) (.slice AE els.len cE)) rfl (ae.new _ _ _) rfl rfl (qz _ _ _ _ _ _ _ _ _ _ _ _ _ _ _ _) hfin (by simp;omega) ?_);(intro A8 c8 w8 o8 g8 B8 v8;have o8:=ax o8;have g8:=ax g8;have v8:=ax v8;have B8:=ax B8)));have kX:∀y,y<wx.heap.size->(wx.alloc (.cells (dV k ha hb ⟨te,ta,tb⟩ (.slice AF i.facts.length cF) (.slice AA i.atoms.length cA) (.slice AB body.len cB) (.slice AE els.len cE)).toArray tC)).heap[y]? = wx.heap[y]?:=fun y hy=>(ai (Below.refl _ wx) _).block y hy;have N8:dB w8 w.heap.size (.slice A8 (acc.len+1) c8) (acc.app (.cons k ha hb ⟨te,ta,tb⟩ i body els .nil)):=dB.grow (Bg.o.keep fun y _ hy=>kX y hy) hfin ((Tz.o.mono fun y hy _=>⟨hy.1,hy.2.1⟩).keep fun y _ hy=>kX y hy) ((TA.o.mono fun y hy _=>⟨hy.1,hy.2.1⟩).keep fun y _ hy=>kX y hy) ((h3.o.mono fun y hy _=>⟨hy.1,hy.2.1⟩).keep fun y _ hy=>kX y hy) ((h4.o.mono fun y hy _=>⟨hy.1,hy.2.1⟩).keep fun y _ hy=>kX y hy) o8.o g8.o v8.o;have F8:Below w.heap.size w w8:=((HB1.o.trans (hBx.o.mono hw1.o)).alloc Ov _).trans B8.o;have Ei:(acc.app (.cons k ha hb ⟨te,ta,tb⟩ i body els .nil)).len=acc.len+1:=by rw[ay.bY];rfl
        go_roundg (gk - 1)
        case rel=>exact⟨acc.app (.cons k ha hb ⟨te,ta,tb⟩ i body els .nil),nx,rfl,ax N8,xe,by rw[Ei];exact hacc.o,ax (fun r e=>by have:=hnx.o r e;have:=hq1.o;have:=hq3.o;rw[Ei];omega),ax F8⟩
        case measure=>have:=hq3.o;omega
     ·have U7:(k == 6)=false:=by simp;omega
      have hk7:(k == 7)=false:=by simp;omega
      have hzb:=ax (CZ (m:=m) (d:=d+1) hcc.o (by rw[hH.o];exact hk));have xe:aJ (dZ ls (d+1) R (acc.app (.cons k ha hb ⟨te,ta,tb⟩ i .nil .nil .nil)) (some (q+1))):=ax (dZ.mk (H:=⟨k,ha,hb,⟨te,ta,tb⟩,i⟩) hm hF1.o hF2.o bn (by rw[hzb.o,hH.o]));clear hzb hF1 hF2 hk;(replace bT:=k0.z);(go_upto_region 17 with fail);clear bT;rw[Ty.o];generalize w1.alloc (.cells #[.int .i64 k,.int .i64 ha,.int .i64 hb,.bool te,.int .i64 ta,.int .i64 tb,.slice AF i.facts.length cF,.slice AA i.atoms.length cA,.slice none 0 0,.slice none 0 0] tC)=wx at*;have hBx:=hBw;have kx:=k0;obtain⟨nx,Eh⟩:∃nx,nx=some (q+1):=⟨_,rfl⟩;have Oe:((q+1:Nat):Int)=Ef nx:=by rw[Eh];rfl
      rw[Oe];rw[<-Eh] at xe;have hnx:aJ (∀r,nx=some r->q+1<=r/\r<=ls.length+(d+1)):=ax (fun r e=>by rw[Eh] at e;injection e with e;subst e;omega);obtain⟨AB,cB,AE,cE,Bo⟩:∃(AB:Option Addr) (cB:Nat) (AE:Option Addr) (cE:Nat),AB=none/\cB=0/\AE=none/\cE=0:=⟨_,_,_,_,rfl,rfl,rfl,rfl⟩;obtain⟨body,hbody⟩:∃body,body=ay.nil:=⟨_,rfl⟩;obtain⟨els,hels⟩:∃body,body=ay.nil:=⟨_,rfl⟩;have h3:aJ (bu wx (fun y=>w.heap.size<=y/\(Value.slice A5 acc.len c5).ownBlock≠some y/\y≠w1.heap.size) AB body):=ax (by rw[hbody];exact bu.nil _);have h4:aJ (bu wx (fun y=>w.heap.size<=y/\(Value.slice A5 acc.len c5).ownBlock≠some y/\y≠w1.heap.size) AE els):=ax (by rw[hels];exact bu.nil _);have hkx:ae wx w1.heap.size tC #[.int .i64 k,.int .i64 ha,.int .i64 hb,.bool te,.int .i64 ta,.int .i64 tb,.slice AF i.facts.length cF,.slice AA i.atoms.length cA,.slice AB body.len cB,.slice AE els.len cE]:=by rw[Bo.1,Bo.2.1,Bo.2.2.1,Bo.2.2.2,hbody,hels];exact kx
      replace kx:=hkx;replace xe:aJ (dZ ls (d+1) R (acc.app (.cons k ha hb ⟨te,ta,tb⟩ i body els .nil)) nx):=ax (by rw[hbody,hels];exact xe.o);clear Bo hbody hels hkx Eh Oe k0 hBw U7 hk7;have hT0:=J6.o.bz hBx.o;obtain⟨cs,Be,Bg,-⟩:=hT0;replace Bg:=ax Bg;replace Be:=ax Be;have Ov:w.heap.size<=wx.heap.size:=by have:=hBx.o.size;omega
      have Tz:=ax (XF.o.keep (w':=wx) fun y _ hy=>hBx.o.block y hy);have TA:=ax (XA.o.keep (w':=wx) fun y _ hy=>hBx.o.block y hy);clear XF XA J6;have hfin:acc.len+1<=1049600/\w.heap.size<=w1.heap.size:=by omega
      have hacc:acc.len+1<=ls.length+(d+1):=by omega
      obtain⟨hfin,hw1⟩:=hfin;have hq3:=ax (show 1<=gk/\ls.length+12<=gk+q by omega);replace hacc:=ax hacc;replace hq1:=ax hq1;replace hw1:=ax hw1;have uk:=kx.cell;have XO:=kx.frozen;have Uy:=kx.lt;replace kx:=ax kx;clear hqi hgd Oc Od hcc hm hxl hq0 Br hlt hal hq2 hH hcb hz zr;(go_wp2_with (at_builtin;(refine xL (base:=w.heap.size) (g0:=wx.heap.size) rfl _ _ rfl rfl (own_below Be.o (ai aU _)) (dV k ha hb ⟨te,ta,tb⟩ (.slice AF i.facts.length cF) (.slice AA i.atoms.length cA) (.slice AB body.len cB) (.slice AE els.len cE)) rfl (ae.new _ _ _) rfl rfl (qz _ _ _ _ _ _ _ _ _ _ _ _ _ _ _ _) hfin (by simp;omega) ?_);(intro A8 c8 w8 o8 g8 B8 v8;have o8:=ax o8;have g8:=ax g8;have v8:=ax v8;have B8:=ax B8)));have kX:∀y,y<wx.heap.size->(wx.alloc (.cells (dV k ha hb ⟨te,ta,tb⟩ (.slice AF i.facts.length cF) (.slice AA i.atoms.length cA) (.slice AB body.len cB) (.slice AE els.len cE)).toArray tC)).heap[y]? = wx.heap[y]?:=fun y hy=>(ai (Below.refl _ wx) _).block y hy;have N8:dB w8 w.heap.size (.slice A8 (acc.len+1) c8) (acc.app (.cons k ha hb ⟨te,ta,tb⟩ i body els .nil)):=dB.grow (Bg.o.keep fun y _ hy=>kX y hy) hfin ((Tz.o.mono fun y hy _=>⟨hy.1,hy.2.1⟩).keep fun y _ hy=>kX y hy) ((TA.o.mono fun y hy _=>⟨hy.1,hy.2.1⟩).keep fun y _ hy=>kX y hy) ((h3.o.mono fun y hy _=>⟨hy.1,hy.2.1⟩).keep fun y _ hy=>kX y hy) ((h4.o.mono fun y hy _=>⟨hy.1,hy.2.1⟩).keep fun y _ hy=>kX y hy) o8.o g8.o v8.o;have F8:Below w.heap.size w w8:=((HB1.o.trans (hBx.o.mono hw1.o)).alloc Ov _).trans B8.o;have Ei:(acc.app (.cons k ha hb ⟨te,ta,tb⟩ i body els .nil)).len=acc.len+1:=by rw[ay.bY];rfl
      go_roundg (gk - 1)
      case rel=>exact⟨acc.app (.cons k ha hb ⟨te,ta,tb⟩ i body els .nil),nx,rfl,ax N8,xe,by rw[Ei];exact hacc.o,ax (fun r e=>by have:=hnx.o r e;have:=hq1.o;have:=hq3.o;rw[Ei];omega),ax F8⟩
      case measure=>have:=hq3.o;omega
    ·have Br:¬(q:Int)+1<(ls.length:Int):=by omega
     have hE:=ax (hSt.o (fun h=>hlt h.1));have hf:aJ (R.2=some q):=ax hE.o.2;have ha:aJ (acc=R.1):=ax hE.o.1;clear hE hSt hst;go_wp2;refine bodyPost_ret (v:=.tuple #[.slice A5 acc.len c5,.int .i64 q]) (by simp[results,Tryz.results64,go_sem]) rfl ⟨_,by rw[hf.o];rfl,by rw[<-ha.o];exact hN.o,HB.o⟩
theorem C5:∀(d:Nat),d<=10->Ki d
 | 0,_=>Eg
 | d+1,h=>Ej d (by omega) (C5 d (by omega))
theorem Oh{lo hi:Nat}(k a b:Int)(t:aF)(i:au)(A1 A2 A3 A4:Option Addr)(c1 c2 n3 c3 n4 c4:Nat)(w:World)(h:aM w lo hi (.agg #[.slice A1 i.facts.length c1,.slice A2 i.atoms.length c2]) i) :
  Calls Tryz.prog 120 #[.agg #[.int .i64 k,.int .i64 a,.int .i64 b,.bool t.eq,.int .i64 t.a,.int .i64 t.b,.slice A1 i.facts.length c1,.slice A2 i.atoms.length c2,.slice A3 n3 c3,.slice A4 n4 c4]] w fun e w'=>e=.returned (sv (nU k a b t i))/\Below w.heap.size w w':=by
 obtain⟨hl1,hl2⟩:i.facts.length<=1049600/\i.atoms.length<=1049600:=by
  obtain⟨B1,d1,B2,d2,e,h1,h2⟩:=h;exact⟨h1.le,h2.le⟩
 have HV:=ax h;have la:=dx a;have lb:=dx b;have lt:=vQ t;have li:=CW i;have ca:=gm a;have cb:=gm b;have ct:=Gm t;have ci:=fun w h=>Gq (lo:=lo) (hi:=hi) (.agg #[.slice A1 i.facts.length c1,.slice A2 i.atoms.length c2]) i w h;obtain⟨NA,LG⟩:∃N,N=bA a:=⟨_,rfl⟩;obtain⟨NB,LH⟩:∃N,N=bA b:=⟨_,rfl⟩;obtain⟨NT,hNT⟩:∃N,N=AQ t:=⟨_,rfl⟩;obtain⟨NI,hNI⟩:∃N,N=AR i:=⟨_,rfl⟩
 have hL:aJ (nU k a b t i=if k=1 then NA++[58,61]++NB else if k=2 then NA++[58,61,91]++NB++[93] else if k=3 then [91]++NA++[93,58,61]++NB
  else if k=4 then [110,101,119,32]++NA else if k=5 then [102,114,101,101,32]++NA else if k=6 then [105,102,32]++NT else [119,104,105,108,101,32]++NT++[32,119,105,116,104,32]++NI):=ax (by rw[LG,LH,hNT,hNI];rfl)
 rw[<-LG] at la ca;rw[<-LH] at lb cb;rw[<-hNT] at lt ct;rw[<-hNI] at li ci;replace ca:=ax ca;replace cb:=ax cb;replace ct:=ax ct;replace ci:=ax ci;clear LG LH hNT hNI h;obtain⟨te,ta,tb⟩:=t;unfold aF.val at ct;simp only at ct⊢;have k0:ae (w.alloc (.cells #[.int .i64 k,.int .i64 a,.int .i64 b,.bool te,.int .i64 ta,.int .i64 tb,.slice A1 i.facts.length c1,.slice A2 i.atoms.length c2,.slice A3 n3 c3,.slice A4 n4 c4] tC)) w.heap.size tC #[.int .i64 k,.int .i64 a,.int .i64 b,.bool te,.int .i64 ta,.int .i64 tb,.slice A1 i.facts.length c1,.slice A2 i.atoms.length c2,.slice A3 n3 c3,.slice A4 n4 c4]:=ae.new _ _ _;have hB0:Below w.heap.size w (w.alloc (.cells #[.int .i64 k,.int .i64 a,.int .i64 b,.bool te,.int .i64 ta,.int .i64 tb,.slice A1 i.facts.length c1,.slice A2 i.atoms.length c2,.slice A3 n3 c3,.slice A4 n4 c4] tC)):=ai aU _;(go_enter Tryz.func120,Tryz.ntmps120);(replace bT:=k0.z);(go_wp2_with fail);refine(ca.o _).mono ?_;rintro e w1 ⟨rfl,rfl⟩;(go_wp2_with fail);refine(cb.o _).mono ?_;rintro e w1 ⟨rfl,rfl⟩;have Uz:=ax hB0;by_cases h1:k=1
 ·have b1:(k == 1)=true:=by simp[h1]
  obtain⟨S0,e0,n0⟩:=iK (P:=Tryz.prog) NA [58,61] (by first|omega|(simp;omega));have l0:S0.length<=10:=by rw[e0.o];simp;omega
  obtain⟨S1,e1,n1⟩:=iK (P:=Tryz.prog) S0 NB (by first|omega|(simp;omega));have hR:aJ (nU k a b ⟨te,ta,tb⟩ i=S1):=ax (by rw[hL.o,if_pos h1,e1.o,e0.o]);clear hL h1;go_wp2;go_ret;exact⟨fH hR.o.symm,Uz.o⟩
 have b1:(k == 1)=false:=by simp[h1]
 by_cases h2:k=2
 ·have b2:(k == 2)=true:=by simp[h2]
  obtain⟨S0,e0,n0⟩:=iK (P:=Tryz.prog) NA [58,61,91] (by first|omega|(simp;omega));have l0:S0.length<=10:=by rw[e0.o];simp;omega
  obtain⟨S1,e1,n1⟩:=iK (P:=Tryz.prog) S0 NB (by first|omega|(simp;omega));have l1:S1.length<=20:=by rw[e1.o];simp;omega
  obtain⟨S2,e2,n2⟩:=iK (P:=Tryz.prog) S1 [93] (by first|omega|(simp;omega));have hR:aJ (nU k a b ⟨te,ta,tb⟩ i=S2):=ax (by rw[hL.o,if_neg h1,if_pos h2,e2.o,e1.o,e0.o]);clear hL h2;go_wp2;go_ret;exact⟨fH hR.o.symm,Uz.o⟩
 have b2:(k == 2)=false:=by simp[h2]
 by_cases h3:k=3
 ·have b3:(k == 3)=true:=by simp[h3]
  obtain⟨S0,e0,n0⟩:=iK (P:=Tryz.prog) [91] NA (by first|omega|(simp;omega));have l0:S0.length<=10:=by rw[e0.o];simp;omega
  obtain⟨S1,e1,n1⟩:=iK (P:=Tryz.prog) S0 [93,58,61] (by first|omega|(simp;omega));have l1:S1.length<=20:=by rw[e1.o];simp;omega
  obtain⟨S2,e2,n2⟩:=iK (P:=Tryz.prog) S1 NB (by first|omega|(simp;omega));have hR:aJ (nU k a b ⟨te,ta,tb⟩ i=S2):=ax (by rw[hL.o,if_neg h1,if_neg h2,if_pos h3,e2.o,e1.o,e0.o]);clear hL h3;go_wp2;go_ret;exact⟨fH hR.o.symm,Uz.o⟩
 have b3:(k == 3)=false:=by simp[h3]
 by_cases h4:k=4
 ·have b4:(k == 4)=true:=by simp[h4]
  obtain⟨S0,e0,n0⟩:=iK (P:=Tryz.prog) [110,101,119,32] NA (by first|omega|(simp;omega));have hR:aJ (nU k a b ⟨te,ta,tb⟩ i=S0):=ax (by rw[hL.o,if_neg h1,if_neg h2,if_neg h3,if_pos h4,e0.o]);clear hL h4;go_wp2;go_ret;exact⟨fH hR.o.symm,Uz.o⟩
 have b4:(k == 4)=false:=by simp[h4]
 by_cases h5:k=5
 ·have b5:(k == 5)=true:=by simp[h5]
  obtain⟨S0,e0,n0⟩:=iK (P:=Tryz.prog) [102,114,101,101,32] NA (by first|omega|(simp;omega));have hR:aJ (nU k a b ⟨te,ta,tb⟩ i=S0):=ax (by rw[hL.o,if_neg h1,if_neg h2,if_neg h3,if_neg h4,if_pos h5,e0.o]);clear hL h5;go_wp2;go_ret;exact⟨fH hR.o.symm,Uz.o⟩
 have b5:(k == 5)=false:=by simp[h5]
 by_cases h6:k=6
 ·have b6:(k == 6)=true:=by simp[h6]
  obtain⟨S0,e0,n0⟩:=iK (P:=Tryz.prog) [105,102,32] NT (by simp;omega);have hR:aJ (nU k a b ⟨te,ta,tb⟩ i=S0):=ax (by rw[hL.o,if_neg h1,if_neg h2,if_neg h3,if_neg h4,if_neg h5,if_pos h6,e0.o]);clear hL h1 h2 h3 h4 h5 h6;(go_wp2_with fail);refine(ct.o _).mono ?_;rintro e w2 ⟨rfl,hB2⟩;have hB2':=bF Uz hB2;go_wp2;go_ret;exact⟨fH hR.o.symm,hB2'.o⟩
 have b6:(k == 6)=false:=by simp[h6]
 obtain⟨S0,e0,n0⟩:=iK (P:=Tryz.prog) [119,104,105,108,101,32] NT (by simp;omega);have l0:S0.length<=20:=by rw[e0.o];simp;omega
 obtain⟨S1,e1,n1⟩:=iK (P:=Tryz.prog) S0 [32,119,105,116,104,32] (by simp;omega);have l1:S1.length<=30:=by rw[e1.o];simp;omega
 obtain⟨S2,e2,n2⟩:=iK (P:=Tryz.prog) S1 NI (by omega);have hR:aJ (nU k a b ⟨te,ta,tb⟩ i=S2):=ax (by rw[hL.o,if_neg h1,if_neg h2,if_neg h3,if_neg h4,if_neg h5,if_neg h6,e2.o,e1.o,e0.o]);clear hL h1 h2 h3 h4 h5 h6 l0 l1;(go_wp2_with fail)
 go_region_held3 (fun w'=>(∀j,w'.cell? ⟨w.heap.size,j,none⟩=#[.int .i64 k,.int .i64 a,.int .i64 b,.bool te,.int .i64 ta,.int .i64 tb,.slice A1 i.facts.length c1,.slice A2 i.atoms.length c2,.slice A3 n3 c3,.slice A4 n4 c4][j]?))
  (exact ae.cell az)
  (first
   | (go_at_call 117;refine(ct.o _).mono ?_;rintro e w2 ⟨rfl,hB2⟩;have hBw2:=aP (w:=w) aj hB2;have m0:=ae.nz (g:=w.heap.size) az hB2;have m0c:=m0.cell;have m0f:=m0.frozen)
   | (go_at_call 85;refine(ci.o _ (HV.o.bz aj)).mono ?_;rintro e w3 ⟨rfl,hB3⟩;have hBw3:=aP (w:=w) aj hB3;have p0:=ae.nz (g:=w.heap.size) az hB3;have p0c:=p0.cell;have p0f:=p0.frozen))
 all_goals
  go_wp2;go_ret;exact⟨fH hR.o.symm,aj⟩
theorem Jp(k a b:Int)(t:aF)(i:au)(body els r:ay):gu (.cons k a b t i body els r)=nU k a b t i++[10]++gu body++(if 0<els.len then [101,108,115,101,10]++gu els else [])++(if k=6\/k=7 then [101,110,100,10] else [])++gu r:=by rw[gu]
theorem LQ:∀(N:Nat) (L:ay),L.sz<N->∀(A:Option Addr) (c d lo hi:Nat) (w:World),bH w lo hi A L->L.len<=1049600->L.small 1049600->L.shape d=true->L.sz<=16->
  Calls Tryz.prog 87 #[.slice A L.len c] w fun e w'=>e=.returned (sv (gu L))/\Below w.heap.size w w':=by
 intro N
 induction N with
 | zero=>intro L h;omega
 | succ N IH=>
  intro L hsz A c d lo hi w hV hlen hsm hsh hcz;replace IH:=ax IH;replace hV:=ax hV;replace hsm:=ax hsm;replace hsz:=ax hsz;have hTL:=mO hsh;obtain⟨R,hR⟩:∃R,R=gu L:=⟨_,rfl⟩;have hRl:R.length<=4000:=by rw[hR];omega
  replace hcz:=ax hcz;replace hsh:=ax hsh;obtain⟨n,hn⟩:∃n,n=L.len:=⟨_,rfl⟩;rw[<-hn,<-hR];rw[<-hn] at hlen;replace hn:=ax hn;replace hR:=ax hR;clear hTL;(go_enter Tryz.func87,Tryz.ntmps87);(go_wp2_with fail)
  go_loopw [3,4] (fun y x wr=>∃(j:Nat) (X:Bs),j<=n/\x=.int .i64 j/\y=sv X/\aJ (X++gu (L.drop j)=R)/\aJ (Below w.heap.size w wr)) (fun _ x _=>n - (intOf x).toNat)
  case atStart=>exact⟨0,[],dJ,rfl,rfl,ax hR.o.symm,ax aj⟩
  case round=>
   obtain⟨j,X,hj,rfl,rfl,HR,HB⟩:=hrel;have Tn:X.length<=4000:=by have h:=congrArg List.length HR.o;rw[length_append] at h;omega
   by_cases hlt:j<n
   ·have Br:(j:Int)<(n:Int):=by omega
    have hpos:0<(L.drop j).len:=by rw[ay.iT,<-hn.o];omega
    obtain⟨k,a,b,t,i,body,els,r,eL⟩:=ay.dF hpos;obtain⟨bl,o,rfl,-,-,hAt⟩:=(hV.o.bz HB.o) (by rw[<-hn.o];omega);have hD:=hAt.drop j;have hS:=ay.fG j hsm.o;have hZ:=ay.kv j L;have G8:=ay.nk j hsh.o;have hDs:=ay.ik j L eL;have iU:=HR.o;rw[eL] at hD hS hZ iU G8;obtain⟨⟨p0,p1,p2,p3,p4,p5⟩,⟨A6,c6,p6,g6⟩,⟨A7,c7,p7,g7⟩,⟨A8,c8,p8,g8⟩,⟨A9,c9,p9,g9⟩,-⟩:=hD;obtain⟨s1,s2,s3,s4,s5,s6,-⟩:=hS;simp only[ay.sz] at hZ;simp only[ay.shape,Bool.and_eq_true] at G8;have hbs:body.sz<N:=by have:=hsz.o;omega
    have hes:els.sz<N:=by have:=hsz.o;omega
    have hbz:body.sz<=16:=by have:=hcz.o;omega
    have Uw:els.sz<=16:=by have:=hcz.o;omega
    have gB:aJ (bH wr lo hi A8 body):=g8;have gE:aJ (bH wr lo hi A9 els):=g9;have gI:aJ (aM wr lo hi (.agg #[.slice A6 i.facts.length c6,.slice A7 i.atoms.length c7]) i):=ax ⟨A6,c6,A7,c7,rfl,⟨g6,s1⟩,⟨g7,s2⟩⟩;have hfi:=Gz G8.2.1;have lln:=CX (k:=k) (a:=a) (b:=b) (t:=t) hfi.1 hfi.2;have lbd:=mO G8.2.2.1;have lel:=mO G8.2.2.2.1;rw[<-hDs,Jp] at iU;have cl:=fun W h=>Oh (lo:=lo) (hi:=hi) k a b t i A6 A7 A8 A9 c6 c7 body.len c8 els.len c9 W h;have cB:=fun W h=>IH.o body hbs A8 c8 (d - 1) lo hi W h s3 s5 G8.2.2.1 hbz;have cE:=fun W h=>IH.o els hes A9 c9 (d - 1) lo hi W h s4 s6 G8.2.2.2.1 Uw;obtain⟨LN,hLN⟩:∃x,x=nU k a b t i:=⟨_,rfl⟩;obtain⟨TB,hTB⟩:∃x,x=gu body:=⟨_,rfl⟩;obtain⟨TE,hTE⟩:∃x,x=gu els:=⟨_,rfl⟩;rw[<-hLN] at iU lln cl;rw[<-hTB] at iU lbd cB;rw[<-hTE] at iU lel cE;obtain⟨te,ta,tb⟩:=t;simp only at p3 p4 p5 cl;have lbd':TB.length<=4000:=by omega
    have lel':TE.length<=4000:=by omega
    have hbl:bl<wr.heap.size:=block_lt_of_cell p0;replace iU:=ax iU;replace cl:=ax cl;replace cB:=ax cB;replace cE:=ax cE;have hj1:=ax (show ((j+1:Nat):Int)=(j:Int)+1 by omega);clear HR hLN hTB hTE G8 hfi hZ s5 s6 s1 s2 g6 g7 g8 g9 hAt eL hDs hpos lbd lel hbs hes hbz Uw;obtain⟨S1,e1,n1⟩:=iK (P:=Tryz.prog) X LN (by omega);have l1:S1.length<=4300:=by rw[e1.o,length_append];omega
    obtain⟨S2,e2,n2⟩:=iK (P:=Tryz.prog) S1 [10] (by simp;omega);have l2:S2.length<=4400:=by rw[e2.o,length_append];simp;omega
    obtain⟨S3,e3,n3⟩:=iK (P:=Tryz.prog) S2 TB (by omega);have l3:S3.length<=9000:=by rw[e3.o,length_append];omega
    have E3:aJ (S3=X++LN++[10]++TB):=ax (by rw[e3.o,e2.o,e1.o]);clear l1 l2 e1 e2 e3 lln Tn;have k0:ae (wr.alloc (.cells #[.int .i64 k,.int .i64 a,.int .i64 b,.bool te,.int .i64 ta,.int .i64 tb,.slice A6 i.facts.length c6,.slice A7 i.atoms.length c7,.slice A8 body.len c8,.slice A9 els.len c9] tC)) wr.heap.size tC #[.int .i64 k,.int .i64 a,.int .i64 b,.bool te,.int .i64 ta,.int .i64 tb,.slice A6 i.facts.length c6,.slice A7 i.atoms.length c7,.slice A8 body.len c8,.slice A9 els.len c9]:=ae.new _ _ _;have hz:=HB.o.size;(go_wp2_with fail)
    go_region_held3 (fun w'=>(∀q,w'.cell? ⟨wr.heap.size,q,none⟩=#[.int .i64 k,.int .i64 a,.int .i64 b,.bool te,.int .i64 ta,.int .i64 tb,.slice A6 i.facts.length c6,.slice A7 i.atoms.length c7,.slice A8 body.len c8,.slice A9 els.len c9][q]?))
     (exact ae.cell az)
     (first
      | (go_at_call 120;refine(cl.o _ (gI.o.bz aj)).mono ?_;rintro e w2 ⟨rfl,hB2⟩;have hBw2:=aP (w:=wr) aj hB2;have m0:=ae.nz (g:=wr.heap.size) az hB2;have m0c:=m0.cell;have m0f:=m0.frozen)
      | (go_at_call 87;refine(cB.o _ (gB.o.bz aj)).mono ?_;rintro e w3 ⟨rfl,hB3⟩;have hBw3:=aP (w:=wr) aj hB3;have p0:=ae.nz (g:=wr.heap.size) az hB3;have p0c:=p0.cell;have p0f:=p0.frozen))
    all_goals
     have UA:aJ (Below wr.heap.size wr _):=ax hBw3;clear hBw3 hBw2 hB2 hB3 m0 m0c m0f;by_cases hel:0<els.len
     ·have heli:(0:Int)<(els.len:Int):=by omega
      obtain⟨S4,e4,n4⟩:=iK (P:=Tryz.prog) S3 [101,108,115,101,10] (by simp;omega);have l4:S4.length<=9100:=by rw[e4.o,length_append];simp;omega
      obtain⟨S5,e5,n5⟩:=iK (P:=Tryz.prog) S4 TE (by omega);have l5:S5.length<=14000:=by rw[e5.o,length_append];omega
      have E5:aJ (S5=X++LN++[10]++TB++([101,108,115,101,10]++TE)):=ax (by rw[e5.o,e4.o,E3.o,append_assoc]);replace iU:aJ (S5++((if k=6\/k=7 then [101,110,100,10] else [])++gu (L.drop (j+1)))=R):=ax (by rw[E5.o,<-iU.o,if_pos hel];simp only[append_assoc]);clear e4 e5 E5 E3 hel l4;(go_wp2_with fail);refine(cE.o _ (gE.o.bz UA.o)).mono ?_;rintro e w4 ⟨rfl,hB4⟩;have mJ:=bF UA hB4;have q0:=p0.nz hB4;clear hB4 UA p0c p0f p0;have q0c:=q0.cell;have q0f:=q0.frozen;by_cases h6:k=6
      ·have b6:(k == 6)=true:=by simp[h6]
       obtain⟨S6,e6,n6⟩:=iK (P:=Tryz.prog) S5 [101,110,100,10] (by simp;omega);have HR2:aJ (S6++gu (L.drop (j+1))=R):=ax (by rw[e6.o,<-iU.o,if_pos (Or.inl h6),append_assoc]);clear h6 e6;(go_wp2_with fail)
       go_round
       case rel=>exact⟨j+1,S6,by omega,by go_num,rfl,HR2,ax (aP HB.o mJ.o)⟩
       case measure=>simp[intOf];omega
      have b6:(k == 6)=false:=by simp[h6]
      by_cases h7:k=7
      ·have b7:(k == 7)=true:=by simp[h7]
       obtain⟨S6,e6,n6⟩:=iK (P:=Tryz.prog) S5 [101,110,100,10] (by simp;omega);have HR2:aJ (S6++gu (L.drop (j+1))=R):=ax (by rw[e6.o,<-iU.o,if_pos (Or.inr h7),append_assoc]);clear h6 h7 e6;(go_wp2_with fail)
       go_round
       case rel=>exact⟨j+1,S6,by omega,by go_num,rfl,HR2,ax (aP HB.o mJ.o)⟩
       case measure=>simp[intOf];omega
      have b7:(k == 7)=false:=by simp[h7]
      have HR2:aJ (S5++gu (L.drop (j+1))=R):=ax (by rw[<-iU.o,if_neg (by rintro(h|h)<;>contradiction),nil_append]);clear h6 h7;(go_wp2_with fail)
      go_round
      case rel=>exact⟨j+1,S5,by omega,by go_num,rfl,HR2,ax (aP HB.o mJ.o)⟩
      case measure=>simp[intOf];omega
     ·have heli:¬(0:Int)<(els.len:Int):=by omega
      replace iU:aJ (S3++((if k=6\/k=7 then [101,110,100,10] else [])++gu (L.drop (j+1)))=R):=ax (by rw[E3.o,<-iU.o,if_neg hel];simp only[append_assoc,append_nil,nil_append]);clear E3 hel;by_cases h6:k=6
      ·have b6:(k == 6)=true:=by simp[h6]
       obtain⟨S6,e6,n6⟩:=iK (P:=Tryz.prog) S3 [101,110,100,10] (by simp;omega);have HR2:aJ (S6++gu (L.drop (j+1))=R):=ax (by rw[e6.o,<-iU.o,if_pos (Or.inl h6),append_assoc]);clear h6 e6;(go_wp2_with fail)
       go_round
       case rel=>exact⟨j+1,S6,by omega,by go_num,rfl,HR2,ax (aP HB.o UA.o)⟩
       case measure=>simp[intOf];omega
      have b6:(k == 6)=false:=by simp[h6]
      by_cases h7:k=7
      ·have b7:(k == 7)=true:=by simp[h7]
       obtain⟨S6,e6,n6⟩:=iK (P:=Tryz.prog) S3 [101,110,100,10] (by simp;omega);have HR2:aJ (S6++gu (L.drop (j+1))=R):=ax (by rw[e6.o,<-iU.o,if_pos (Or.inr h7),append_assoc]);clear h6 h7 e6;(go_wp2_with fail)
       go_round
       case rel=>exact⟨j+1,S6,by omega,by go_num,rfl,HR2,ax (aP HB.o UA.o)⟩
       case measure=>simp[intOf];omega
      have b7:(k == 7)=false:=by simp[h7]
      have HR2:aJ (S3++gu (L.drop (j+1))=R):=ax (by rw[<-iU.o,if_neg (by rintro(h|h)<;>contradiction),nil_append]);clear h6 h7;(go_wp2_with fail)
      go_round
      case rel=>exact⟨j+1,S3,by omega,by go_num,rfl,HR2,ax (aP HB.o UA.o)⟩
      case measure=>simp[intOf];omega
   ·obtain rfl:j=n:=by omega
    have hE:aJ (X=R):=ax (by have h:=HR.o;rw[hn.o,ay.jw,gu,append_nil] at h;exact h);go_wp2;go_ret;exact⟨fH hE.o,HB.o⟩
theorem yn{lo hi:Nat}(L:ay)(A:Option Addr)(c:Nat)(w:World)(hV:bH w lo hi A L)(hlen:L.len<=1049600)(hsm:L.small 1049600)(hz:L.sz<=1049600) :
  Calls Tryz.prog 66 #[.slice A L.len c] w fun e w'=>e=.returned (sv (Gy L))/\Below w.heap.size w w':=by
 have HV:=ax hV;have cp:=ax (fun W h=>jl (lo:=lo) (hi:=hi) L A c W h hlen hsm hz);have cT:=ax (fun W h h1 h2=>LQ (L.sz+1) L (Nat.lt_succ_self _) A c 4 lo hi W h hlen hsm h1 h2);clear hV hsm hz;(go_enter Tryz.func66,Tryz.ntmps66);(go_wp2_with fail);refine(cp.o _ HV.o).mono ?_;rintro e w1 ⟨rfl,hB1⟩;have HB1:=ax hB1;clear hB1;cases hp:L.prog
 ·have hR:aJ (Gy L=[]):=ax (by unfold Gy;rw[hp];rfl);clear hp;go_wp2;go_ret;exact⟨fH hR.o.symm,HB1.o⟩
 ·have hR:aJ (Gy L=gu L):=ax (by unfold Gy;rw[if_pos hp]);have hs:=ax (Bc hp);clear hp;(go_wp2_with fail);refine(cT.o _ (HV.o.bz HB1.o) hs.o.1 hs.o.2).mono ?_;rintro e w2 ⟨rfl,hB2⟩;go_wp2;go_ret;exact⟨fH hR.o.symm,aP HB1.o hB2⟩
def ay.yt:ay->Prop
 | .nil=>True
 | .cons _ _ _ _ i body els r=>(i.facts.length<=12/\i.atoms.length<=6)/\body.yt/\els.yt/\r.yt
theorem ay.qD{n:Nat}(h12:12<=n):∀ {L:ay},L.yt->L.sz<=n->L.small n
 | .nil,_,_=>trivial
 | .cons k a b t i body els r,h,hs=>by
  simp only[ay.sz] at hs;have h1:=ay.wS body;have h2:=ay.wS els;exact⟨by have:=h.1.1;omega,by have:=h.1.2;omega,by omega,by omega,ay.qD h12 h.2.1 (by omega),ay.qD h12 h.2.2.1 (by omega),ay.qD h12 h.2.2.2 (by omega)⟩
theorem Oi(l:Bs):(pA l).facts.length<=12/\(pA l).atoms.length<=6:=by
 unfold pA
 cases h:eF l with
 | none=>simp
 | some a=>exact au.wE (vS h).1
theorem GH(l:Bs):(bS l).i.facts.length<=12/\(bS l).i.atoms.length<=6:=by
 unfold bS
 split
 ·simp[nC]
 ·unfold Gx
  repeat' split
  ·simp
  ·simp
  ·simp
  ·exact Oi _
theorem pN{l:Bs}{body els r:ay}(h1:body.yt)(h2:els.yt)(h3:r.yt):(ay.nD (bS l) body els r).yt:=⟨GH l,h1,h2,h3⟩
theorem xg(ls:List Bs):∀(n p d:Nat),(bR ls n p d).1.yt
 | 0,p,d=>trivial
 | n+1,p,d=>by
  have I:=xg ls n;unfold bR
  split
  ·split
   ·split
    ·trivial
    ·split
     ·rename_i body hb;exact pN (by have:=I (p+1) (d - 1);rw[hb] at this;exact this) trivial trivial
     ·rename_i body m hb;have hbi:body.yt:=by have:=I (p+1) (d - 1);rw[hb] at this;exact this
      split
      ·split
       ·rename_i els he;exact pN hbi (by have:=I (m+1) (d - 1);rw[he] at this;exact this) trivial
       ·rename_i els q he;exact pN hbi (by have:=I (m+1) (d - 1);rw[he] at this;exact this) (I _ _)
      ·exact pN hbi trivial (I _ _)
   ·exact pN trivial trivial (I _ _)
  ·trivial
theorem Kj(ls:List Bs):∀(n p d:Nat),(∀m,(bR ls n p d).2=some m->(bR ls n p d).1.sz+p<=m)/\((bR ls n p d).2=none->(bR ls n p d).1.sz+p<=ls.length+d)
 | 0,p,d=>⟨fun m h=>by simp[bR] at h;simp[bR,ay.sz];omega,fun h=>by simp[bR] at h⟩
 | n+1,p,d=>by
  have I:=Kj ls n;unfold bR
  split
  ·rename_i hc
   split
   ·split
    ·exact⟨fun m h=>by simp at h,fun _=>by simp only[ay.sz];omega⟩
    ·rename_i hd
     split
     ·rename_i body hb;have h1:=(I (p+1) (d - 1)).2;rw[hb] at h1;have h1:=h1 rfl;exact⟨fun m h=>by simp at h,fun _=>by simp only[ay.nD,ay.sz];simp only at h1;omega⟩
     ·rename_i body m hb;have h1:=(I (p+1) (d - 1)).1 m;rw[hb] at h1;have h1:=h1 rfl;simp only at h1
      split
      ·split
       ·rename_i els he;have h2:=(I (m+1) (d - 1)).2;rw[he] at h2;have h2:=h2 rfl;simp only at h2;exact⟨fun m h=>by simp at h,fun _=>by simp only[ay.nD,ay.sz];omega⟩
       ·rename_i els q he;have h2:=(I (m+1) (d - 1)).1 q;rw[he] at h2;have h2:=h2 rfl;simp only at h2;have h3:=I (q+1) d;refine⟨fun r h=>?_,fun h=>?_⟩
        ·have:=h3.1 r h;simp only[ay.nD,ay.sz];omega
        ·have:=h3.2 h;simp only[ay.nD,ay.sz];omega
      ·have h3:=I (m+1) d;refine⟨fun r h=>?_,fun h=>?_⟩
       ·have:=h3.1 r h;simp only[ay.nD,ay.sz];omega
       ·have:=h3.2 h;simp only[ay.nD,ay.sz];omega
   ·have h3:=I (p+1) d;refine⟨fun r h=>?_,fun h=>?_⟩
    ·have:=h3.1 r h;simp only[ay.nD,ay.sz];omega
    ·have:=h3.2 h;simp only[ay.nD,ay.sz];omega
  ·rename_i hc;exact⟨fun m h=>by injection h with h;simp only[ay.sz];omega,fun h=>by cases h⟩
theorem Oj{l:Bs}(h:l.length<=4000):(nV l).sz<=4010:=by
 unfold nV;have hl:=kZ 10 l []
 change (eY 10 l).length<=_ at hl
 have h1:=Kj (eY 10 l) ((eY 10 l).length+1) 0 4
 cases e:(bR (eY 10 l) ((eY 10 l).length+1) 0 4).2 with
 | none=>have:=h1.2 e;omega
 | some m=>have:=h1.1 m e;have:=mH _ _ _ _ e;omega
theorem qE(c:UInt8):∀(l acc:Bs),∀x∈kY c acc l,x.length<=acc.length+l.length
 | [],acc,x,h=>by simp[kY] at h;subst h;simp
 | y :: r,acc,x,h=>by
  unfold kY at h
  split at h
  ·rcases List.mem_cons.1 h with rfl|h
   ·simp
   ·have:=qE c r [] x h;simp at this⊢;omega
  ·have:=qE c r (acc++[y]) x h;simp at this⊢;omega
theorem Bi(l:Bs)(w:World)(hl:l.length<=1049000):Calls Tryz.prog 40 #[sv l] w fun e w'=>∃v,e=.returned (.tuple #[v,.bool (jb l)])/\dB w' w.heap.size v (mg l)/\Below w.heap.size w w':=by
 by_cases h4:l.length<=4000
 ·have h4i:¬(4000:Int)<(l.length:Int):=by omega
  have hz:=Oj h4;have hinv:(nV l).yt:=xg _ _ _ _;have hsm:=ax (ay.qD (n:=1049600) (by omega) hinv (by omega));have hlen:=ay.wS (nV l);have hb:=ax (fun lo hi A c W hV=>C5 4 (by omega) lo hi A c (eY 10 l) 0 ((eY 10 l).length+1) W hV (fun x hx=>by have:=qE 10 l [] x hx;simp at this;omega) (by have:=kZ 10 l [];change (eY 10 l).length<=_ at this;omega) dJ (by omega));have hP:aJ (jb l=(decide (Gy (nV l)=l)&&(nV l).prog)):=ax (by unfold jb;rw[decide_eq_true h4,Bool.true_and]);have hQ:aJ (mg l=if jb l then nV l else .nil):=ax rfl;rw[show (bR (eY 10 l) ((eY 10 l).length+1) 0 4).1=nV l from rfl] at hb;obtain⟨L,hL⟩:∃L,L=nV l:=⟨_,rfl⟩;obtain⟨nx,hnx⟩:∃nx,nx=(bR (eY 10 l) ((eY 10 l).length+1) 0 4).2:=⟨_,rfl⟩;rw[<-hL] at hz hsm hlen hb hP hQ;rw[<-hnx] at hb;obtain⟨ls,hls⟩:∃ls,ls=eY 10 l:=⟨_,rfl⟩;rw[<-hls] at hb;replace hls:=ax hls;clear hinv hL hnx;have cF:=ax (fun(lo hi:Nat) A c W h=>yn (lo:=lo) (hi:=hi) L A c W h (by omega) hsm.o (by omega));have cV:=ax (fun(lo hi:Nat) A c W h=>jl (lo:=lo) (hi:=hi) L A c W h (by omega) hsm.o (by omega));clear hz hlen hsm;(go_enter Tryz.func40,Tryz.ntmps40);(go_wp2_with fail);refine(Gp l 10 _ hl).mono ?_;rintro e w1 ⟨r1,rfl,o1,hB1⟩;obtain⟨A1,d1,rfl,v1⟩:=o1.rj;rw[<-hls.o] at v1⊢;have HB1:=ax hB1;have HV1:=ax v1;clear v1 o1 hB1 hls;(go_wp2_with fail);refine(hb.o _ _ _ _ _ HV1.o).mono ?_;rintro e w2 ⟨v,rfl,N2,hB2⟩;obtain⟨A2,d2,rfl,V2⟩:=N2.rj;have HB2:=bF HB1 hB2;have OH:=ax (N2.bq (base':=w.heap.size) HB1.o.size);have OK:=ax V2;clear N2 V2 hB2 hb HB1;(go_wp2_with fail);refine(cF.o _ _ _ _ _ OK.o).mono ?_;rintro e w3 ⟨rfl,hB3⟩;have HB3:=bF HB2 hB3;have HN3:=ax (OH.o.bz hB3);have WL:=ax (OK.o.bz hB3);clear hB3 OH OK HB2;obtain⟨T,hT⟩:∃T,T=Gy L:=⟨_,rfl⟩;rw[<-hT] at hP⊢;clear hT;by_cases ht:T=l
  ·subst ht;(go_wp2_with fail);refine(cV.o _ _ _ _ _ WL.o).mono ?_;rintro e w4 ⟨rfl,hB4⟩;have mJ:=bF HB3 hB4;have HN4:=ax (HN3.o.bz hB4);clear hB4 HN3 HB3;cases hp:L.prog
   ·have hE:aJ (jb T=false):=ax (by rw[hP.o,hp];simp);have hF:aJ (mg T=.nil):=ax (by rw[hQ.o,hE.o];rfl);clear hp;go_wp2;refine bodyPost_ret (v:=.tuple #[.slice (some ⟨w4.heap.size,0,none⟩) 0 0,.bool false]) (by simp[results,Tryz.results40,go_sem]) rfl ⟨_,by rw[hE.o],by rw[hF.o];exact dB.empty _ mJ.o.size,mJ.o.alloc mJ.o.size _⟩
   ·have hE:aJ (jb T=true):=ax (by rw[hP.o,hp];simp);have hF:aJ (mg T=L):=ax (by rw[hQ.o,hE.o];rfl);clear hp;go_wp2;refine bodyPost_ret (v:=.tuple #[.slice A2 L.len d2,.bool true]) (by simp[results,Tryz.results40,go_sem]) rfl ⟨_,by rw[hE.o],by rw[hF.o];exact HN4.o,mJ.o⟩
  ·have htb:(T == l)=false:=by rw[bP];simpa using ht
   have hE:aJ (jb l=false):=ax (by rw[hP.o,decide_eq_false ht];rfl);have hF:aJ (mg l=.nil):=ax (by rw[hQ.o,hE.o];rfl);clear ht;go_wp2;refine bodyPost_ret (v:=.tuple #[.slice (some ⟨w3.heap.size,0,none⟩) 0 0,.bool false]) (by simp[results,Tryz.results40,go_sem]) rfl ⟨_,by rw[hE.o],by rw[hF.o];exact dB.empty _ HB3.o.size,HB3.o.alloc HB3.o.size _⟩
 ·have h4i:(4000:Int)<(l.length:Int):=by omega
  have hE:aJ (jb l=false):=ax (by unfold jb;rw[decide_eq_false h4];rfl);have hF:aJ (mg l=.nil):=ax (by unfold mg;rw[hE.o];rfl);clear h4;(go_enter Tryz.func40,Tryz.ntmps40);go_wp2;refine bodyPost_ret (v:=.tuple #[.slice (some ⟨w.heap.size,0,none⟩) 0 0,.bool false]) (by simp[results,Tryz.results40,go_sem]) rfl ⟨_,by rw[hE.o],by rw[hF.o];exact dB.empty _ bn,ai aU _⟩
theorem oq(M S:Nat)(D:Int)(hD1:1<=D)(hD3:D<=3)(hS:S<=10000)
  (IH:1<D->∀(g p:Nat) (w:World),dX w g p->p+M<=999000->Calls Tryz.prog 41 #[.pointer (some ⟨g,0,none⟩),.int .i64 (D - 1)] w fun e w'=>∃r L q,e=.returned r/\dB w' w.heap.size r L/\1<=L.len/\L.len+L.cost<=S/\dX w' g q/\q<=p+M/\Fr g w w')
  (g p:Nat) (w:World) (h:dX w g p) (hp:p+(130+9 * M)<=999000) :
  Calls Tryz.prog 41 #[.pointer (some ⟨g,0,none⟩),.int .i64 D] w fun e w'=>∃r L q,e=.returned r/\dB w' w.heap.size r L/\1<=L.len/\L.len+L.cost<=21+6 * S/\dX w' g q/\q<=p+(130+9 * M)/\Fr g w w':=by
 have H:=ax h;have hlt:=h.lt;replace IH:=ax IH;clear h;(go_enter Tryz.func41,Tryz.ntmps41);have hN0:=dB.empty w bn;(go_wp2_with fail);refine(eU g p [2,1,3,2] _ _ _ _ (H.o.bz aj) (by omega) az (by rfl) (by first|omega|(simp;omega)) (by rfl) (by simp) (by simp)).mono ?_;rintro e w1 ⟨m,hm,rfl,hR,hF⟩;replace hN0:=ax ((hN0.bz (w':=(w.alloc (.cells #[] tC)).alloc (.cells #[.int .i64 2,.int .i64 1,.int .i64 3,.int .i64 2] tI)) aj).fr hF hlt);have uh:aJ (Fr g w w1):=(((Fr.refl g w).alloc _).alloc _).trans hF;obtain⟨k0,rfl⟩:=Int.eq_ofNat_of_zero_le ((by decide:∀m∈[(2:Int),1,3,2],0<=m) m hm);have hk1:k0<=3:=by have:=(by decide:∀m∈[(2:Int),1,3,2],m<=3) _ hm;omega
 have hk2:1<=k0:=by have:=(by decide:∀m∈[(2:Int),1,3,2],1<=m) _ hm;omega
 have HR1:=ax hR;clear hm hR hF H;(go_wp2_with fail)
 go_loopg [5,6] k0 (fun gh s5 s6 wr=>∃(I:Int) (L:ay) (q:Nat),s6=.int .i64 I/\0<=I/\I<=gh/\I+L.len=k0/\aJ (dB wr w.heap.size s5 L)/\aJ (L.len+L.cost<=L.len * (7+2 * S))/\aJ (q<=p+1+L.len * (42+3 * M))/\aJ (dX wr g q)/\aJ (Fr g w wr))
 case atStart=>exact⟨k0,.nil,p+1,rfl,by omega,by omega,by simp[ay.len],hN0.o,by simp[aJ,ay.len,ay.cost],by simp[aJ,ay.len],HR1.o,uh.o⟩
 case round=>
  clear hN0 HR1 uh;obtain⟨I,L,q,rfl,hI0,hIg,Ol,hN,hZ,hQ,hR,hF⟩:=hrel;obtain⟨wo,rfl⟩:∃x,x=wr:=⟨_,rfl⟩;have hsz:=hF.o.size;have hgb:g<w.heap.size:=hlt;replace Ol:=ax Ol;obtain⟨A5,c5,rfl,-⟩:=hN.o.rj;have Tx:=ax hN.o.Bd;by_cases hI:0<I
  ·have hI3:I<=3:=by have:=Ol.o;omega
   have hqp:q+(42+3 * M)<=999000:=by
    have h1:=hQ.o;have h2:L.len * (42+3 * M)<=2 * (42+3 * M):=Nat.mul_le_mul_right _ (by have:=Ol.o;omega);omega
   (go_wp2_with fail);refine(Jm g q _ (hR.o.bz aj) (by omega)).mono ?_;rintro e w1 ⟨k,a,b,rfl,DV,hF1⟩;replace DV:=ax DV;replace hF1:=ax hF1;have hs1:=hF1.o.size;have hg1:g<w1.heap.size:=by omega
   unfold fw;have c0:ae (w1.alloc (.cells #[.int .i64 k,.int .i64 a,.int .i64 b,.bool false,.int .i64 0,.int .i64 0,.slice none 0 0,.slice none 0 0,.slice none 0 0,.slice none 0 0] tC)) w1.heap.size tC #[.int .i64 k,.int .i64 a,.int .i64 b,.bool false,.int .i64 0,.int .i64 0,.slice none 0 0,.slice none 0 0,.slice none 0 0,.slice none 0 0]:=ae.new _ _ _;have F1:aJ (Fr g wo (w1.alloc (.cells #[.int .i64 k,.int .i64 a,.int .i64 b,.bool false,.int .i64 0,.int .i64 0,.slice none 0 0,.slice none 0 0,.slice none 0 0,.slice none 0 0] tC))):=hF1.o.alloc _;have hX:∀x,(w.heap.size<=x/\(Value.slice A5 L.len c5).ownBlock≠some x/\x≠w1.heap.size)->x≠w1.heap.size:=fun _ h=>h.2.2;have TD:∀x,(w.heap.size<=x/\(Value.slice A5 L.len c5).ownBlock≠some x/\x≠w1.heap.size)->x≠g:=fun x h=>by have:=h.1;omega
   have TF:∀x,w1.heap.size+1<=x->w.heap.size<=x/\(Value.slice A5 L.len c5).ownBlock≠some x/\x≠w1.heap.size:=fun x h=>⟨by omega,fun e=>by have:=Tx.o x e;omega,by omega⟩;replace hX:=ax hX;replace TD:=ax TD;replace TF:=ax TF;by_cases hD:1<D
   ·(go_upto_if 24 with fail);refine(iw g (q+3) 4 _ (DV.o.bz aj) (by omega)).mono ?_;rintro e w2 ⟨m,rfl,-,hR2,hF2⟩;have c2:=c0.fr hF2;have F2:=ax (F1.o.trans hF2);have s2:=hF2.size;simp only[World.size_alloc] at s2;replace hR2:=ax hR2;clear hF2 c0 F1 DV hF1;(go_upto_if 24 with fail)
    go_cut [7] (fun s7 wc=>s7=.pointer (some ⟨w1.heap.size,0,none⟩)/\∃q2,aJ (dX wc g q2)/\q2<=q+(8+2 * M)/\aJ (Fr g wo wc)/\aJ (jO wc (fun x=>w.heap.size<=x/\(Value.slice A5 L.len c5).ownBlock≠some x/\x≠w1.heap.size) w1.heap.size (6+2 * S)))
    case first=>
     by_cases hm:(m:Int)=0
     ·have t2:((m:Int) == 0)=true:=by simpa using hm
      (go_wp2_with fail);refine(GB g (q+3+1) _ hR2.o (by omega)).mono ?_;rintro e w3 ⟨t,rfl,BB,lD⟩;have c3:=c2.fr lD;have F3:=ax (F2.o.trans lD);have s3:=lD.size;replace BB:=ax BB;clear lD c2 F2 hR2;(go_wp2_with fail);refine(IH.o hD g _ _ BB.o (by omega)).mono ?_;rintro e w4 ⟨r,B,q4,rfl,hN4,hB1,Rk,BV,hq4,tu⟩;obtain⟨AB,cB,rfl,-⟩:=hN4.rj;have P4:=ax (hN4.part.mono fun x hx _=>TF.o x (by omega));have c4:=c3.fr tu;have F4:=ax (F3.o.trans tu);have s4:=tu.size;replace BV:=ax BV;replace Rk:=ax Rk;have C4:=ax c4;clear tu c3 F3 BB hN4;(replace qc4:=c4.z);clear c4;(go_wp2_with fail);refine(iw g q4 2 _ (BV.o.wy (by omega)) (by omega)).mono ?_;rintro e w5 ⟨m2,rfl,-,BU,zq⟩;have UB:=(vV C4.o (v0:=.int .i64 6) (v1:=.int .i64 0) (v2:=.int .i64 0) (v3:=.bool t.eq) (v4:=.int .i64 t.a) (v5:=.int .i64 t.b) (v6:=.slice none 0 0) (v7:=.slice none 0 0) (v8:=.slice AB B.len cB) (v9:=.slice none 0 0)).fr zq;have P5:=ax ((P4.o.keep fun x hx _=>pM (hX.o x hx)).keep fun x hx hl=>zq.block x hl (TD.o x hx));have F5:=ax ((F4.o.wy (by omega)).trans zq);have s5:=zq.size;simp only[World.size_setCell] at s5;replace BU:=ax BU;clear zq P4 F4 BV C4;by_cases hm2:(m2:Int)=0
      ·have t3:((m2:Int) == 0)=true:=by simpa using hm2
       (go_wp2_with fail);refine(IH.o hD g _ _ BU.o (by omega)).mono ?_;rintro e w6 ⟨r,E,q6,rfl,hN6,hE1,hES,JF,hq6,Bn⟩;obtain⟨AE,cE,rfl,-⟩:=hN6.rj;have P6:=ax (hN6.part.mono fun x hx _=>TF.o x (by omega));have c6:=UB.fr Bn;have P5:=ax (P5.o.keep fun x hx hl=>Bn.block x hl (TD.o x hx));have F6:=ax (F5.o.trans Bn);have s6:=Bn.size;replace JF:=ax JF;replace hES:=ax hES;have C6:=ax c6;clear Bn F5 BU hN6 UB;(replace qc6:=c6.z);clear c6;(go_wp2_with fail);go_meet
       case rel=>exact⟨rfl,q6,JF.o.ag (by simp only;omega) _,by omega,F6.o.ag (Or.inr (by simp only;omega)) _,jO.els_ (i:=⟨[],[]⟩) hX.o C6.o (my.none ..) (my.none ..) P5.o P6.o (by have:=Rk.o;have:=hES.o;simp;omega)⟩
      ·have t3:((m2:Int) == 0)=false:=by simpa using hm2
       (go_wp2_with fail);go_meet
       case rel=>exact⟨rfl,q4+1,BU.o,by omega,F5.o,⟨6,0,0,t,⟨[],[]⟩,B,.nil,none,0,none,0,AB,cB,none,0,UB,my.none ..,my.none ..,P5.o,bu.nil _,by have:=Rk.o;simp[ay.len,ay.cost];omega⟩⟩
     ·have t2:((m:Int) == 0)=false:=by simpa using hm
      (go_wp2_with fail);go_meet
      case rel=>exact⟨rfl,q+3+1,hR2.o,by omega,F2.o,(jO.simple c2).more (by omega)⟩
    case rest=>
     obtain⟨rfl,q2,R2,hq2,F2',C2⟩:=hcut;clear F2 hR2 c2;have s3:=F2'.o.size;have s3':=C2.o.lt;(go_upto_if 46 with fail);refine(iw g q2 8 _ R2.o (by omega)).mono ?_;rintro e w4 ⟨m,rfl,-,hR2,hF2⟩;have s4:=hF2.size;have F3:=ax (F2'.o.trans hF2);have C3:=ax (C2.o.fr hF2 TD.o (by omega));replace hR2:=ax hR2;clear hF2 F2' C2 R2;(go_upto_if 46 with fail)
     go_cut [7] (fun s7 wc=>s7=.pointer (some ⟨w1.heap.size,0,none⟩)/\∃q2,aJ (dX wc g q2)/\q2<=q+(42+3 * M)/\aJ (Fr g wo wc)/\aJ (jO wc (fun x=>w.heap.size<=x/\(Value.slice A5 L.len c5).ownBlock≠some x/\x≠w1.heap.size) w1.heap.size (6+2 * S)))
     case first=>
      by_cases hm:(m:Int)=0
      ·have t2:((m:Int) == 0)=true:=by simpa using hm
       obtain⟨k,a,b,t0,i,body,els,AF,cF,AA,cA,AB,cB,AE,cE,c3,-⟩:=C3.o;clear C3;(go_wp2_with fail);refine(GB g (q2+1) _ hR2.o (by omega)).mono ?_;rintro e w5 ⟨t,rfl,BU,zq⟩;have c4:=c3.fr zq;have F5:=ax (F3.o.trans zq);have s5:=zq.size;replace BU:=ax BU;clear zq c3 F3 hR2;(go_wp2_with fail);refine(Mr g (q2+1+3) _ BU.o (by omega)).mono ?_;rintro e w6 ⟨ra,inv,q6,rfl,hA6,-,hA1,hA2,JF,hq6,Bn⟩;obtain⟨B1,d1,B2,d2,rfl,hA3,Ox⟩:=hA6.rj;have P1:=ax (hA3.1.x (X:=(fun x=>w.heap.size<=x/\(Value.slice A5 L.len c5).ownBlock≠some x/\x≠w1.heap.size)) fun x hx _=>TF.o x (by omega));have P2:=ax (Ox.1.x (X:=(fun x=>w.heap.size<=x/\(Value.slice A5 L.len c5).ownBlock≠some x/\x≠w1.heap.size)) fun x hx _=>TF.o x (by omega));have UB:=c4.fr Bn;have F6:=ax (F5.o.trans Bn);have s6:=Bn.size;replace JF:=ax JF;clear Bn c4 F5 BU hA6 hA3 Ox;(go_wp2_with fail);refine(IH.o hD g _ _ JF.o (by omega)).mono ?_;rintro e w7 ⟨r,B,q7,rfl,hN7,hB1,Rk,TU,hq7,Pn⟩;obtain⟨AB7,cB7,rfl,-⟩:=hN7.rj;have P7:=ax (hN7.part.mono fun x hx _=>TF.o x (by omega));have P1:=ax (P1.o.keep fun x hx hl=>Pn.block x hl (TD.o x hx));have P2:=ax (P2.o.keep fun x hx hl=>Pn.block x hl (TD.o x hx));have c7:=UB.fr Pn;have F7:=ax (F6.o.trans Pn);have s7:=Pn.size;replace TU:=ax TU;replace Rk:=ax Rk;have C7:=ax c7;clear Pn UB F6 JF hN7;(replace qc7:=c7.z);clear c7;(go_wp2_with fail);go_meet
       case rel=>
        refine⟨rfl,q7,ax ?_,by omega,ax ?_,ax ?_⟩
        ·exact dX.wy TU.o (by omega)
        ·exact Fr.wy F7.o (by omega)
        ·exact jO.wy (t:=t) (els:=.nil) C7.o hX.o P1.o P2.o P7.o (bu.nil _) (by have:=Rk.o;simp[ay.len,ay.cost];omega)
      ·have t2:((m:Int) == 0)=false:=by simpa using hm
       (go_wp2_with fail);go_meet
       case rel=>exact⟨rfl,q2+1,hR2.o,by omega,F3.o,C3.o⟩
     case rest=>
      obtain⟨rfl,q9,R9,hq9,F9,C9⟩:=hcut;obtain⟨wx,rfl⟩:∃x,x=wc:=⟨_,rfl⟩;clear F3 hR2 C3;obtain⟨k,a,b,t,i,body,els,AF,cF,AA,cA,AB,cB,AE,cE,h0,h1,h2,h3,h4,hn⟩:=C9.o;have H0:=ax h0;(replace qh0:=h0.z);clear h0;replace h1:=ax h1;replace h2:=ax h2;replace h3:=ax h3;replace h4:=ax h4;replace hn:=ax hn;have Ov:w.heap.size<=wx.heap.size:=by have:=hF.o.size;have:=F9.o.size;omega
      have hN9:dB wx w.heap.size (.slice A5 L.len c5) L:=hN.o.fr F9.o hgb;obtain⟨cs,Be,Bg,-⟩:=hN9;replace Bg:=ax Bg;replace Be:=ax Be;have hL3:L.len<=2:=by have:=Ol.o;omega
      clear C9;(go_wp2_with (at_builtin;(refine xL (base:=w.heap.size) (g0:=wx.heap.size) rfl _ _ rfl rfl (own_below Be.o (ai aU _)) (dV k a b t (.slice AF i.facts.length cF) (.slice AA i.atoms.length cA) (.slice AB body.len cB) (.slice AE els.len cE)) rfl (ae.new _ _ _) rfl rfl (qz _ _ _ _ _ _ _ _ _ _ _ _ _ _ _ _) (by omega) (by simp;omega) ?_);(intro A8 c8 w8 o8 g8 B8 v8;have o8:=ax o8;have g8:=ax g8;have v8:=ax v8;have B8:=ax B8)));have kX:∀x,x<wx.heap.size->(wx.alloc (.cells (dV k a b t (.slice AF i.facts.length cF) (.slice AA i.atoms.length cA) (.slice AB body.len cB) (.slice AE els.len cE)).toArray tC)).heap[x]? = wx.heap[x]?:=fun x hx=>(ai (Below.refl _ wx) _).block x hx;have N8:dB w8 w.heap.size (.slice A8 (L.len+1) c8) (L.app (.cons k a b t i body els .nil)):=dB.grow (Bg.o.keep fun x _ hx=>kX x hx) (by omega) ((h1.o.mono fun x hx _=>⟨hx.1,hx.2.1⟩).keep fun x _ hx=>kX x hx) ((h2.o.mono fun x hx _=>⟨hx.1,hx.2.1⟩).keep fun x _ hx=>kX x hx) ((h3.o.mono fun x hx _=>⟨hx.1,hx.2.1⟩).keep fun x _ hx=>kX x hx) ((h4.o.mono fun x hx _=>⟨hx.1,hx.2.1⟩).keep fun x _ hx=>kX x hx) o8.o g8.o v8.o;have F8:Fr g w w8:=((hF.o.trans F9.o).alloc _).Er B8.o bn;have R8:dX w8 g q9:=(R9.o.bz (ai aU _)).jE B8.o hgb;have Ei:(L.app (.cons k a b t i body els .nil)).len=L.len+1:=by rw[ay.bY];rfl
      have Da:(L.app (.cons k a b t i body els .nil)).cost=L.cost+(i.facts.length+i.atoms.length+(body.len+body.cost)+(els.len+els.cost)):=by rw[ay.fP];simp[ay.cost]
      go_roundg (gk - 1)
      case rel=>
       refine⟨I - 1,L.app (.cons k a b t i body els .nil),q9,rfl,by omega,by omega,by rw[Ei];have:=Ol.o;omega,N8,?_,?_,R8,F8⟩
       ·show _<=_;rw[Ei,Da,Nat.succ_mul];have:=hZ.o;have:=hn.o;omega
       ·show _<=_;rw[Ei,Nat.succ_mul];have:=hQ.o;omega
      case measure=>omega
   ·have hD0:¬1<D:=hD;have C1:=ax (jO.simple (X:=fun x=>w.heap.size<=x/\(Value.slice A5 L.len c5).ownBlock≠some x/\x≠w1.heap.size) c0);have R1:=ax (DV.o.bz (w':=w1.alloc (.cells #[.int .i64 k,.int .i64 a,.int .i64 b,.bool false,.int .i64 0,.int .i64 0,.slice none 0 0,.slice none 0 0,.slice none 0 0,.slice none 0 0] tC)) (ai aU _));obtain⟨q9,hq9⟩:∃q9,q9=q+3:=⟨_,rfl⟩;rw[<-hq9] at R1;(go_upto_region 12 with fail);generalize w1.alloc (.cells #[.int .i64 k,.int .i64 a,.int .i64 b,.bool false,.int .i64 0,.int .i64 0,.slice none 0 0,.slice none 0 0,.slice none 0 0,.slice none 0 0] tC)=wx at*;have R9:=R1;have F9:=F1;have C9:=C1;clear R1 F1 C1 c0 DV hF1;obtain⟨k,a,b,t,i,body,els,AF,cF,AA,cA,AB,cB,AE,cE,h0,h1,h2,h3,h4,hn⟩:=C9.o;have H0:=ax h0;(replace qh0:=h0.z);clear h0;replace h1:=ax h1;replace h2:=ax h2;replace h3:=ax h3;replace h4:=ax h4;replace hn:=ax hn;have Ov:w.heap.size<=wx.heap.size:=by have:=hF.o.size;have:=F9.o.size;omega
    have hN9:dB wx w.heap.size (.slice A5 L.len c5) L:=hN.o.fr F9.o hgb;obtain⟨cs,Be,Bg,-⟩:=hN9;replace Bg:=ax Bg;replace Be:=ax Be;have hL3:L.len<=2:=by have:=Ol.o;omega
    clear C9;(go_wp2_with (at_builtin;(refine xL (base:=w.heap.size) (g0:=wx.heap.size) rfl _ _ rfl rfl (own_below Be.o (ai aU _)) (dV k a b t (.slice AF i.facts.length cF) (.slice AA i.atoms.length cA) (.slice AB body.len cB) (.slice AE els.len cE)) rfl (ae.new _ _ _) rfl rfl (qz _ _ _ _ _ _ _ _ _ _ _ _ _ _ _ _) (by omega) (by simp;omega) ?_);(intro A8 c8 w8 o8 g8 B8 v8;have o8:=ax o8;have g8:=ax g8;have v8:=ax v8;have B8:=ax B8)));have kX:∀x,x<wx.heap.size->(wx.alloc (.cells (dV k a b t (.slice AF i.facts.length cF) (.slice AA i.atoms.length cA) (.slice AB body.len cB) (.slice AE els.len cE)).toArray tC)).heap[x]? = wx.heap[x]?:=fun x hx=>(ai (Below.refl _ wx) _).block x hx;have N8:dB w8 w.heap.size (.slice A8 (L.len+1) c8) (L.app (.cons k a b t i body els .nil)):=dB.grow (Bg.o.keep fun x _ hx=>kX x hx) (by omega) ((h1.o.mono fun x hx _=>⟨hx.1,hx.2.1⟩).keep fun x _ hx=>kX x hx) ((h2.o.mono fun x hx _=>⟨hx.1,hx.2.1⟩).keep fun x _ hx=>kX x hx) ((h3.o.mono fun x hx _=>⟨hx.1,hx.2.1⟩).keep fun x _ hx=>kX x hx) ((h4.o.mono fun x hx _=>⟨hx.1,hx.2.1⟩).keep fun x _ hx=>kX x hx) o8.o g8.o v8.o;have F8:Fr g w w8:=((hF.o.trans F9.o).alloc _).Er B8.o bn;have R8:dX w8 g q9:=(R9.o.bz (ai aU _)).jE B8.o hgb;have Ei:(L.app (.cons k a b t i body els .nil)).len=L.len+1:=by rw[ay.bY];rfl
    have Da:(L.app (.cons k a b t i body els .nil)).cost=L.cost+(i.facts.length+i.atoms.length+(body.len+body.cost)+(els.len+els.cost)):=by rw[ay.fP];simp[ay.cost]
    go_roundg (gk - 1)
    case rel=>
     refine⟨I - 1,L.app (.cons k a b t i body els .nil),q9,rfl,by omega,by omega,by rw[Ei];have:=Ol.o;omega,N8,?_,?_,R8,F8⟩
     ·show _<=_;rw[Ei,Da,Nat.succ_mul];have:=hZ.o;have:=hn.o;omega
     ·show _<=_;rw[Ei,Nat.succ_mul];have:=hQ.o;omega
    case measure=>omega
  ·have hI0:I=0:=by omega
   subst hI0;go_wp2;refine bodyPost_ret (v:=.slice A5 L.len c5) (by simp[results,Tryz.results41,go_sem]) rfl ⟨_,rfl,L,hN.o,by have:=Ol.o;omega,?_,q,hR.o,?_,hF.o⟩
   ·have h1:=hZ.o;have h2:L.len * (7+2 * S)<=3 * (7+2 * S):=Nat.mul_le_mul_right _ (by have:=Ol.o;omega);omega
   ·have h1:=hQ.o;have h2:L.len * (42+3 * M)<=3 * (42+3 * M):=Nat.mul_le_mul_right _ (by have:=Ol.o;omega);omega
theorem GI(D:Int)(hD1:1<=D)(hD3:D<=3)(g p:Nat)(w:World)(h:dX w g p)(hp:p<=900000) :
  Calls Tryz.prog 41 #[.pointer (some ⟨g,0,none⟩),.int .i64 D] w fun e w'=>∃r L q,e=.returned r/\dB w' w.heap.size r L/\1<=L.len/\L.len+L.cost<=903/\dX w' g q/\q<=p+11830/\Fr g w w':=by
 have s1:=fun(D:Int) (h1:1<=D) (h2:D<=1) (g p:Nat) (w:World) (h:dX w g p) (hp:p+130<=999000)=>oq 0 0 D h1 (by omega) (by omega) (fun hd=>absurd hd (by omega)) g p w h (by omega);have s2:=fun(D:Int) (h1:1<=D) (h2:D<=2) (g p:Nat) (w:World) (h:dX w g p) (hp:p+1300<=999000)=>oq 130 21 D h1 (by omega) (by omega) (fun hd g p w h hp=>s1 (D - 1) (by omega) (by omega) g p w h (by omega)) g p w h (by omega);exact oq 1300 147 D hD1 hD3 (by omega) (fun hd g p w h hp=>s2 (D - 1) (by omega) (by omega) g p w h (by omega)) g p w h (by omega)
theorem ay.tq:∀ {L:ay},L.yt->L.len+L.cost<=19 * L.sz
 | .nil,_=>bn
 | .cons k a b t i body els r,h=>by
  have h1:=ay.tq h.2.1;have h2:=ay.tq h.2.2.1;have h3:=ay.tq h.2.2.2;have h4:=h.1;simp only[ay.len,ay.cost,ay.sz];omega
theorem LU{l:Bs}(h:jb l=true)(h0:l≠[]):1<=(mg l).len/\(mg l).len+(mg l).cost<=903:=by
 unfold mg;rw[if_pos h];unfold jb at h;simp only[Bool.and_eq_true,decide_eq_true_eq] at h;refine⟨?_,?_⟩
 ·cases hL:nV l with
  | nil=>rw[hL] at h;exact absurd h.2.1.symm h0
  | cons=>simp[ay.len]
 ·have:=ay.tq (L:=nV l) (xg _ _ _ _);have:=(Bc h.2.2).2;omega
def strOf:Value->Bs
 | .string s=>s.data.toList
 | _=>[]
theorem c_of{lo hi:Nat}(g p:Nat)(A:Option Addr)(c:Nat)(xs:List Bs)(w:World)(h:dX w g p)(hp:p<=1000000)(hx:lM w lo hi A xs)(hg:g<lo\/hi<=g)(hn:0<xs.length) :
  Calls Tryz.prog 36 #[.pointer (some ⟨g,0,none⟩),.slice A xs.length c] w fun e w'=>∃m∈xs,e=.returned (sv m)/\dX w' g (p+1)/\Fr g w w':=by
 have H:=ax h;have HX:=ax hx;clear h hx;(go_enter Tryz.func36,Tryz.ntmps36);(go_wp2_with fail);refine(iw g p _ _ H.o hp).mono ?_;rintro e w1 ⟨m,rfl,hm,hR,hF⟩;have hlt:m<xs.length:=by omega
 obtain⟨b,o,rfl,c0⟩:=lM.at (Rd.fr HX.o hF hg) hlt;have UH:(m:Int)<(xs.length:Int):=by omega
 have QD:=ax (And.intro hR hF);have hmem:=ax (getElem_mem hlt);obtain⟨x,AY⟩:∃x,x=xs[m]:=⟨_,rfl⟩;rw[<-AY] at c0 hmem;clear hm hR hF AY;go_wp2;go_ret;exact⟨x,hmem.o,rfl,QD.o.1,QD.o.2⟩
theorem WM(g p:Nat)(cs:Array Value)(x n:Nat)(w:World)(h:dX w g p)(hp:p<=1000000)(hk:ae w x tS cs)(hcs:cs=(encS (cs.toList.map strOf)).toArray)(hg:g<x)(hn:n=cs.size)(h0:0<cs.size)(hl:∀u∈cs.toList.map strOf,1<=u.length/\u.length<=4000)(hl1:cs.size<=100) :
  Calls Tryz.prog 36 #[.pointer (some ⟨g,0,none⟩),.slice (some ⟨x,0,none⟩) n n] w fun e w'=>∃m:Bs,(1<=m.length/\m.length<=4000)/\e=.returned (sv m)/\dX w' g (p+1)/\Fr g w w':=by
 have e:n=(cs.toList.map strOf).length:=by rw[hn];simp
 rw[e];refine(c_of (lo:=x) (hi:=x+1) g p _ _ (cs.toList.map strOf) w h hp ⟨⟨by simp[encS],fun _=>⟨x,0,rfl,bn,Nat.lt_succ_self _,fun j u hu=>?_⟩⟩,by unfold il;simp;omega⟩ (Or.inl hg) (by simpa using h0)).mono ?_
 ·rw[Nat.zero_add,hk.cell,hcs];simpa using hu
 ·rintro e w' ⟨m,hm,rfl,h1,h2⟩;exact⟨m,hl m hm,rfl,h1,h2⟩
theorem LV(g p:Nat)(w:World)(h:dX w g p)(hp:p<=700000) :
  Calls Tryz.prog 14 #[.pointer (some ⟨g,0,none⟩)] w fun e w'=>∃A c L q,e=.returned (.slice A (ay.len L) c)/\bH w' w.heap.size w'.heap.size A L/\1<=L.len/\L.len+L.cost<=903/\dX w' g q/\q<=p+90000/\Fr g w w':=by
 have H:=ax h;have hlt:=h.lt;clear h;(go_enter Tryz.func14,Tryz.ntmps14);(go_wp2_with fail);refine(WM g p _ _ _ _ (H.o.bz aj) (by omega) az (by rfl) hlt (by rfl) (by decide) (by decide) (by decide)).mono ?_;rintro e w1 ⟨l,hl,rfl,hR,hF⟩;have hF1:aJ (Fr g w w1):=((Fr.refl g w).alloc _).trans hF;have HR1:=ax hR;have z1:=hF1.o.size;have hg1:g<w1.heap.size:=by omega
 clear hR hF H;obtain⟨hl1,hl2⟩:=hl;have cP:=ax (fun W=>Bi l W (by omega));have hok:=ax (fun h=>LU (l:=l) h (by intro e;subst e;simp at hl1));obtain⟨ok,hk⟩:∃ok,ok=jb l:=⟨_,rfl⟩;obtain⟨L,hL⟩:∃L,L=mg l:=⟨_,rfl⟩;rw[<-hk,<-hL] at cP hok;clear hk hL hl1 hl2;(go_wp2_with fail);refine(cP.o _).mono ?_;rintro e w2 ⟨v,rfl,N2,hB2⟩;obtain⟨A2,d2,rfl,V2⟩:=N2.rj;have pQ:aJ (Fr g w w2):=ax (hF1.o.trans (Fr.uN hB2));have HR2:=ax (HR1.o.bz hB2);have OK:=ax (V2.mono z1 bn);have z2:=pQ.o.size;have hg2:g<w2.heap.size:=by omega
 clear N2 V2 hB2 hF1 HR1 cP;cases ok
 ·(go_wp2_with fail);refine(GI 1 (by decide) (by decide) g _ _ HR2.o (by omega)).mono ?_;rintro e w3 ⟨r3,L3,q,rfl,hN,hL1,GJ,hR,hq,hF⟩;obtain⟨A3,c3,rfl,hV⟩:=hN.rj;have oz:=ax (pQ.o.trans hF);have WL:=ax (hV.mono z2 bn);have HR3:=ax hR;clear hV hR hF;go_wp2;go_ret;exact⟨A3,c3,L3,q,rfl,WL.o,hL1,GJ,HR3.o,by omega,oz.o⟩
 ·(go_wp2_with fail);refine(iw g _ 3 _ HR2.o (by omega)).mono ?_;rintro e w3 ⟨m,rfl,-,hR,hF⟩;have oz:=ax (pQ.o.trans hF);have HR3:=ax hR;have z3:=oz.o.size;clear hR;have WL:=ax (show bH w3 w.heap.size w3.heap.size A2 L from(OK.o.keep (fun b h1 h2=>hF.block b h2 (by omega))).mono bn hF.size);clear hF;by_cases hm:(0:Int)<(m:Int)
  ·have hs:=ax (hok.o (by simp));go_wp2;go_ret;exact⟨A2,d2,L,p+1+1,rfl,WL.o,hs.o.1,hs.o.2,HR3.o,by omega,oz.o⟩
  ·(go_wp2_with fail);refine(GI 1 (by decide) (by decide) g _ _ HR3.o (by omega)).mono ?_;rintro e w4 ⟨r4,L4,q,rfl,hN,hL1,GJ,hR,hq,hF⟩;obtain⟨A4,c4,rfl,hV⟩:=hN.rj;have Ky:=ax (oz.o.trans hF);have HV4:=ax (hV.mono z3 bn);have HR4:=ax hR;clear hV hR hF;go_wp2;go_ret;exact⟨A4,c4,L4,q,rfl,HV4.o,hL1,GJ,HR4.o,by omega,Ky.o⟩
end
section
open Go Go.RowKit Go.Proofs
attribute [local go_sem ↓] Go.wp_at_zero Go.wp_at_succ
def El:Value->Bs
 | .string s=>s.data.toList
 | _=>[]
theorem WN{lo hi:Nat}(g p:Nat)(A:Option Addr)(c:Nat)(xs:List Bs)(w:World)(h:dX w g p)(hp:p<=1000000)(hx:lM w lo hi A xs)(hg:g<lo\/hi<=g)(hn:0<xs.length) :
  Calls Tryz.prog 36 #[.pointer (some ⟨g,0,none⟩),.slice A xs.length c] w fun e w'=>∃m∈xs,e=.returned (sv m)/\dX w' g (p+1)/\Fr g w w':=by
 have H:=ax h;have HX:=ax hx;clear h hx;(go_enter Tryz.func36,Tryz.ntmps36);(go_wp2_with fail);refine(iw g p _ _ H.o hp).mono ?_;rintro e w1 ⟨m,rfl,hm,hR,hF⟩;have hlt:m<xs.length:=by omega
 obtain⟨b,o,rfl,c0⟩:=lM.at (Rd.fr HX.o hF hg) hlt;have UH:(m:Int)<(xs.length:Int):=by omega
 have QD:=ax (And.intro hR hF);have hmem:=ax (getElem_mem hlt);obtain⟨x,AY⟩:∃x,x=xs[m]:=⟨_,rfl⟩;rw[<-AY] at c0 hmem;clear hm hR hF AY;go_wp2;go_ret;exact⟨x,hmem.o,rfl,QD.o.1,QD.o.2⟩
theorem TG(g p:Nat)(cs:Array Value)(x n:Nat)(w:World)(h:dX w g p)(hp:p<=1000000)(hk:ae w x tS cs)(hcs:cs=(encS (cs.toList.map El)).toArray)(hg:g<x)(hn:n=cs.size)(h0:0<cs.size)(hl:∀u∈cs.toList.map El,1<=u.length/\u.length<=4000)(hl1:cs.size<=100) :
  Calls Tryz.prog 36 #[.pointer (some ⟨g,0,none⟩),.slice (some ⟨x,0,none⟩) n n] w fun e w'=>∃m:Bs,(1<=m.length/\m.length<=4000)/\e=.returned (sv m)/\dX w' g (p+1)/\Fr g w w':=by
 have e:n=(cs.toList.map El).length:=by rw[hn];simp
 rw[e];refine(WN (lo:=x) (hi:=x+1) g p _ _ (cs.toList.map El) w h hp ⟨⟨by simp[encS],fun _=>⟨x,0,rfl,bn,Nat.lt_succ_self _,fun j u hu=>?_⟩⟩,by unfold il;simp;omega⟩ (Or.inl hg) (by simpa using h0)).mono ?_
 ·rw[Nat.zero_add,hk.cell,hcs];simpa using hu
 ·rintro e w' ⟨m,hm,rfl,h1,h2⟩;exact⟨m,hl m hm,rfl,h1,h2⟩
theorem Om(g p:Nat)(w:World)(h:dX w g p)(hp:p<=900000) :
  Calls Tryz.prog 12 #[.pointer (some ⟨g,0,none⟩)] w fun e w'=>∃r a q,e=.returned r/\aI w' w.heap.size r a/\(a.facts.length<=12/\a.atoms.length<=6)/\dX w' g q/\q<=p+40/\Fr g w w':=by
 have H:=ax h;have hlt:=h.lt;clear h;(go_enter Tryz.func12,Tryz.ntmps12);have k0:ae (w.alloc (.cells #[.slice none 0 0,.slice none 0 0] 26)) w.heap.size 26 #[.slice none 0 0,.slice none 0 0]:=az;have H0:=ax (H.o.bz (w':=w.alloc (.cells #[.slice none 0 0,.slice none 0 0] 26)) aj);have F0:aJ (Fr g w (w.alloc (.cells #[.slice none 0 0,.slice none 0 0] 26))):=ax ((Fr.refl g w).alloc _);have hs0:(w.alloc (.cells #[.slice none 0 0,.slice none 0 0] 26)).heap.size=w.heap.size+1:=by simp
 clear H;(go_wp2_with fail);generalize w.alloc (.cells #[.slice none 0 0,.slice none 0 0] 26)=W at k0 H0 F0 hs0⊢;refine(TG g p _ _ _ _ (H0.o.bz (ai aU _)) (by omega) (ae.dA (by omega)) (by rfl) (by omega) (by rfl) (by decide) (by decide) (by decide)).mono ?_;rintro e w1 ⟨l,hl,rfl,hR,hF⟩;have hFw:Fr g W w1:=((Fr.refl g W).alloc _).trans hF;replace k0:=k0.fr hFw;have hF1:aJ (Fr g w w1):=ax (F0.o.trans hFw);have HR1:=ax hR;have z1:=hF1.o.size;have hg1:g<w1.heap.size:=by omega
 clear hR hF H0 F0 hFw;obtain⟨hl1,hl2⟩:=hl;have cP:=ax (fun W=>pK l W (by omega))
 have hok:=ax (fun(h:(eF l).isSome=true)=>(show ((eF l).getD ⟨[],[]⟩).facts.length<=12/\((eF l).getD ⟨[],[]⟩).atoms.length<=6 from by
  cases e:eF l with
  | none=>rw[e] at h;cases h
  | some a=>exact tT (vS e).1))
 obtain⟨ok,hk⟩:∃ok,ok=(eF l).isSome:=⟨_,rfl⟩;obtain⟨a,ha⟩:∃a,a=(eF l).getD ⟨[],[]⟩:=⟨_,rfl⟩;rw[<-hk,<-ha] at cP hok;clear hk ha hl1 hl2;have hl0:=k0.lt;(go_wp2_with fail);refine(cP.o _).mono ?_;rintro e w2 ⟨v,rfl,N2,hB2⟩;obtain⟨fv,av,rfl,n1,n2⟩:=N2;obtain⟨F,e1,rfl,-⟩:=n1.rj;obtain⟨G,e2,rfl,-⟩:=n2.rj;have hbx:=ai hB2 (.cells #[.slice F a.facts.length e1,.slice G a.atoms.length e2] 26);have N1:=ax ((n1.bz (ai aU (.cells #[.slice F a.facts.length e1,.slice G a.atoms.length e2] 26))).bq (base':=w.heap.size) z1);have N2:=ax ((n2.bz (ai aU (.cells #[.slice F a.facts.length e1,.slice G a.atoms.length e2] 26))).bq (base':=w.heap.size) z1);have pQ:aJ (Fr g w (w2.alloc (.cells #[.slice F a.facts.length e1,.slice G a.atoms.length e2] 26))):=ax (hF1.o.trans (Fr.uN hbx));have HR2:=ax (HR1.o.bz hbx);have kx:ae (w2.alloc (.cells #[.slice F a.facts.length e1,.slice G a.atoms.length e2] 26)) w2.heap.size 26 #[.slice F a.facts.length e1,.slice G a.atoms.length e2]:=ae.new _ _ _;replace k0:=k0.nz hbx;have hz2:=hB2.size;have hs2:(w2.alloc (.cells #[.slice F a.facts.length e1,.slice G a.atoms.length e2] 26)).heap.size=w2.heap.size+1:=by simp
 clear n1 n2 hB2 hF1 HR1 cP hbx;cases ok
 ·(go_wp2_with fail);generalize (w2.alloc (.cells #[.slice F a.facts.length e1,.slice G a.atoms.length e2] 26))=W2 at k0 kx N1 N2 pQ HR2 hs2⊢;refine(zu g _ _ HR2.o (by omega)).mono ?_;rintro e w3 ⟨r3,a3,q3,rfl,o3,hv3,hf3,hx3,hR,hq,hF⟩;replace k0:=k0.fr hF;have oz:=ax (pQ.o.trans hF);have HR3:=ax hR;have uT:=ax (o3.bq (base':=w.heap.size));obtain⟨fv,av,rfl,m1,m2⟩:=uT.o;obtain⟨F3,e3,rfl,-⟩:=m1.rj;obtain⟨G3,e4,rfl,-⟩:=m2.rj;have M1:=ax m1;have M2:=ax m2;clear hR hF o3 uT m1 m2;(replace bT:=k0.cell;replace JA:=k0.frozen;replace EE:=k0.lt);go_wp2;refine bodyPost_ret (v:=.agg #[.slice F3 a3.facts.length e3,.slice G3 a3.atoms.length e4]) (by simp[results,Tryz.results12,go_sem,bT,EE]) rfl ⟨_,a3,q3,rfl,⟨_,_,rfl,?_,?_⟩,by omega,?_,by omega,?_⟩
  ·exact(M1.o.aA k0 (by decide) 0 _).aA (k0.ag 0 _) (by decide) 1 _
  ·exact(M2.o.aA k0 (by decide) 0 _).aA (k0.ag 0 _) (by decide) 1 _
  ·exact(HR3.o.ag (q:=⟨w.heap.size,0,none⟩) (by simp only;omega) _).ag (q:=⟨w.heap.size,1,none⟩) (by simp only;omega) _
  ·exact(oz.o.ag (p:=⟨w.heap.size,0,none⟩) (Or.inr bn) _).ag (p:=⟨w.heap.size,1,none⟩) (Or.inr bn) _
 ·have yN:=ax (hok.o rfl);have Uy:=kx.lt;(go_wp2_with fail);generalize (w2.alloc (.cells #[.slice F a.facts.length e1,.slice G a.atoms.length e2] 26))=W1 at k0 kx N1 N2 pQ HR2 hs2 Uy⊢;refine(iw g _ 4 _ HR2.o (by omega)).mono ?_;rintro e w4 ⟨m,rfl,-,hR,hF⟩;replace k0:=k0.fr hF;replace kx:=kx.fr hF;have ZI:=hF.size;have hgW:g<W1.heap.size:=HR2.o.lt;have P1:=ax (N1.o.fr hF);have P2:=ax (N2.o.fr hF);replace pQ:=ax (pQ.o.trans hF);replace HR2:=ax hR;clear hR hF N1 N2;by_cases hm:(0:Int)<(m:Int)
  ·(replace bT:=k0.cell;replace JA:=k0.frozen;replace EE:=k0.lt;replace uk:=kx.cell;replace XO:=kx.frozen;replace Uy:=kx.lt);go_wp2;refine bodyPost_ret (v:=.agg #[.slice F a.facts.length e1,.slice G a.atoms.length e2]) (by simp[results,Tryz.results12,go_sem,bT,EE]) rfl ⟨_,a,p+1+1,rfl,⟨_,_,rfl,?_,?_⟩,yN.o,?_,by omega,?_⟩
   ·exact(P1.o.aA k0 (by decide) 0 _).aA (k0.ag 0 _) (by decide) 1 _
   ·exact(P2.o.aA k0 (by decide) 0 _).aA (k0.ag 0 _) (by decide) 1 _
   ·exact(HR2.o.ag (q:=⟨w.heap.size,0,none⟩) (by simp only;omega) _).ag (q:=⟨w.heap.size,1,none⟩) (by simp only;omega) _
   ·exact(pQ.o.ag (p:=⟨w.heap.size,0,none⟩) (Or.inr bn) _).ag (p:=⟨w.heap.size,1,none⟩) (Or.inr bn) _
  ·(go_wp2_with fail);refine(zu g _ _ HR2.o (by omega)).mono ?_;rintro e w3 ⟨r3,a3,q3,rfl,o3,hv3,hf3,hx3,hR,hq,hF⟩;replace k0:=k0.fr hF;have oz:=ax (pQ.o.trans hF);have HR3:=ax hR;have uT:=ax (o3.bq (base':=w.heap.size));obtain⟨fv,av,rfl,m1,m2⟩:=uT.o;obtain⟨F3,e3,rfl,-⟩:=m1.rj;obtain⟨G3,e4,rfl,-⟩:=m2.rj;have M1:=ax m1;have M2:=ax m2;clear hR hF o3 uT m1 m2;(replace bT:=k0.cell;replace JA:=k0.frozen;replace EE:=k0.lt);go_wp2;refine bodyPost_ret (v:=.agg #[.slice F3 a3.facts.length e3,.slice G3 a3.atoms.length e4]) (by simp[results,Tryz.results12,go_sem,bT,EE]) rfl ⟨_,a3,q3,rfl,⟨_,_,rfl,?_,?_⟩,by omega,?_,by omega,?_⟩
   ·exact(M1.o.aA k0 (by decide) 0 _).aA (k0.ag 0 _) (by decide) 1 _
   ·exact(M2.o.aA k0 (by decide) 0 _).aA (k0.ag 0 _) (by decide) 1 _
   ·exact(HR3.o.ag (q:=⟨w.heap.size,0,none⟩) (by simp only;omega) _).ag (q:=⟨w.heap.size,1,none⟩) (by simp only;omega) _
   ·exact(oz.o.ag (p:=⟨w.heap.size,0,none⟩) (Or.inr bn) _).ag (p:=⟨w.heap.size,1,none⟩) (Or.inr bn) _
end
section
open Go Go.RowKit Go.Proofs
def xM(g q:Nat)(a b:World):Prop:=g<a.heap.size/\Fr g a b/\dX b g q
section
variable{g q:Nat}{a b c:World}
theorem xM.alloc(h:xM g q a b)(o:Obj):xM g q a (b.alloc o):=⟨h.1,h.2.1.alloc o,h.2.2.bz (ai (Below.refl _ _) o)⟩
theorem xM.drew(h:xM g q a b):xM g q a b.drew:=⟨h.1,h.2.1.drew,h.2.2.bz (Below.refl _ _).drew⟩
theorem xM.ag(h:xM g q a b){p:Addr}(hp:False\/a.heap.size<=p.block)(u:Value):xM g q a (b.setCell p u):=by
 rcases hp with hp|hp
 ·exact hp.elim
 ·exact⟨h.1,h.2.1.ag (Or.inr hp) u,h.2.2.ag (Nat.lt_of_lt_of_le h.1 hp) u⟩
theorem xM.Er{base:Nat}(h:xM g q a b)(k:Below base b c)(hb:a.heap.size<=base):xM g q a c:=⟨h.1,h.2.1.Er k hb,h.2.2.jE k (Nat.lt_of_lt_of_le h.1 hb)⟩
theorem xM.pick{q':Nat}(h:xM g q a b)(hf:Fr g b c)(hR:dX c g q'):xM g q' a c:=⟨h.1,h.2.1.trans hf,hR⟩
end
theorem ay.Db:∀ {L:ay} {j:Nat} {k a b:Int} {t:aF} {i:au} {body els r:ay},L.drop j=.cons k a b t i body els r->L.take (j+1)=(L.take j).app (.cons k a b t i body els .nil)
 | .nil,0,_,_,_,_,_,_,_,_,h=>by cases h
 | .nil,_+1,_,_,_,_,_,_,_,_,h=>by cases h
 | .cons ..,0,_,_,_,_,_,_,_,_,h=>by
  simp only[ay.drop] at h;injection h with e1 e2 e3 e4 e5 e6 e7 e8;subst e1 e2 e3 e4 e5 e6 e7 e8;simp[ay.take,ay.app]
 | .cons k' a' b' t' i' body' els' r',j+1,_,_,_,_,_,_,_,_,h=>by
  simp only[ay.drop] at h;have:=ay.Db h;simp only[ay.take] at this⊢;rw[this];rfl
section
variable{w:World}{g:Nat}{t:TypeId}{x0 x1 x2 x3 x4 x5 x6 x7 x8 x9 u v:Value}
theorem WO(h:ae w g t #[x0,x1,x2,x3,x4,x5,x6,x7,x8,x9]):ae ((w.setCell ⟨g,6,none⟩ u).setCell ⟨g,7,none⟩ v) g t #[x0,x1,x2,x3,x4,x5,u,v,x8,x9]:=by
 have h2:=(h.ag 6 u).ag 7 v;simp only[setIfInBounds_toArray,set_cons_zero,set_cons_succ] at h2;exact h2
theorem ten8(h:ae w g t #[x0,x1,x2,x3,x4,x5,x6,x7,x8,x9]):ae (w.setCell ⟨g,8,none⟩ u) g t #[x0,x1,x2,x3,x4,x5,x6,x7,u,x9]:=by
 have h2:=h.ag 8 u;simp only[setIfInBounds_toArray,set_cons_zero,set_cons_succ] at h2;exact h2
theorem ten9(h:ae w g t #[x0,x1,x2,x3,x4,x5,x6,x7,x8,x9]):ae (w.setCell ⟨g,9,none⟩ u) g t #[x0,x1,x2,x3,x4,x5,x6,x7,x8,u]:=by
 have h2:=h.ag 9 u;simp only[setIfInBounds_toArray,set_cons_zero,set_cons_succ] at h2;exact h2
end
theorem LW:∀(N:Nat) (L:ay),L.sz<N->∀(A:Option Addr) (c:Nat) (w:World) (lo hi:Nat),bH w lo hi A L->L.len<=1049600->L.small 1049600->
  Calls Tryz.prog 39 #[.slice A L.len c] w fun e w'=>∃A' c',e=.returned (.slice A' L.len c')/\GD w' w.heap.size (.slice A' L.len c') L/\Below w.heap.size w w':=by
 intro N
 induction N with
 | zero=>intro L h;omega
 | succ N IH=>
  intro L hsz A c w lo hi hV hlen hsm;replace IH:=ax IH;replace hV:=ax hV;replace hsm:=ax hsm;replace hsz:=ax hsz;obtain⟨n,hn⟩:∃n,n=L.len:=⟨_,rfl⟩;rw[<-hn] at hlen⊢;replace hn:=ax hn;(go_enter Tryz.func39,Tryz.ntmps39);(go_wp2_with fail)
  go_loopw [3,4] (fun s3 s4 wr=>∃(j:Nat) (A5:Option Addr) (c5:Nat),j<=n/\s4=.int .i64 j/\s3=.slice A5 j c5/\aJ (GD wr w.heap.size (.slice A5 j c5) (L.take j))/\aJ (Below w.heap.size w wr)) (fun _ s4 _=>n - (intOf s4).toNat)
  case atStart=>exact⟨0,_,_,dJ,rfl,rfl,by cases L<;>exact GD.empty w bn,ai aU _⟩
  case round=>
   obtain⟨j,A5,c5,hj,rfl,rfl,HC,hB⟩:=hrel;obtain⟨wo,rfl⟩:∃x,x=wr:=⟨_,rfl⟩;have hsz0:=hB.o.size;by_cases hlt:j<n
   ·have hpos:0<(L.drop j).len:=by rw[ay.iT,<-hn.o];omega
    obtain⟨k,a,b,t,i,body,els,r,eL⟩:=ay.dF hpos;obtain⟨bl,o,rfl,-,-,hAt⟩:=(hV.o.bz hB.o) (by rw[<-hn.o];omega);have hD:=hAt.drop j;have hS:=ay.fG j hsm.o;have hZ:=ay.kv j L;rw[eL] at hD hS hZ;obtain⟨⟨p0,p1,p2,p3,p4,p5⟩,⟨A6,c6,p6,g6⟩,⟨A7,c7,p7,g7⟩,⟨A8,c8,p8,g8⟩,⟨A9,c9,p9,g9⟩,-⟩:=hD;obtain⟨s1,s2,s3,s4,s5,s6,-⟩:=hS;simp only[ay.sz] at hZ;have hbs:body.sz<N:=by have:=hsz.o;omega
    have hes:els.sz<N:=by have:=hsz.o;omega
    have ha:aM wo lo hi (.agg #[.slice A6 i.facts.length c6,.slice A7 i.atoms.length c7]) i:=⟨_,_,_,_,rfl,⟨g6,s1⟩,⟨g7,s2⟩⟩;have hbl:bl<wo.heap.size:=block_lt_of_cell p0;replace ha:=ax ha;replace hbs:=ax hbs;replace hes:=ax hes;replace s3:=ax s3;replace s4:=ax s4;replace s5:=ax s5;replace s6:=ax s6;replace g8:=ax (show bH wo lo hi A8 body from g8);replace g9:=ax (show bH wo lo hi A9 els from g9);replace eL:=ax eL;clear hZ hpos hAt g6 g7 s1 s2;have k1:ae (wo.alloc (.cells #[.int .i64 k,.int .i64 a,.int .i64 b,.bool t.eq,.int .i64 t.a,.int .i64 t.b,.slice A6 i.facts.length c6,.slice A7 i.atoms.length c7,.slice A8 body.len c8,.slice A9 els.len c9] tC)) wo.heap.size tC #[.int .i64 k,.int .i64 a,.int .i64 b,.bool t.eq,.int .i64 t.a,.int .i64 t.b,.slice A6 i.facts.length c6,.slice A7 i.atoms.length c7,.slice A8 body.len c8,.slice A9 els.len c9]:=ae.new _ _ _;(go_wp2_with fail);refine(oG _ i _ (ha.o.bz (ai aU _))).mono ?_;rintro e w2 ⟨rI,rfl,hI,hB2⟩;obtain⟨B1,d1,B2,d2,rfl,hI1,hI2⟩:=hI.rj;have k2:=k1.nz hB2;have z2:=hB2.size;simp only[World.size_alloc] at z2;have W2:aJ (Below wo.heap.size wo w2):=aP (ai aU _) hB2;have P1:=ax (hI1.1.x (X:=fun x=>wo.heap.size+1<=x/\x<w2.heap.size) fun x h1 h2=>⟨by simpa using h1,h2⟩);have P2:=ax (hI2.1.x (X:=fun x=>wo.heap.size+1<=x/\x<w2.heap.size) fun x h1 h2=>⟨by simpa using h1,h2⟩);have K2:=ax (WO (u:=.slice B1 i.facts.length d1) (v:=.slice B2 i.atoms.length d2) k2);clear hB2 hI hI1 hI2 k1 ha;(replace lZ:=k2.z);clear k2 p0 p1 p2 p3 p4 p5 p6 p7 p8 p9;(go_wp2_with fail);refine(IH.o body hbs.o A8 c8 _ lo hi (g8.o.bz ((W2.o.setCell (by simp) _).setCell (by simp) _)) s3.o s5.o).mono ?_;rintro e w3 ⟨AB,cB,rfl,UC,hB3⟩;have z3:=hB3.size;simp only[World.size_setCell] at z3;have W3:aJ (Below wo.heap.size wo w3):=aP ((W2.o.setCell (by simp) _).setCell (by simp) _) hB3;have k23:∀x,wo.heap.size+1<=x->x<w2.heap.size->w3.heap[x]? = w2.heap[x]?:=fun x h1 h2=>(hB3.block x (by simpa using h2)).trans ((Below.heap_setCell _ _ _ x (by simp only;omega)).trans (Below.heap_setCell _ _ _ x (by simp only;omega)));have k3:=K2.o.nz hB3;have K3:=ax (ten8 (u:=.slice AB body.len cB) k3);have N3:=ax UC.n.cp;simp only[World.size_setCell] at N3;replace P1:=ax (P1.o.keep fun x hx _=>k23 x hx.1 hx.2);replace P2:=ax (P2.o.keep fun x hx _=>k23 x hx.1 hx.2);clear hB3 UC K2 k23 lZ W2 g8;(replace fq:=k3.z);clear k3;(go_wp2_with fail);refine(IH.o els hes.o A9 c9 _ lo hi (g9.o.bz (W3.o.setCell (by simp) _)) s4.o s6.o).mono ?_;rintro e w4 ⟨AE,cE,rfl,hC4,hB4⟩;have z4:=hB4.size;simp only[World.size_setCell] at z4;have W4:aJ (Below wo.heap.size wo w4):=aP (W3.o.setCell (by simp) _) hB4;have k34:∀x,wo.heap.size+1<=x->x<w3.heap.size->w4.heap[x]? = w3.heap[x]?:=fun x h1 h2=>(hB4.block x (by simpa using h2)).trans (Below.heap_setCell _ _ _ x (by simp only;omega));have k4:=K3.o.nz hB4;have K4:=ax (ten9 (u:=.slice AE els.len cE) k4);have N4:=ax hC4.n.cp;simp only[World.size_setCell] at N4;replace P1:=ax (P1.o.keep fun x hx _=>k34 x hx.1 (by omega));replace P2:=ax (P2.o.keep fun x hx _=>k34 x hx.1 (by omega));replace N3:=ax (N3.o.keep fun x h1 h2 _=>k34 x (by omega) h2);clear hB4 hC4 K3 k34 fq W3 g9;(replace eZ:=k4.z);clear k4;have hlv:∀g,(Value.slice A5 j c5).ownBlock=some g->g<wo.heap.size:=fun g hg=>(HC.o.n.Bd g hg).2;replace hlv:=ax hlv;have htl:(L.take j).len=j:=ay.take_len j L (by have:=hn.o;omega);obtain⟨cs,ho0,hT0,-⟩:=HC.o;rw[htl] at ho0;have ho4:=ax (own_below ho0 W4.o);have hT4:=ax (hT0.keep (w':=w4) fun x _ h1 _ _=>W4.o.block x h1);clear ho0 hT0 HC;replace htl:=ax htl
    have kW:∀x,x≠wo.heap.size->x<w4.heap.size->((w4.setCell ⟨wo.heap.size,9,none⟩ (.slice AE els.len cE)).alloc (.cells (dV k a b t (.slice B1 i.facts.length d1) (.slice B2 i.atoms.length d2) (.slice AB body.len cB) (.slice AE els.len cE)).toArray tC)).heap[x]? = w4.heap[x]?:=fun x h1 h2=>
     ((ai aU _).block x (by simpa using h2)).trans (Below.heap_setCell _ _ _ x h1)
    have ho5:((w4.setCell ⟨wo.heap.size,9,none⟩ (.slice AE els.len cE)).alloc (.cells (dV k a b t (.slice B1 i.facts.length d1) (.slice B2 i.atoms.length d2) (.slice AB body.len cB) (.slice AE els.len cE)).toArray tC)).ownsRow w.heap.size tC 10 (.slice A5 j c5) j cs:=vW ho4.o fun g hg hl=>kW g (by have:=hlv.o g hg;omega) hl;replace kW:=ax kW;replace ho5:=ax ho5;(go_wp2_with (at_builtin;go_loud (refine xL (base:=w.heap.size) (g0:=w4.heap.size) rfl _ _ rfl rfl ho5.o (dV k a b t (.slice B1 i.facts.length d1) (.slice B2 i.atoms.length d2) (.slice AB body.len cB) (.slice AE els.len cE)) rfl (ae.dA (by simp)) rfl rfl (qz _ _ _ _ _ _ _ _ _ _ _ _ _ _ _ _) (by omega) (by simp;omega) ?_);(intro A9' c9' w9 o9 g9 B9 v9;have o9:=ax o9;have g9:=ax g9;have v9:=ax v9;have B9:=ax B9)))
    have N9:GD w9 w.heap.size (.slice A9' (j+1) c9') (L.take (j+1)):=by
     rw[ay.Db eL.o];have hk:∀x,wo.heap.size+1<=x->x<w4.heap.size->_:=fun x h1 h2=>kW.o x (by omega) h2
     exact GD.grow (m:=wo.heap.size+1) (m1:=w2.heap.size) (m2:=w3.heap.size) (m3:=w4.heap.size) ((hT4.o.keep fun x _ h1 _ h2=>kW.o x (by omega) h2).Ua (by omega)) (fun g hg=>by have:=hlv.o g hg;omega) (by rw[htl.o];omega) z2 z3 z4 (by simp)
      (P1.o.keep fun x hx hl=>hk x hx.1 hl) (P2.o.keep fun x hx hl=>hk x hx.1 hl) (N3.o.keep fun x h1 _ hl=>hk x (by omega) hl) (N4.o.part.keep fun x hx hl=>hk x (by omega) hl) (by rw[htl.o];exact o9.o) g9.o v9.o B9.o.size
    have B10:Below w.heap.size w w9:=by
     have h1:Below w.heap.size w ((w4.setCell ⟨wo.heap.size,9,none⟩ (.slice AE els.len cE)).alloc (.cells (dV k a b t (.slice B1 i.facts.length d1) (.slice B2 i.atoms.length d2) (.slice AB body.len cB) (.slice AE els.len cE)).toArray tC)):=ai ((aP hB.o W4.o).setCell (by simp only;omega) _) _;exact⟨B9.o.os.trans h1.os,B9.o.tape.trans h1.tape,B9.o.output.trans h1.output,Nat.le_trans h1.size B9.o.size,fun x hx=>(B9.o.block x hx).trans (h1.block x hx)⟩
    go_round
    case rel=>exact⟨j+1,A9',c9',by omega,by go_num,rfl,N9,B10⟩
    case measure=>simp only[intOf];omega
   ·have hjn:j=n:=by omega
    subst hjn;go_wp2;go_ret;have hN:=HC.o;rw[hn.o,ay.Fp] at hN;exact⟨A5,c5,rfl,by rw[hn.o];exact hN,hB.o⟩
section
variable{w w':World}{lo hi base:Nat}{v:Value}{L:ay}{vo vo':Option Nat}
theorem gM.T2:∀ {L:ay} {cs:List Value} {lo hi:Nat},gM w vo L cs lo hi->dW w (fun b=>(lo<=b/\b<hi)/\vo≠some b) L cs
 | .nil,_,_,_,h=>h.1
 | .cons k a b t i body els r,_,lo,hi,h=>by
  obtain⟨AF,cF,AA,cA,AB,cB,AE,cE,rest,m0,m1,m2,m3,p1,⟨q0,q1,q2,q3,q4⟩,p3,p4,p5,p6,h⟩:=h;have hle:=gM.le h;have hx:∀b,m0<=b->b<m3->(lo<=b/\b<hi)/\vo≠some b:=fun b h1 h2=>⟨by omega,fun e=>q4 b e ⟨h1,h2⟩⟩
  exact⟨AF,cF,AA,cA,AB,cB,AE,cE,rest,p1,p3.mono fun b hb _=>hx b hb.1 (by omega),p4.mono fun b hb _=>hx b hb.1 (by omega),p5.part.mono fun b hb _=>hx b (by omega) (by omega),p6.mono fun b hb _=>hx b (by omega) hb.2,
   (gM.T2 h).mono fun b hb _=>⟨by omega,hb.2⟩⟩
theorem Mh.TH(h:Mh w lo hi v L):∀g,v.ownBlock=some g->lo<=g/\g<hi:=by
 obtain⟨cs,⟨_,h0⟩,h2,h3,h4⟩:=h;intro g hg;refine⟨?_,h4 g hg⟩;rcases h0 with ⟨rfl,hn⟩|⟨g',cap,cur,rfl,hb,_⟩
 ·simp[Value.ownBlock] at hg
 ·simp[Value.ownBlock] at hg;omega
theorem gM.split:∀ {L:ay} {cs:List Value} {lo hi k:Nat},gM w vo L cs lo hi->k<L.len->∃P kd a b t i body els R AF cF AA cA AB cB AE cE pre post,L=P.app (.cons kd a b t i body els R)/\P.len=k/\
   cs=pre++(dV kd a b t (.slice AF i.facts.length cF) (.slice AA i.atoms.length cA) (.slice AB body.len cB) (.slice AE els.len cE)++post)/\
   (∀g,(Value.slice AB body.len cB).ownBlock=some g->lo<=g/\vo≠some g)/\
   dW w (fun x=>lo<=x/\vo≠some x/\(Value.slice AB body.len cB).ownBlock≠some x) P pre/\dW w (fun x=>lo<=x/\vo≠some x/\(Value.slice AB body.len cB).ownBlock≠some x) R post/\
   my w (fun x=>lo<=x/\vo≠some x/\(Value.slice AB body.len cB).ownBlock≠some x) 3 AF i.facts.length (iJ i.facts)/\my w (fun x=>lo<=x/\vo≠some x/\(Value.slice AB body.len cB).ownBlock≠some x) 3 AA i.atoms.length (gK i.atoms)/\
   bu w (fun x=>lo<=x/\vo≠some x/\(Value.slice AB body.len cB).ownBlock≠some x) AE els/\
   ∃Bp,w.ownsRow lo tC 10 (.slice AB body.len cB) body.len Bp/\dW w (fun x=>lo<=x/\vo≠some x/\(Value.slice AB body.len cB).ownBlock≠some x) body Bp
 | .nil,_,_,_,_,_,h=>by simp[ay.len] at h
 | .cons kd a b t i body els r,cs,lo,hi,0,h,_=>by
  obtain⟨AF,cF,AA,cA,AB,cB,AE,cE,rest,m0,m1,m2,m3,p1,⟨q0,q1,q2,q3,q4⟩,p3,p4,p5,p6,h⟩:=h;have hle:=gM.le h;have hO:=p5.TH;have hx:∀x,m0<=x->x<m3->(x<m1\/m2<=x)->lo<=x/\vo≠some x/\(Value.slice AB body.len cB).ownBlock≠some x:=fun x h1 h2 h3=>⟨by omega,fun e=>q4 x e ⟨h1,h2⟩,fun e=>by have:=hO x e;omega⟩;obtain⟨Bp,o1,o2,o3,o4⟩:=p5;refine⟨.nil,kd,a,b,t,i,body,els,r,AF,cF,AA,cA,AB,cB,AE,cE,[],rest,rfl,rfl,p1,fun g hg=>?_,rfl,?_,p3.mono fun x hx' _=>hx x hx'.1 (by omega) (by omega),p4.mono fun x hx' _=>hx x hx'.1 (by omega) (by omega),p6.mono fun x hx' _=>hx x (by omega) hx'.2 (by omega),Bp,fu o1 (by omega),?_⟩
  ·have:=hO g hg;exact⟨by omega,fun e=>q4 g e (by omega)⟩
  ·exact h.T2.mono fun x hx' _=>⟨by omega,hx'.2,fun e=>by have:=hO x e;omega⟩
  ·exact o2.mono fun x hx' _=>⟨by omega,fun e=>q4 x e (by omega),hx'.2⟩
 | .cons kd0 a0 b0 t0 i0 WQ els0 r0,cs,lo,hi,k+1,h,hk=>by
  obtain⟨AF0,cF0,AA0,cA0,AB0,cB0,AE0,cE0,rest,m0,m1,m2,m3,rfl,⟨q0,q1,q2,q3,q4⟩,p3,p4,p5,p6,h⟩:=h;obtain⟨P,kd,a,b,t,i,body,els,R,AF,cF,AA,cA,AB,cB,AE,cE,pre,post,rfl,rfl,rfl,s1,s2,s3,s4,s5,s6,Bp,s7,s8⟩:=gM.split h (by simpa[ay.len] using hk);have hY:∀x,(m3<=x/\vo≠some x/\(Value.slice AB body.len cB).ownBlock≠some x)->(lo<=x/\vo≠some x/\(Value.slice AB body.len cB).ownBlock≠some x):=fun x hx=>⟨by omega,hx.2⟩;have hx:∀x,m0<=x->x<m3->(lo<=x/\vo≠some x/\(Value.slice AB body.len cB).ownBlock≠some x):=fun x h1 h2=>⟨by omega,fun e=>q4 x e ⟨h1,h2⟩,fun e=>by have:=s1 x e;omega⟩
  exact⟨.cons kd0 a0 b0 t0 i0 WQ els0 P,kd,a,b,t,i,body,els,R,AF,cF,AA,cA,AB,cB,AE,cE,_,post,rfl,rfl,(append_assoc ..).symm,fun g hg=>by have:=s1 g hg;exact⟨by omega,this.2⟩,
   ⟨AF0,cF0,AA0,cA0,AB0,cB0,AE0,cE0,pre,rfl,p3.mono fun x hx' _=>hx x hx'.1 (by omega),p4.mono fun x hx' _=>hx x hx'.1 (by omega),p5.part.mono fun x hx' _=>hx x (by omega) (by omega),p6.mono fun x hx' _=>hx x (by omega) hx'.2,s2.mono fun x hx _=>hY x hx⟩,
   s3.mono fun x hx _=>hY x hx,s4.mono fun x hx _=>hY x hx,s5.mono fun x hx _=>hY x hx,s6.mono fun x hx _=>hY x hx,Bp,fu s7 (by omega),s8.mono fun x hx _=>hY x hx⟩
theorem GK{n c:Nat}{A:Option Addr}{cs:List Value}(h:w.ownsRow base tC 10 (.slice A n c) n cs)(hn:0<n):∃g cur,A=some ⟨g,0,none⟩/\base<=g/\ae w g tC cur/\(Value.slice A n c).ownBlock=some g/\∀j u,cs[j]? = some u->w.cell? ⟨g,j,none⟩=some u:=by
 obtain⟨hl,h2⟩:=h;rcases h2 with ⟨e,hn'⟩|⟨g,cap,cur,e,hb,hg,hn',hm,hs,ht⟩
 ·omega
 ·injection e with e1 e2 e3;subst e1;refine⟨g,cur,rfl,hb,hg,by simp[Value.ownBlock],fun j u hu=>?_⟩;rw[cell_of_row w g j cur tC (0,0) hg];rw[<-ht,List.getElem?_take] at hu
  split at hu
  ·simpa using hu
  ·cases hu
theorem dW.rd{X:Nat->Prop}{cs:List Value}{g:Nat}(hT:dW w X L cs)(hX:∀b,X b->lo<=b)(hg:lo<=g)(hl:g<w.heap.size)(hc:∀j u,cs[j]? = some u->w.cell? ⟨g,j,none⟩=some u):bH w lo w.heap.size (some ⟨g,0,none⟩) L:=
 fun _=>⟨g,0,rfl,hg,hl,iE.at_ hX (dW.x hT fun j u hu=>by rw[Nat.zero_add];exact hc j u hu)⟩
theorem cO{g p:Nat}{t:TypeId}{cur:Array Value}{cs:List Value}{u0:Value}(hk:ae w g t cur)(hc:∀j u,cs[j]? = some u->w.cell? ⟨g,j,none⟩=some u)(hp:cs[p]? = some u0)(x:Value) :
  ∀j u,(cs.set p x)[j]? = some u->(w.setCell ⟨g,p,none⟩ x).cell? ⟨g,j,none⟩=some u:=by
 intro j u hu;have hz:=hk.ag p x;rw[hz.cell];have h0:=hc p u0 hp;rw[hk.cell] at h0
 have hlt:p<cur.size:=by
  rcases Nat.lt_or_ge p cur.size with h|h
  ·exact h
  ·rw[Array.getElem?_eq_none h] at h0;cases h0
 rw[Array.getElem?_setIfInBounds];rw[List.getElem?_set] at hu
 split at hu
 ·rename_i e;subst e;rw[if_pos rfl,if_pos hlt]
  split at hu
  ·exact hu
  ·cases hu
 ·rename_i e;rw[if_neg e];have:=hc j u hu
  rwa [hk.cell] at this
theorem mid{pre post wy:List Value}{q d:Nat}{u:Value}(h:pre.length=q)(hd:wy[d]? = some u):(pre++(wy++post))[q+d]? = some u:=by
 have hlt:d<wy.length:=by
  rcases Nat.lt_or_ge d wy.length with h|h
  ·exact h
  ·rw[List.getElem?_eq_none h] at hd;cases hd
 subst h;rw[List.getElem?_append_right (by omega),Nat.add_sub_cancel_left,List.getElem?_append_left hlt,hd]
theorem fZ{pre post wy:List Value}{q d:Nat}{x:Value}(h:pre.length=q)(hd:d<wy.length):(pre++(wy++post)).set (q+d) x=pre++(wy.set d x++post):=by
 subst h;rw[List.set_append_right _ _ (by omega),Nat.add_sub_cancel_left,List.set_append_left _ _ hd]
theorem Qv{X Y:Nat->Prop}{n c:Nat}{A:Option Addr}{cs:List Value}(h:w.ownsRow lo tC 10 (.slice A n c) L.len cs)(hT:dW w X L cs)(hX:∀x,X x->Y x)(ho:∀g,(Value.slice A n c).ownBlock=some g->Y g):bu w Y A L:=fun hl=>by
 obtain⟨hlen,h2⟩:=h;rcases h2 with ⟨e,hn⟩|⟨g,cap,cur,e,hb,hg,hn,hm,hs,ht⟩
 ·omega
 ·injection e with e1 e2 e3;subst e1;refine⟨g,0,rfl,ho g (by simp[Value.ownBlock]),(dW.x hT fun j u hu=>?_).mono fun b hx _=>hX b hx⟩;rw[Nat.zero_add,cell_of_row w g j cur tC (0,0) hg];rw[<-ht,List.getElem?_take] at hu
  split at hu
  ·simpa using hu
  ·cases hu
theorem GD.fr{g:Nat}(h:GD w base v L)(hf:Fr g w w')(hg:g<base:=by omega):GD w' base v L:=by
 obtain⟨cs,h1,h2,h3⟩:=h;exact⟨cs,yV h1 hf hg,(h2.keep fun b hb _ _ hl=>hf.block b hl (by omega)).Ua hf.size,h3⟩
theorem pP{W:World}{gb:Nat}{P R:ay}{pre post:List Value}{kd a b:Int}{t:aF}{i:au}{body els:ay}{AF AA AB AE:Option Addr}{cF cA cB cE:Nat}
  (hP:dW w (fun x=>base<=x/\x≠gb) P pre) (hR:dW w (fun x=>base<=x/\x≠gb) R post) (hF:my w (fun x=>base<=x/\x≠gb) 3 AF i.facts.length (iJ i.facts)) (hA:my w (fun x=>base<=x/\x≠gb) 3 AA i.atoms.length (gK i.atoms))
  (hB:bu w (fun x=>base<=x/\x≠gb) AB body) (hE:bu w (fun x=>base<=x/\x≠gb) AE els) (hk:∀x,base<=x->x≠gb->x<w.heap.size->W.heap[x]? = w.heap[x]?) (hgb:base<=gb) (hlt:gb<W.heap.size)
  (hc:∀j u,(pre++(dV kd a b t (.slice AF i.facts.length cF) (.slice AA i.atoms.length cA) (.slice AB body.len cB) (.slice AE els.len cE)++post))[j]? = some u->W.cell? ⟨gb,j,none⟩=some u) :
  bH W base W.heap.size (some ⟨gb,0,none⟩) (P.app (.cons kd a b t i body els R)):=by
 have kk:∀x,(base<=x/\x≠gb)->x<w.heap.size->W.heap[x]? = w.heap[x]?:=fun x hx hl=>hk x hx.1 hx.2 hl
 have hT:dW W (fun x=>base<=x/\x≠gb) (P.app (.cons kd a b t i body els R)) (pre++(dV kd a b t (.slice AF i.facts.length cF) (.slice AA i.atoms.length cA) (.slice AB body.len cB) (.slice AE els.len cE)++post)):=
  (hP.keep kk).app ⟨AF,cF,AA,cA,AB,cB,AE,cE,post,rfl,hF.keep kk,hA.keep kk,hB.keep kk,hE.keep kk,hR.keep kk⟩
 exact hT.rd (fun x hx=>hx.1) hgb hlt hc
theorem BQ{w w':World}{a:Addr}{v:Value}(h:w.heap[a.block]? = w'.heap[a.block]?):(w.setCell a v).heap[a.block]? = (w'.setCell a v).heap[a.block]?:=by
 simp only[World.setCell,Array.getElem?_modify,h]
theorem Kk{g q:Nat}{t:TypeId}{cur:Array Value}{pre post:List Value}{x0 x1 x2 x3 x4 x5 x6 x7 x8 x9 v0 v1 v2 v3 v4 v5 v6 v7 v8 v9:Value}(hk:ae w g t cur)(hq:pre.length=q)(hc:∀j u,(pre++([x0,x1,x2,x3,x4,x5,x6,x7,x8,x9]++post))[j]? = some u->w.cell? ⟨g,j,none⟩=some u) :
  ∀j u,(pre++([v0,v1,v2,v3,v4,v5,v6,v7,v8,v9]++post))[j]? = some u->(((((((((((w).setCell ⟨g,q,none⟩ v0).setCell ⟨g,q+1,none⟩ v1).setCell ⟨g,q+2,none⟩ v2).setCell ⟨g,q+3,none⟩ v3).setCell ⟨g,q+4,none⟩ v4).setCell ⟨g,q+5,none⟩ v5).setCell ⟨g,q+6,none⟩ v6).setCell ⟨g,q+7,none⟩ v7).setCell ⟨g,q+8,none⟩ v8).setCell ⟨g,q+9,none⟩ v9).cell? ⟨g,j,none⟩=some u:=by
 have D0:=cO hk hc (mid (d:=0) hq (by rfl)) v0;rw[fZ hq (by simp)] at D0;simp only[set_cons_zero,set_cons_succ] at D0;have D1:=cO (hk.ag (q+0) v0) D0 (mid (d:=1) hq (by rfl)) v1;rw[fZ hq (by simp)] at D1;simp only[set_cons_zero,set_cons_succ] at D1;have D2:=cO ((hk.ag (q+0) v0).ag (q+1) v1) D1 (mid (d:=2) hq (by rfl)) v2;rw[fZ hq (by simp)] at D2;simp only[set_cons_zero,set_cons_succ] at D2;have D3:=cO (((hk.ag (q+0) v0).ag (q+1) v1).ag (q+2) v2) D2 (mid (d:=3) hq (by rfl)) v3;rw[fZ hq (by simp)] at D3;simp only[set_cons_zero,set_cons_succ] at D3;have D4:=cO ((((hk.ag (q+0) v0).ag (q+1) v1).ag (q+2) v2).ag (q+3) v3) D3 (mid (d:=4) hq (by rfl)) v4;rw[fZ hq (by simp)] at D4;simp only[set_cons_zero,set_cons_succ] at D4;have D5:=cO (((((hk.ag (q+0) v0).ag (q+1) v1).ag (q+2) v2).ag (q+3) v3).ag (q+4) v4) D4 (mid (d:=5) hq (by rfl)) v5;rw[fZ hq (by simp)] at D5;simp only[set_cons_zero,set_cons_succ] at D5;have D6:=cO ((((((hk.ag (q+0) v0).ag (q+1) v1).ag (q+2) v2).ag (q+3) v3).ag (q+4) v4).ag (q+5) v5) D5 (mid (d:=6) hq (by rfl)) v6;rw[fZ hq (by simp)] at D6;simp only[set_cons_zero,set_cons_succ] at D6;have D7:=cO (((((((hk.ag (q+0) v0).ag (q+1) v1).ag (q+2) v2).ag (q+3) v3).ag (q+4) v4).ag (q+5) v5).ag (q+6) v6) D6 (mid (d:=7) hq (by rfl)) v7;rw[fZ hq (by simp)] at D7;simp only[set_cons_zero,set_cons_succ] at D7;have D8:=cO ((((((((hk.ag (q+0) v0).ag (q+1) v1).ag (q+2) v2).ag (q+3) v3).ag (q+4) v4).ag (q+5) v5).ag (q+6) v6).ag (q+7) v7) D7 (mid (d:=8) hq (by rfl)) v8;rw[fZ hq (by simp)] at D8;simp only[set_cons_zero,set_cons_succ] at D8;have D9:=cO (((((((((hk.ag (q+0) v0).ag (q+1) v1).ag (q+2) v2).ag (q+3) v3).ag (q+4) v4).ag (q+5) v5).ag (q+6) v6).ag (q+7) v7).ag (q+8) v8) D8 (mid (d:=9) hq (by rfl)) v9;rw[fZ hq (by simp)] at D9;simp only[set_cons_zero,set_cons_succ] at D9;exact D9
theorem WR{W:World}{gb g8 c9:Nat}{P R:ay}{pre post Bp:List Value}{kd a b:Int}{t:aF}{i:au}{body els:ay}{AF AA AB AE:Option Addr}{cF cA cB cE:Nat}
  (h2:dW w (fun x=>base<=x/\some gb≠some x/\(Value.slice AB body.len cB).ownBlock≠some x) P pre) (h3:dW w (fun x=>base<=x/\some gb≠some x/\(Value.slice AB body.len cB).ownBlock≠some x) R post) (h4:my w (fun x=>base<=x/\some gb≠some x/\(Value.slice AB body.len cB).ownBlock≠some x) 3 AF i.facts.length (iJ i.facts)) (h5:my w (fun x=>base<=x/\some gb≠some x/\(Value.slice AB body.len cB).ownBlock≠some x) 3 AA i.atoms.length (gK i.atoms)) (h6:bu w (fun x=>base<=x/\some gb≠some x/\(Value.slice AB body.len cB).ownBlock≠some x) AE els) (h8:dW w (fun x=>base<=x/\some gb≠some x/\(Value.slice AB body.len cB).ownBlock≠some x) body Bp)
  (kW:∀x,base<=x->x≠gb->(Value.slice AB body.len cB).ownBlock≠some x->x<w.heap.size->W.heap[x]? = w.heap[x]?) (e8:base<=g8) (hne:gb≠g8)
  (c8:∀j u,(Bp++((dV 5 1 0 ⟨false,0,0⟩ (.slice none 0 0) (.slice none 0 0) (.slice none 0 0) (.slice none 0 0))++[]))[j]? = some u->W.cell? ⟨g8,j,none⟩=some u) (hgb:base<=gb) (hlt:gb<W.heap.size)
  (cb:∀j u,(pre++(dV kd a b t (.slice AF i.facts.length cF) (.slice AA i.atoms.length cA) (.slice (some ⟨g8,0,none⟩) (body.len+1) c9) (.slice AE els.len cE)++post))[j]? = some u->W.cell? ⟨gb,j,none⟩=some u) :
  bH W base W.heap.size (some ⟨gb,0,none⟩) (P.app (.cons kd a b t i (body.app (.cons 5 1 0 ⟨false,0,0⟩ ⟨[],[]⟩ .nil .nil .nil)) els R)):=by
 have hl:(body.app (.cons 5 1 0 ⟨false,0,0⟩ ⟨[],[]⟩ .nil .nil .nil)).len=body.len+1:=by rw[ay.bY];rfl
 have kk:∀x,(base<=x/\some gb≠some x/\(Value.slice AB body.len cB).ownBlock≠some x)->x<w.heap.size->W.heap[x]? = w.heap[x]?:=fun x hx hl=>kW x hx.1 (fun e=>hx.2.1 (by rw[e])) hx.2.2 hl;have zz:∀x,(base<=x/\some gb≠some x/\(Value.slice AB body.len cB).ownBlock≠some x)->(base<=x/\x≠gb):=fun x hx=>⟨hx.1,fun e=>hx.2.1 (by rw[e])⟩;have hT:dW W (fun x=>base<=x/\x≠gb) (body.app (.cons 5 1 0 ⟨false,0,0⟩ ⟨[],[]⟩ .nil .nil .nil)) (Bp++((dV 5 1 0 ⟨false,0,0⟩ (.slice none 0 0) (.slice none 0 0) (.slice none 0 0) (.slice none 0 0))++[])):=((h8.keep kk).mono fun x hx _=>zz x hx).app ⟨none,0,none,0,none,0,none,0,[],rfl,my.none ..,my.none ..,bu.nil _,bu.nil _,rfl⟩;refine pP (w:=W) (AB:=some ⟨g8,0,none⟩) (cF:=cF) (cA:=cA) (cB:=c9) (cE:=cE) ((h2.keep kk).mono fun x hx _=>zz x hx) ((h3.keep kk).mono fun x hx _=>zz x hx) ((h4.keep kk).mono fun x hx _=>zz x hx) ((h5.keep kk).mono fun x hx _=>zz x hx) (fun _=>⟨g8,0,rfl,⟨e8,fun e=>hne e.symm⟩,dW.x hT fun j u hu=>by rw[Nat.zero_add];exact c8 j u hu⟩) ((h6.keep kk).mono fun x hx _=>zz x hx) (fun _ _ _ _=>rfl) hgb hlt ?_;rw[hl];exact cb
end
section
variable{ops:Array Oper}{o:Oper}{a:Act}{Q:Exit->Act->World->Prop}{w:World}{base:Nat}{v:Value}
theorem TI{K:Act->World->Prop}{E:Prop}(hgd:o.guard=none)(s x:Operand)(ho:o.op=.call { callee:=.builtin .append,args:=#[s,x],argTypes:=#[27,27] })
  {n:Nat} {cs:List Value} (hs:a.eval s=v) (hown:w.ownsRow base tC 10 v n cs) {g0 c:Nat} {arr:Array Value} (wy:List Value) (hx:a.eval x=.slice (some ⟨g0,0,none⟩) 1 c) (hk:ae w g0 tC arr) (hcs:arr=wy.toArray) (ht:wy.length=10) (h1:∀u∈wy,u.oneCell'=true) (hn:n+1<=1049600) (hb:base<=w.heap.size)
  (h:∀A' c' w',w'.ownsRow base tC 10 (.slice A' (n+1) c') (n+1) (cs++wy)->w.grownBy w' v.ownBlock->Below base w w'->((Value.slice A' (n+1) c').ownBlock=v.ownBlock\/(Value.slice A' (n+1) c').ownBlock=some w.heap.size)->K (a.put o.dst (.slice A' (n+1) c')) w'):if Region.wanted o (yielded ops a.tmps)=true then Oper.wp Tryz.prog o a w K Q else E:=by
 have hadd:∀j,(⟨g0,0,none⟩:Addr).add j=⟨g0,j,none⟩:=fun j=>by unfold Addr.add;split<;>simp_all
 rw[if_pos (show Region.wanted o (yielded ops a.tmps)=true by simp[Region.wanted,hgd])];refine JZ (news:=wy) s x 27 ho Tryz.underlying27 QS rfl (by decide) (by decide) hs hown hx (by rw[ht]) (fun j u hu=>?_) h1 hn hb ?_
 ·rw[hadd,hk.cell,hcs];simpa using hu
 ·intro v' w' q1 q2 q3 q4;obtain⟨q1a,q1b⟩:=q1;rcases q1b with ⟨rfl,e⟩|⟨k,cap,cur,rfl,r⟩
  ·omega
  ·exact h _ _ w' ⟨q1a,Or.inr ⟨k,cap,cur,rfl,r⟩⟩ q2 q3 q4
end
set_option maxHeartbeats 1600000
theorem Kl{w:World}{base size n c:Nat}{e:TypeId}{A:Option Addr}{cs:List Value}(h:w.ownsRow base e size (.slice A n c) n cs):n<=c:=by
 obtain⟨_,h2⟩:=h;rcases h2 with ⟨_,rfl⟩|⟨g,cap,cur,e,hb,hg,hn,_⟩
 ·exact Nat.zero_le _
 ·injection e with e1 e2 e3;omega
theorem WS{w w3 w9:World}{g qr gb g8 c9 k:Nat}{cur Qw:Array Value}{P R:ay}{pre post Bp:List Value}{kd a b:Int}{t:aF}{i:au}{body els:ay}{AF AA AB AE:Option Addr}{cF cA cB cE:Nat}
  (s2:dW w3 (fun x=>w.heap.size<=x/\some gb≠some x/\(Value.slice AB body.len cB).ownBlock≠some x) P pre) (s3:dW w3 (fun x=>w.heap.size<=x/\some gb≠some x/\(Value.slice AB body.len cB).ownBlock≠some x) R post) (s4:my w3 (fun x=>w.heap.size<=x/\some gb≠some x/\(Value.slice AB body.len cB).ownBlock≠some x) 3 AF i.facts.length (iJ i.facts)) (s5:my w3 (fun x=>w.heap.size<=x/\some gb≠some x/\(Value.slice AB body.len cB).ownBlock≠some x) 3 AA i.atoms.length (gK i.atoms)) (s6:bu w3 (fun x=>w.heap.size<=x/\some gb≠some x/\(Value.slice AB body.len cB).ownBlock≠some x) AE els) (s8:dW w3 (fun x=>w.heap.size<=x/\some gb≠some x/\(Value.slice AB body.len cB).ownBlock≠some x) body Bp)
  (NF:∀x,x<w3.heap.size->(Value.slice AB body.len cB).ownBlock≠some x->x≠g8) (qR:∀x,x<w3.heap.size->(Value.slice AB body.len cB).ownBlock≠some x->w9.heap[x]? = w3.heap[x]?)
  (e8:w.heap.size<=g8) (yu:gb≠g8) (JU:ae w9 g8 tC Qw) (qF:Bp.length=body.len * 10)
  (hc8:∀j u,(Bp++([.int .i64 0,.int .i64 0,.int .i64 0,.bool false,.int .i64 0,.int .i64 0,.slice none 0 0,.slice none 0 0,.slice none 0 0,.slice none 0 0]++[]))[j]? = some u->w9.cell? ⟨g8,j,none⟩=some u)
  (yw:ae w9 gb tC cur) (Em:w9.heap[gb]? = w3.heap[gb]?)
  (hc:∀j u,(pre++(dV kd a b t (.slice AF i.facts.length cF) (.slice AA i.atoms.length cA) (.slice AB body.len cB) (.slice AE els.len cE)++post))[j]? = some u->w3.cell? ⟨gb,j,none⟩=some u)
  (hpl:pre.length=k * 10) (hgb:w.heap.size<=gb) (F9:xM g qr w w9) :
  bH (((((((((((w9.setCell ⟨g8,body.len * 10,none⟩ (.int .i64 5)).setCell ⟨g8,body.len * 10+1,none⟩ (.int .i64 1)).setCell ⟨g8,body.len * 10+2,none⟩ (.int .i64 0)).setCell ⟨g8,body.len * 10+3,none⟩ (.bool false)).setCell ⟨g8,body.len * 10+4,none⟩ (.int .i64 0)).setCell ⟨g8,body.len * 10+5,none⟩ (.int .i64 0)).setCell ⟨g8,body.len * 10+6,none⟩ (.slice none 0 0)).setCell ⟨g8,body.len * 10+7,none⟩ (.slice none 0 0)).setCell ⟨g8,body.len * 10+8,none⟩ (.slice none 0 0)).setCell ⟨g8,body.len * 10+9,none⟩ (.slice none 0 0)).setCell ⟨gb,k * 10+8,none⟩ (.slice (some ⟨g8,0,none⟩) (body.len+1) c9)) w.heap.size (((((((((((w9.setCell ⟨g8,body.len * 10,none⟩ (.int .i64 5)).setCell ⟨g8,body.len * 10+1,none⟩ (.int .i64 1)).setCell ⟨g8,body.len * 10+2,none⟩ (.int .i64 0)).setCell ⟨g8,body.len * 10+3,none⟩ (.bool false)).setCell ⟨g8,body.len * 10+4,none⟩ (.int .i64 0)).setCell ⟨g8,body.len * 10+5,none⟩ (.int .i64 0)).setCell ⟨g8,body.len * 10+6,none⟩ (.slice none 0 0)).setCell ⟨g8,body.len * 10+7,none⟩ (.slice none 0 0)).setCell ⟨g8,body.len * 10+8,none⟩ (.slice none 0 0)).setCell ⟨g8,body.len * 10+9,none⟩ (.slice none 0 0)).setCell ⟨gb,k * 10+8,none⟩ (.slice (some ⟨g8,0,none⟩) (body.len+1) c9)).heap.size (some ⟨gb,0,none⟩) (P.app (.cons kd a b t i (body.app (.cons 5 1 0 ⟨false,0,0⟩ ⟨[],[]⟩ .nil .nil .nil)) els R))/\xM g qr w (((((((((((w9.setCell ⟨g8,body.len * 10,none⟩ (.int .i64 5)).setCell ⟨g8,body.len * 10+1,none⟩ (.int .i64 1)).setCell ⟨g8,body.len * 10+2,none⟩ (.int .i64 0)).setCell ⟨g8,body.len * 10+3,none⟩ (.bool false)).setCell ⟨g8,body.len * 10+4,none⟩ (.int .i64 0)).setCell ⟨g8,body.len * 10+5,none⟩ (.int .i64 0)).setCell ⟨g8,body.len * 10+6,none⟩ (.slice none 0 0)).setCell ⟨g8,body.len * 10+7,none⟩ (.slice none 0 0)).setCell ⟨g8,body.len * 10+8,none⟩ (.slice none 0 0)).setCell ⟨g8,body.len * 10+9,none⟩ (.slice none 0 0)).setCell ⟨gb,k * 10+8,none⟩ (.slice (some ⟨g8,0,none⟩) (body.len+1) c9)):=by
 have hlb:gb<w9.heap.size:=yw.lt;have D8:=cO yw (fun j u hu=>(World.cell?_of_block (a:=⟨gb,j,none⟩) Em).trans (hc j u hu)) (mid (d:=8) hpl (by rfl)) (.slice (some ⟨g8,0,none⟩) (body.len+1) c9);rw[fZ hpl (by simp[dV])] at D8;have C8:=Kk (v0:=.int .i64 5) (v1:=.int .i64 1) (v2:=.int .i64 0) (v3:=.bool false) (v4:=.int .i64 0) (v5:=.int .i64 0) (v6:=.slice none 0 0) (v7:=.slice none 0 0) (v8:=.slice none 0 0) (v9:=.slice none 0 0) JU qF hc8
 have hS:∀x,x≠g8->((((((((((w9.setCell ⟨g8,body.len * 10,none⟩ (.int .i64 5)).setCell ⟨g8,body.len * 10+1,none⟩ (.int .i64 1)).setCell ⟨g8,body.len * 10+2,none⟩ (.int .i64 0)).setCell ⟨g8,body.len * 10+3,none⟩ (.bool false)).setCell ⟨g8,body.len * 10+4,none⟩ (.int .i64 0)).setCell ⟨g8,body.len * 10+5,none⟩ (.int .i64 0)).setCell ⟨g8,body.len * 10+6,none⟩ (.slice none 0 0)).setCell ⟨g8,body.len * 10+7,none⟩ (.slice none 0 0)).setCell ⟨g8,body.len * 10+8,none⟩ (.slice none 0 0)).setCell ⟨g8,body.len * 10+9,none⟩ (.slice none 0 0)).heap[x]? = w9.heap[x]?:=fun x hx=>by
  iterate 10 (refine(Below.heap_setCell _ _ _ x hx).trans ?_)
  exact rfl
 refine⟨WR (cF:=cF) (cA:=cA) (cE:=cE) (c9:=c9) s2 s3 s4 s5 s6 s8 (fun x h1 h2 h3 hl=>?_) e8 yu (fun j u hu=>?_) hgb ?_ (fun j u hu=>?_),?_⟩
 ·exact(Below.heap_setCell _ _ _ x h2).trans ((hS x (NF x hl h3)).trans (qR x hl h3))
 ·exact(World.cell?_of_block (a:=⟨g8,j,none⟩) (Below.heap_setCell _ _ _ g8 (Ne.symm yu))).trans (C8 j u hu)
 ·simp only[World.size_setCell];exact hlb
 ·refine(World.cell?_of_block (a:=⟨gb,j,none⟩) ?_).trans (D8 j u hu);exact BQ (a:=⟨gb,k * 10+8,none⟩) (hS gb yu)
 ·iterate 11 (refine xM.ag ?_ (Or.inr (by simp only;omega)) _)
  exact F9
theorem Rl{w w3 w9:World}{g qr gb g8 c9 k:Nat}{cur Qw:Array Value}{P R:ay}{pre post Bp:List Value}{kd a b:Int}{t:aF}{i:au}{body els:ay}{AF AA AB AE:Option Addr}{cF cA cB cE:Nat}
  (s2:dW w3 (fun x=>w.heap.size<=x/\some gb≠some x/\(Value.slice AB body.len cB).ownBlock≠some x) P pre) (s3:dW w3 (fun x=>w.heap.size<=x/\some gb≠some x/\(Value.slice AB body.len cB).ownBlock≠some x) R post) (s4:my w3 (fun x=>w.heap.size<=x/\some gb≠some x/\(Value.slice AB body.len cB).ownBlock≠some x) 3 AF i.facts.length (iJ i.facts)) (s5:my w3 (fun x=>w.heap.size<=x/\some gb≠some x/\(Value.slice AB body.len cB).ownBlock≠some x) 3 AA i.atoms.length (gK i.atoms)) (s6:bu w3 (fun x=>w.heap.size<=x/\some gb≠some x/\(Value.slice AB body.len cB).ownBlock≠some x) AE els) (s8:dW w3 (fun x=>w.heap.size<=x/\some gb≠some x/\(Value.slice AB body.len cB).ownBlock≠some x) body Bp)
  (NF:∀x,x<w3.heap.size->(Value.slice AB body.len cB).ownBlock≠some x->x≠g8) (qR:∀x,x<w3.heap.size->(Value.slice AB body.len cB).ownBlock≠some x->w9.heap[x]? = w3.heap[x]?)
  (e8:w.heap.size<=g8) (yu:gb≠g8) (JU:ae w9 g8 tC Qw) (qF:Bp.length=body.len * 10)
  (hc8:∀j u,(Bp++([.int .i64 0,.int .i64 0,.int .i64 0,.bool false,.int .i64 0,.int .i64 0,.slice none 0 0,.slice none 0 0,.slice none 0 0,.slice none 0 0]++[]))[j]? = some u->w9.cell? ⟨g8,j,none⟩=some u)
  (yw:ae w9 gb tC cur) (Em:w9.heap[gb]? = w3.heap[gb]?)
  (hc:∀j u,(pre++(dV kd a b t (.slice AF i.facts.length cF) (.slice AA i.atoms.length cA) (.slice AB body.len cB) (.slice AE els.len cE)++post))[j]? = some u->w3.cell? ⟨gb,j,none⟩=some u)
  (hpl:pre.length=k * 10) (hgb:w.heap.size<=gb) (F9:xM g qr w w9) :
  bH (((((((((((w9.setCell ⟨gb,k * 10+8,none⟩ (.slice (some ⟨g8,0,none⟩) (body.len+1) c9)).setCell ⟨g8,body.len * 10,none⟩ (.int .i64 5)).setCell ⟨g8,body.len * 10+1,none⟩ (.int .i64 1)).setCell ⟨g8,body.len * 10+2,none⟩ (.int .i64 0)).setCell ⟨g8,body.len * 10+3,none⟩ (.bool false)).setCell ⟨g8,body.len * 10+4,none⟩ (.int .i64 0)).setCell ⟨g8,body.len * 10+5,none⟩ (.int .i64 0)).setCell ⟨g8,body.len * 10+6,none⟩ (.slice none 0 0)).setCell ⟨g8,body.len * 10+7,none⟩ (.slice none 0 0)).setCell ⟨g8,body.len * 10+8,none⟩ (.slice none 0 0)).setCell ⟨g8,body.len * 10+9,none⟩ (.slice none 0 0)) w.heap.size (((((((((((w9.setCell ⟨gb,k * 10+8,none⟩ (.slice (some ⟨g8,0,none⟩) (body.len+1) c9)).setCell ⟨g8,body.len * 10,none⟩ (.int .i64 5)).setCell ⟨g8,body.len * 10+1,none⟩ (.int .i64 1)).setCell ⟨g8,body.len * 10+2,none⟩ (.int .i64 0)).setCell ⟨g8,body.len * 10+3,none⟩ (.bool false)).setCell ⟨g8,body.len * 10+4,none⟩ (.int .i64 0)).setCell ⟨g8,body.len * 10+5,none⟩ (.int .i64 0)).setCell ⟨g8,body.len * 10+6,none⟩ (.slice none 0 0)).setCell ⟨g8,body.len * 10+7,none⟩ (.slice none 0 0)).setCell ⟨g8,body.len * 10+8,none⟩ (.slice none 0 0)).setCell ⟨g8,body.len * 10+9,none⟩ (.slice none 0 0)).heap.size (some ⟨gb,0,none⟩) (P.app (.cons kd a b t i (body.app (.cons 5 1 0 ⟨false,0,0⟩ ⟨[],[]⟩ .nil .nil .nil)) els R))/\xM g qr w (((((((((((w9.setCell ⟨gb,k * 10+8,none⟩ (.slice (some ⟨g8,0,none⟩) (body.len+1) c9)).setCell ⟨g8,body.len * 10,none⟩ (.int .i64 5)).setCell ⟨g8,body.len * 10+1,none⟩ (.int .i64 1)).setCell ⟨g8,body.len * 10+2,none⟩ (.int .i64 0)).setCell ⟨g8,body.len * 10+3,none⟩ (.bool false)).setCell ⟨g8,body.len * 10+4,none⟩ (.int .i64 0)).setCell ⟨g8,body.len * 10+5,none⟩ (.int .i64 0)).setCell ⟨g8,body.len * 10+6,none⟩ (.slice none 0 0)).setCell ⟨g8,body.len * 10+7,none⟩ (.slice none 0 0)).setCell ⟨g8,body.len * 10+8,none⟩ (.slice none 0 0)).setCell ⟨g8,body.len * 10+9,none⟩ (.slice none 0 0)):=by
 have hlb:gb<w9.heap.size:=yw.lt;have D8:=cO yw (fun j u hu=>(World.cell?_of_block (a:=⟨gb,j,none⟩) Em).trans (hc j u hu)) (mid (d:=8) hpl (by rfl)) (.slice (some ⟨g8,0,none⟩) (body.len+1) c9);rw[fZ hpl (by simp[dV])] at D8;have C8:=Kk (v0:=.int .i64 5) (v1:=.int .i64 1) (v2:=.int .i64 0) (v3:=.bool false) (v4:=.int .i64 0) (v5:=.int .i64 0) (v6:=.slice none 0 0) (v7:=.slice none 0 0) (v8:=.slice none 0 0) (v9:=.slice none 0 0) (JU.far (p:=⟨gb,k * 10+8,none⟩) (Ne.symm yu) (.slice (some ⟨g8,0,none⟩) (body.len+1) c9)) qF (fun j u hu=>(World.cell?_of_block (a:=⟨g8,j,none⟩) (Below.heap_setCell w9 ⟨gb,k * 10+8,none⟩ (.slice (some ⟨g8,0,none⟩) (body.len+1) c9) g8 (Ne.symm yu))).trans (hc8 j u hu))
 have hS:∀x,x≠g8->(((((((((((w9.setCell ⟨gb,k * 10+8,none⟩ (.slice (some ⟨g8,0,none⟩) (body.len+1) c9)).setCell ⟨g8,body.len * 10,none⟩ (.int .i64 5)).setCell ⟨g8,body.len * 10+1,none⟩ (.int .i64 1)).setCell ⟨g8,body.len * 10+2,none⟩ (.int .i64 0)).setCell ⟨g8,body.len * 10+3,none⟩ (.bool false)).setCell ⟨g8,body.len * 10+4,none⟩ (.int .i64 0)).setCell ⟨g8,body.len * 10+5,none⟩ (.int .i64 0)).setCell ⟨g8,body.len * 10+6,none⟩ (.slice none 0 0)).setCell ⟨g8,body.len * 10+7,none⟩ (.slice none 0 0)).setCell ⟨g8,body.len * 10+8,none⟩ (.slice none 0 0)).setCell ⟨g8,body.len * 10+9,none⟩ (.slice none 0 0)).heap[x]? = (w9.setCell ⟨gb,k * 10+8,none⟩ (.slice (some ⟨g8,0,none⟩) (body.len+1) c9)).heap[x]?:=fun x hx=>by
  iterate 10 (refine(Below.heap_setCell _ _ _ x hx).trans ?_)
  exact rfl
 refine⟨WR (cF:=cF) (cA:=cA) (cE:=cE) (c9:=c9) s2 s3 s4 s5 s6 s8 (fun x h1 h2 h3 hl=>?_) e8 yu (fun j u hu=>?_) hgb ?_ (fun j u hu=>?_),?_⟩
 ·exact(hS x (NF x hl h3)).trans ((Below.heap_setCell _ _ _ x h2).trans (qR x hl h3))
 ·exact C8 j u hu
 ·simp only[World.size_setCell];exact hlb
 ·exact(World.cell?_of_block (a:=⟨gb,j,none⟩) (hS gb yu)).trans (D8 j u hu)
 ·iterate 11 (refine xM.ag ?_ (Or.inr (by simp only;omega)) _)
  exact F9
theorem Jq(g p:Nat)(w:World)(L:ay)(A:Option Addr)(c lo hi:Nat)(hR:dX w g p)(hp:p<=900000)(hV:bH w lo hi A L)(hL1:1<=L.len)(GJ:L.len+L.cost<=903) :
  Calls Tryz.prog 13 #[.pointer (some ⟨g,0,none⟩),.slice A L.len c] w fun e w'=>∃A' c' L',e=.returned (.slice A' L'.len c')/\bH w' w.heap.size w'.heap.size A' L'/\L'.len+L'.cost<=1000/\(∃q,q<=p+3/\xM g q w w')/\L'.len<=c'/\1<=L'.len:=by
 have hlt:=hR.lt;have hR0:=ax hR;replace hV:=ax hV;have hsm:=ax (ay.mZ (n:=1049600) (L:=L) (by omega));replace GJ:=ax GJ;clear hR;obtain⟨n,hn⟩:∃n,n=L.len:=⟨_,rfl⟩;rw[<-hn] at hL1⊢;have hn9:n<=903:=by have:=GJ.o;omega
 replace hn:=ax hn;(go_enter Tryz.func13,Tryz.ntmps13);(go_wp2_with fail);rw[hn.o];refine(LW (L.sz+1) L (by omega) A c _ lo hi hV.o (by have:=GJ.o;omega) hsm.o).mono ?_;rintro e w1 ⟨A1,c1,rfl,hC,hB1⟩;rw[<-hn.o] at hC⊢;replace hC:=ax hC;have z1:=hB1.size;have F1:=ax (Fr.uN (g:=g) hB1);have DV:=ax (hR0.o.bz hB1);clear hB1 hR0 hV;have hn0:((n:Int) == 0)=false:=by simp;omega
 (go_wp2_with fail);refine(iw g p n _ DV.o (by omega)).mono ?_;rintro e w2 ⟨k,rfl,hk,hR2,hF2⟩;have hkn:k<n:=by omega
 have hki:(k:Int)<(n:Int):=by omega
 have hC2:=ax (hC.o.fr hF2 hlt);have F2:=ax (F1.o.trans hF2);replace hR2:=ax hR2;clear hF2 hC DV F1 hk;(go_wp2_with fail);refine(iw g (p+1) 50 _ hR2.o (by omega)).mono ?_;rintro e w3 ⟨m,rfl,-,BB,lD⟩;have UC:=ax (hC2.o.fr lD hlt);have F3:=ax (show xM g (p+1+1) w w3 from⟨hlt,F2.o.trans lD,BB⟩);replace BB:=ax BB;clear lD hC2 hR2 F2;obtain⟨cs,ho,hT,-⟩:=UC.o;obtain⟨P,kd,a,b,t,i,body,els,R,AF,cF,AA,cA,AB,cB,AE,cE,pre,post,eL,eP,XP,s1,s2,s3,s4,s5,s6,Bp,s7,s8⟩:=hT.split (k:=k) (by rw[<-hn.o];exact hkn);rw[<-hn.o] at ho;have hcap:=ax (Kl ho);obtain⟨gb,cur,rfl,hgb,hkb,TV,hc⟩:=GK ho (by omega);rw[XP] at hc;have hpl:pre.length=k * 10:=by rw[s2.len,eP]
 have hlb:=hkb.lt;have XQ:=hkb.frozen;have y0:w3.cell? ⟨gb,k * 10+0,none⟩=some (.int .i64 kd):=hc _ _ (mid hpl (by rfl));have y1:w3.cell? ⟨gb,k * 10+1,none⟩=some (.int .i64 a):=hc _ _ (mid hpl (by rfl));have y2:w3.cell? ⟨gb,k * 10+2,none⟩=some (.int .i64 b):=hc _ _ (mid hpl (by rfl));have y3:w3.cell? ⟨gb,k * 10+3,none⟩=some (.bool t.eq):=hc _ _ (mid hpl (by rfl));have y4:w3.cell? ⟨gb,k * 10+4,none⟩=some (.int .i64 t.a):=hc _ _ (mid hpl (by rfl));have y5:w3.cell? ⟨gb,k * 10+5,none⟩=some (.int .i64 t.b):=hc _ _ (mid hpl (by rfl));have y6:w3.cell? ⟨gb,k * 10+6,none⟩=some (.slice AF i.facts.length cF):=hc _ _ (mid hpl (by rfl));have y7:w3.cell? ⟨gb,k * 10+7,none⟩=some (.slice AA i.atoms.length cA):=hc _ _ (mid hpl (by rfl));have y8:w3.cell? ⟨gb,k * 10+8,none⟩=some (.slice AB body.len cB):=hc _ _ (mid hpl (by rfl));have y9:w3.cell? ⟨gb,k * 10+9,none⟩=some (.slice AE els.len cE):=hc _ _ (mid hpl (by rfl));rw[Nat.add_zero] at y0;rw[TV] at s1 s2 s3 s4 s5 s6 s8;have hgg:g<gb:=by omega
 have Y2:=ax (s2.mono (Y:=fun x=>w.heap.size<=x/\x≠gb) fun x hx _=>⟨hx.1,fun e=>hx.2.1 (by rw[e])⟩);have Y3:=ax (s3.mono (Y:=fun x=>w.heap.size<=x/\x≠gb) fun x hx _=>⟨hx.1,fun e=>hx.2.1 (by rw[e])⟩);have Y4:=ax (s4.mono (Y:=fun x=>w.heap.size<=x/\x≠gb) fun x hx _=>⟨hx.1,fun e=>hx.2.1 (by rw[e])⟩);have Y5:=ax (s5.mono (Y:=fun x=>w.heap.size<=x/\x≠gb) fun x hx _=>⟨hx.1,fun e=>hx.2.1 (by rw[e])⟩);have Y6:=ax (s6.mono (Y:=fun x=>w.heap.size<=x/\x≠gb) fun x hx _=>⟨hx.1,fun e=>hx.2.1 (by rw[e])⟩);have Y8:=ax (Qv (Y:=fun x=>w.heap.size<=x/\x≠gb) s7 s8 (fun x hx=>⟨hx.1,fun e=>hx.2.1 (by rw[e])⟩) (fun x hx=>by have:=s1 x hx;exact⟨this.1,fun e=>this.2 (by rw[e])⟩))
 have Da:L.len=P.len+R.len+1/\L.cost=P.cost+(i.facts.length+i.atoms.length+(body.len+body.cost)+(els.len+els.cost)+R.cost):=by
  rw[eL,ay.bY,ay.fP];simp only[ay.len,ay.cost];exact⟨by omega,trivial⟩
 replace Da:=ax Da;replace eL:=ax eL;replace hc:=ax hc;replace hkb:=ax hkb;replace s1:=ax s1;replace s2:=ax s2;replace s3:=ax s3;replace s4:=ax s4;replace s5:=ax s5;replace s6:=ax s6;replace s7:=ax s7;replace s8:=ax s8;replace hT:=ax hT;replace ho:=ax ho;replace TV:=ax TV;replace XP:=ax XP;replace hpl:=ax hpl;replace eP:=ax eP;by_cases hm0:(m:Int)=0
 ·have b0:((m:Int) == 0)=true:=by simpa using hm0
  clear hm0;(go_wp2_with fail);refine(eU g (p+1+1) [0,8,1,6,7] _ _ _ _ (BB.o.bz aj) (by omega) (ae.new _ _ _) (by rfl) (by omega) (by rfl) (by simp) (by simp)).mono ?_;rintro e w4 ⟨x,-,rfl,BV,tu⟩;have hsame:∀x,x≠g->x<w3.heap.size->w4.heap[x]? = w3.heap[x]?:=fun x h1 h2=>(tu.block x (by simp;omega) h1).trans ((ai (Below.refl _ w3) _).block x h2);have z4:=tu.size;simp only[World.size_alloc] at z4;have hcell:∀j,w4.cell? ⟨gb,j,none⟩=w3.cell? ⟨gb,j,none⟩:=fun j=>World.cell?_of_block (a:=⟨gb,j,none⟩) (hsame gb (by omega) hlb);have G9:=(hkb.o.alloc (.cells (encI [0,8,1,6,7]).toArray tI)).fr tu;have C4:∀j u,(pre++((dV kd a b t (.slice AF i.facts.length cF) (.slice AA i.atoms.length cA) (.slice AB body.len cB) (.slice AE els.len cE))++post))[j]? = some u->w4.cell? ⟨gb,j,none⟩=some u:=fun j u hu=>(hcell j).trans (hc.o j u hu);replace C4:=ax C4;have F4:=ax ((F3.o.alloc (.cells (encI [0,8,1,6,7]).toArray tI)).pick tu BV);have WT:=G9.frozen;replace G9:=ax G9;rw[<-hcell] at y0 y1 y2 y3 y4 y5 y6 y7 y8 y9;replace hsame:=ax hsame;have WU:gb<w4.heap.size:=by omega
  clear tu hcell XQ;(go_wp2_with fail);have D0:=cO G9.o C4.o (mid (d:=0) hpl.o (by rfl)) (.int .i64 x);rw[fZ hpl.o (by simp[dV])] at D0;have hl':(P.app (.cons x a b t i body els R)).len=n:=by rw[hn.o,Da.o.1,ay.bY];simp only[ay.len];omega
  refine bodyPost_ret (v:=.slice (some ⟨gb,0,none⟩) n c1) (by simp[results,Tryz.results13,go_sem]) rfl ⟨_,c1,P.app (.cons x a b t i body els R),by rw[hl'],?_,?_,?_,by rw[hl'];exact hcap.o,by rw[hl'];exact hL1⟩
  ·exact pP Y2.o Y3.o Y4.o Y5.o Y8.o Y6.o (fun x h1 h2 hl=>(Below.heap_setCell _ _ _ x h2).trans ((hsame.o x (by omega) hl))) hgb (by simp;omega) D0
  ·have h1:=Da.o;have h2:=GJ.o;rw[ay.bY,ay.fP];simp only[ay.len,ay.cost];omega
  ·exact⟨_,by omega,(F4.o.ag (Or.inr (by simp only;omega)) _)⟩
 have b0:((m:Int) == 0)=false:=by simpa using hm0
 clear hm0;by_cases hm1:(m:Int)=1
 ·have b1:((m:Int) == 1)=true:=by simpa using hm1
  clear hm1;(go_wp2_with fail);refine(eU g (p+1+1) [0,5,9,(-1)] _ _ _ _ (BB.o.bz aj) (by omega) (ae.new _ _ _) (by rfl) (by omega) (by rfl) (by simp) (by simp)).mono ?_;rintro e w4 ⟨x,-,rfl,BV,tu⟩;have hsame:∀x,x≠g->x<w3.heap.size->w4.heap[x]? = w3.heap[x]?:=fun x h1 h2=>(tu.block x (by simp;omega) h1).trans ((ai (Below.refl _ w3) _).block x h2);have z4:=tu.size;simp only[World.size_alloc] at z4;have hcell:∀j,w4.cell? ⟨gb,j,none⟩=w3.cell? ⟨gb,j,none⟩:=fun j=>World.cell?_of_block (a:=⟨gb,j,none⟩) (hsame gb (by omega) hlb);have G9:=(hkb.o.alloc (.cells (encI [0,5,9,(-1)]).toArray tI)).fr tu;have C4:∀j u,(pre++((dV kd a b t (.slice AF i.facts.length cF) (.slice AA i.atoms.length cA) (.slice AB body.len cB) (.slice AE els.len cE))++post))[j]? = some u->w4.cell? ⟨gb,j,none⟩=some u:=fun j u hu=>(hcell j).trans (hc.o j u hu);replace C4:=ax C4;have F4:=ax ((F3.o.alloc (.cells (encI [0,5,9,(-1)]).toArray tI)).pick tu BV);have WT:=G9.frozen;replace G9:=ax G9;rw[<-hcell] at y0 y1 y2 y3 y4 y5 y6 y7 y8 y9;replace hsame:=ax hsame;have WU:gb<w4.heap.size:=by omega
  clear tu hcell XQ;(go_wp2_with fail);have D0:=cO G9.o C4.o (mid (d:=1) hpl.o (by rfl)) (.int .i64 x);rw[fZ hpl.o (by simp[dV])] at D0;have hl':(P.app (.cons kd x b t i body els R)).len=n:=by rw[hn.o,Da.o.1,ay.bY];simp only[ay.len];omega
  refine bodyPost_ret (v:=.slice (some ⟨gb,0,none⟩) n c1) (by simp[results,Tryz.results13,go_sem]) rfl ⟨_,c1,P.app (.cons kd x b t i body els R),by rw[hl'],?_,?_,?_,by rw[hl'];exact hcap.o,by rw[hl'];exact hL1⟩
  ·exact pP Y2.o Y3.o Y4.o Y5.o Y8.o Y6.o (fun x h1 h2 hl=>(Below.heap_setCell _ _ _ x h2).trans ((hsame.o x (by omega) hl))) hgb (by simp;omega) D0
  ·have h1:=Da.o;have h2:=GJ.o;rw[ay.bY,ay.fP];simp only[ay.len,ay.cost];omega
  ·exact⟨_,by omega,(F4.o.ag (Or.inr (by simp only;omega)) _)⟩
 have b1:((m:Int) == 1)=false:=by simpa using hm1
 clear hm1;by_cases hm2:(m:Int)=2
 ·have b2:((m:Int) == 2)=true:=by simpa using hm2
  clear hm2;(go_wp2_with fail);refine(eU g (p+1+1) [1,9] _ _ _ _ (BB.o.bz aj) (by omega) (ae.new _ _ _) (by rfl) (by omega) (by rfl) (by simp) (by simp)).mono ?_;rintro e w4 ⟨x,-,rfl,BV,tu⟩;have hsame:∀x,x≠g->x<w3.heap.size->w4.heap[x]? = w3.heap[x]?:=fun x h1 h2=>(tu.block x (by simp;omega) h1).trans ((ai (Below.refl _ w3) _).block x h2);have z4:=tu.size;simp only[World.size_alloc] at z4;have hcell:∀j,w4.cell? ⟨gb,j,none⟩=w3.cell? ⟨gb,j,none⟩:=fun j=>World.cell?_of_block (a:=⟨gb,j,none⟩) (hsame gb (by omega) hlb);have G9:=(hkb.o.alloc (.cells (encI [1,9]).toArray tI)).fr tu;have C4:∀j u,(pre++((dV kd a b t (.slice AF i.facts.length cF) (.slice AA i.atoms.length cA) (.slice AB body.len cB) (.slice AE els.len cE))++post))[j]? = some u->w4.cell? ⟨gb,j,none⟩=some u:=fun j u hu=>(hcell j).trans (hc.o j u hu);replace C4:=ax C4;have F4:=ax ((F3.o.alloc (.cells (encI [1,9]).toArray tI)).pick tu BV);have WT:=G9.frozen;replace G9:=ax G9;rw[<-hcell] at y0 y1 y2 y3 y4 y5 y6 y7 y8 y9;replace hsame:=ax hsame;have WU:gb<w4.heap.size:=by omega
  clear tu hcell XQ;(go_wp2_with fail);have D0:=cO G9.o C4.o (mid (d:=3) hpl.o (by rfl)) (.bool false);rw[fZ hpl.o (by simp[dV])] at D0;have D1:=cO (G9.o.ag (k * 10+3) (.bool false)) D0 (mid (d:=4) hpl.o (by rfl)) (.int .i64 x);rw[fZ hpl.o (by simp[dV])] at D1;have D2:=cO ((G9.o.ag (k * 10+3) (.bool false)).ag (k * 10+4) (.int .i64 x)) D1 (mid (d:=5) hpl.o (by rfl)) (.int .i64 2);rw[fZ hpl.o (by simp[dV])] at D2;have hl':(P.app (.cons kd a b ⟨false,x,2⟩ i body els R)).len=n:=by rw[hn.o,Da.o.1,ay.bY];simp only[ay.len];omega
  refine bodyPost_ret (v:=.slice (some ⟨gb,0,none⟩) n c1) (by simp[results,Tryz.results13,go_sem]) rfl ⟨_,c1,P.app (.cons kd a b ⟨false,x,2⟩ i body els R),by rw[hl'],?_,?_,?_,by rw[hl'];exact hcap.o,by rw[hl'];exact hL1⟩
  ·exact pP Y2.o Y3.o Y4.o Y5.o Y8.o Y6.o (fun x h1 h2 hl=>(Below.heap_setCell _ _ _ x h2).trans ((Below.heap_setCell _ _ _ x h2).trans ((Below.heap_setCell _ _ _ x h2).trans ((hsame.o x (by omega) hl))))) hgb (by simp;omega) D2
  ·have h1:=Da.o;have h2:=GJ.o;rw[ay.bY,ay.fP];simp only[ay.len,ay.cost];omega
  ·exact⟨_,by omega,(((F4.o.ag (Or.inr (by simp only;omega)) _).ag (Or.inr (by simp only;omega)) _).ag (Or.inr (by simp only;omega)) _)⟩
 have b2:((m:Int) == 2)=false:=by simpa using hm2
 clear hm2;by_cases XR:(m:Int)=3
 ·have b3:((m:Int) == 3)=true:=by simpa using XR
  clear XR y0 y1 y2 y3 y4 y5 y6 y7 y8 y9 XQ s1 s2 s3 s4 s5 s6 s7 s8 Y2 Y3 Y4 Y5 Y6 Y8 hkb hc eL Da XP hpl eP hT ho TV;have hN:=ax UC.o.n;clear UC;(go_wp2_with fail)
  go_loopg [5] 17 (fun gh q5 wr=>∃(A5:Option Addr) (c5:Nat) (M:ay),q5=.slice A5 M.len c5/\17<=gh+M.len/\(M.len<=17\/M.len=n)/\aJ (M.cost=L.cost)/\aJ (dB wr w.heap.size (.slice A5 M.len c5) M)/\aJ (xM g (p+1+1) w wr))
  case atStart=>exact⟨_,c1,L,by rw[<-hn.o],by omega,Or.inr hn.o.symm,ax rfl,by rw[<-hn.o];exact hN.o,F3.o⟩
  case round=>
   clear hN F3 hlb;obtain⟨A5,c5,M,rfl,hgm,hM,Rm,hN,hF⟩:=hrel;obtain⟨wo,rfl⟩:∃x,x=wr:=⟨_,rfl⟩;have hsz:=hF.o.2.1.size;by_cases hle:M.len<=16
   ·have Mt:(M.len:Int)<=16:=by omega
    obtain⟨cs,ho,hT,-⟩:=hN.o;replace hT:=ax hT;replace ho:=ax ho;(go_wp2_with (at_builtin;go_loud (refine xL (base:=w.heap.size) (g0:=wo.heap.size) rfl _ _ rfl rfl (own_below ho.o (ai aU _)) (dV 4 1 0 ⟨false,0,0⟩ (.slice none 0 0) (.slice none 0 0) (.slice none 0 0) (.slice none 0 0)) rfl (ae.new _ _ _) rfl rfl (qz _ _ _ _ _ _ _ _ _ _ _ _ _ _ _ _) (by omega) (by simp;omega) ?_);(intro A9 c9 w9 o9 g9 B9 v9;have o9:=ax o9;have g9:=ax g9;have v9:=ax v9;have B9:=ax B9)));have hl:(M.app (.cons 4 1 0 ⟨false,0,0⟩ ⟨[],[]⟩ .nil .nil .nil)).len=M.len+1:=by rw[ay.bY];rfl
    have hc:(M.app (.cons 4 1 0 ⟨false,0,0⟩ ⟨[],[]⟩ .nil .nil .nil)).cost=M.cost:=by rw[ay.fP];simp[ay.cost,ay.len]
    have N9:dB w9 w.heap.size (.slice A9 (M.len+1) c9) (M.app (.cons 4 1 0 ⟨false,0,0⟩ ⟨[],[]⟩ .nil .nil .nil)):=
     dB.grow (w:=wo.alloc (.cells ((dV 4 1 0 ⟨false,0,0⟩ (.slice none 0 0) (.slice none 0 0) (.slice none 0 0) (.slice none 0 0))).toArray tC)) (v:=.slice A5 M.len c5) (AF:=none) (AA:=none) (AB:=none) (AE:=none) (cF:=0) (cA:=0) (cB:=0) (cE:=0) (hT.o.keep fun x _ hx=>(ai (Below.refl _ wo) _).block x hx) (by omega) (my.none ..) (my.none ..) (bu.nil _) (bu.nil _) o9.o g9.o v9.o
    have F9:xM g (p+1+1) w w9:=(hF.o.alloc _).Er B9.o bn
    go_roundg (gk - 1)
    case rel=>exact⟨A9,c9,_,by rw[hl],by rw[hl];omega,Or.inl (by rw[hl];omega),ax (hc.trans Rm.o),by rw[hl];exact N9,F9⟩
    case measure=>omega
   ·have Mt:¬(M.len:Int)<=16:=by omega
    (go_wp2_with fail);have hcM:aJ (M.len<=c5):=ax (by obtain⟨cs,ho,-,-⟩:=hN.o;exact Kl ho);obtain⟨A',c',e,hV⟩:=hN.o.rj;injection e with e1 e2 e3;subst e1;refine bodyPost_ret (v:=.slice A5 M.len c5) (by simp[results,Tryz.results13,go_sem]) rfl ⟨_,c5,M,rfl,hV,?_,⟨_,by omega,hF.o⟩,hcM.o,by omega⟩;have h1:=Rm.o;have h2:=GJ.o;have h3:=hn.o;omega
 have b3:((m:Int) == 3)=false:=by simpa using XR
 clear XR;by_cases Pk:(m:Int)=4
 ·have b4:((m:Int) == 4)=true:=by simpa using Pk
  clear Pk;have hkd:=hkb.o.drew;have hbl:body.len<=903:=by have:=Da.o;have:=GJ.o;omega
  have TJ:(w3.drew.alloc (.cells ((dV 0 0 0 ⟨false,0,0⟩ (.slice none 0 0) (.slice none 0 0) (.slice none 0 0) (.slice none 0 0))).toArray tC)).ownsRow w.heap.size tC 10 (.slice AB body.len cB) body.len Bp:=vW s7.o fun x hx hl=>(ai (Below.refl _ w3.drew) _).block x hl;have kept:∀x,x<w3.heap.size->(w3.drew.alloc (.cells ((dV 0 0 0 ⟨false,0,0⟩ (.slice none 0 0) (.slice none 0 0) (.slice none 0 0) (.slice none 0 0))).toArray tC)).heap[x]? = w3.heap[x]?:=fun x hl=>(ai (Below.refl _ w3.drew) _).block x hl;replace TJ:=ax TJ;replace kept:=ax kept;go_wp2;refine lS (S:=(fun _=>True)) (trivial) fun aH=>?_;refine jQ 0 1 2 3 5 ?_;refine wB 4 7 rfl rfl (fun K hK=>?_) fun K hK=>?_;(try simp only[zz]);(go_simp);refine hK.out _ _ (trivial) ?_;clear aH hK K;intro aH;(try simp only[zz]);refine wB 6 7 rfl rfl (fun K hK=>?_) fun K hK=>?_;(try simp only[zz]);(go_simp);refine hK.out _ _ (trivial) ?_;clear aH hK K;intro aH;refine aX 7 rfl fun K hK=>?_;(try simp only[zz]);(go_simp);refine hK.out _ _ (trivial) ?_;clear aH hK K;intro aH;(try simp only[zz])
  rotate_left
  (try simp only[zz]);(go_simp);refine hK.out _ _ (trivial) ?_;clear aH hK K;intro aH;refine aX 6 rfl fun K hK=>?_;(try simp only[zz]);(go_simp);refine hK.out _ _ (trivial) ?_;clear aH hK K;intro aH;(try simp only[zz])
  rotate_left
  (try simp only[zz]);(go_simp);refine hK.out _ _ (trivial) ?_;clear aH hK K;intro aH;refine aX 4 rfl fun K hK=>?_;(try simp only[zz]);(go_simp);refine hK.out _ _ (trivial) ?_;clear aH hK K;intro aH;refine aX 6 rfl fun K hK=>?_;(try simp only[zz]);(go_simp);refine hK.out _ _ (trivial) ?_;clear aH hK K;intro aH;(try simp only[zz])
  all_goals
   refine aX 8 rfl fun K hK=>?_;refine TI (base:=w.heap.size) (g0:=w3.heap.size) rfl _ _ rfl rfl TJ.o (dV 0 0 0 ⟨false,0,0⟩ (.slice none 0 0) (.slice none 0 0) (.slice none 0 0) (.slice none 0 0)) rfl (ae.new w3.drew tC _) rfl rfl (qz _ _ _ _ _ _ _ _ _ _ _ _ _ _ _ _) (by omega) (by simp;omega) ?_;intro A9 c9 w9 o9 g9 B9 v9;obtain⟨g8,Qw,rfl,e8,JU,LX,hc8⟩:=GK o9 (by omega);have hgn:(Value.slice AB body.len cB).ownBlock≠some gb:=fun e=>(s1.o gb e).2 rfl;have qR:∀x,x<w3.heap.size->(Value.slice AB body.len cB).ownBlock≠some x->w9.heap[x]? = w3.heap[x]?:=fun x h1 h2=>(g9.block x (by simp;omega) (fun e=>h2 e.symm)).trans (kept.o x h1);have y89:w9.cell? ⟨gb,k * 10+8,none⟩=some (.slice AB body.len cB):=(World.cell?_of_block (a:=⟨gb,k * 10+8,none⟩) (qR gb hlb hgn)).trans y8;have yw:ae w9 gb tC cur:=(qR gb hlb hgn).trans hkb.o;have fr9:=yw.frozen;have fr8:=JU.frozen;have qF:Bp.length=body.len * 10:=s8.o.len;have yu:gb≠g8:=fun e=>v9.elim (fun h=>hgn (Eq.trans (show (Value.slice AB body.len cB).ownBlock=(Value.slice (some ⟨g8,0,none⟩) (body.len+1) c9).ownBlock from h.symm) (LX.trans (by rw[e])))) (fun h=>by rw[LX] at h;injection h with h;simp at h;omega);have qX:∀j u,(Bp++([.int .i64 0,.int .i64 0,.int .i64 0,.bool false,.int .i64 0,.int .i64 0,.slice none 0 0,.slice none 0 0,.slice none 0 0,.slice none 0 0]++[]))[j]? = some u->w9.cell? ⟨g8,j,none⟩=some u:=fun j u hu=>hc8 j u (by rw[append_nil] at hu;exact hu);have zz0:w9.cell? ⟨g8,body.len * 10,none⟩=some (.int .i64 0):=qX _ _ (mid (d:=0) qF (by rfl));have zz1:w9.cell? ⟨g8,body.len * 10+1,none⟩=some (.int .i64 0):=qX _ _ (mid (d:=1) qF (by rfl));have zz2:w9.cell? ⟨g8,body.len * 10+2,none⟩=some (.int .i64 0):=qX _ _ (mid (d:=2) qF (by rfl));have zz3:w9.cell? ⟨g8,body.len * 10+3,none⟩=some (.bool false):=qX _ _ (mid (d:=3) qF (by rfl));have zz4:w9.cell? ⟨g8,body.len * 10+4,none⟩=some (.int .i64 0):=qX _ _ (mid (d:=4) qF (by rfl));have zz5:w9.cell? ⟨g8,body.len * 10+5,none⟩=some (.int .i64 0):=qX _ _ (mid (d:=5) qF (by rfl));have zz6:w9.cell? ⟨g8,body.len * 10+6,none⟩=some (.slice none 0 0):=qX _ _ (mid (d:=6) qF (by rfl));have zz7:w9.cell? ⟨g8,body.len * 10+7,none⟩=some (.slice none 0 0):=qX _ _ (mid (d:=7) qF (by rfl));have zz8:w9.cell? ⟨g8,body.len * 10+8,none⟩=some (.slice none 0 0):=qX _ _ (mid (d:=8) qF (by rfl));have zz9:w9.cell? ⟨g8,body.len * 10+9,none⟩=some (.slice none 0 0):=qX _ _ (mid (d:=9) qF (by rfl));have hb1:(body.len:Int)<(body.len:Int)+1:=by omega
   have NF:∀x,x<w3.heap.size->(Value.slice AB body.len cB).ownBlock≠some x->x≠g8:=fun x h1 h2 e=>v9.elim (fun h=>h2 (Eq.trans (show (Value.slice AB body.len cB).ownBlock=(Value.slice (some ⟨g8,0,none⟩) (body.len+1) c9).ownBlock from h.symm) (LX.trans (by rw[e])))) (fun h=>by rw[LX] at h;injection h with h;simp at h;omega);have F9:xM g (p+1+1) w w9:=((F3.o.drew).alloc _).Er B9 bn;have Em:w9.heap[gb]? = w3.heap[gb]?:=qR gb hlb hgn;have z9:=B9.size;simp at z9;replace NF:=ax NF;replace F9:=ax F9;replace Em:=ax Em;replace qR:=ax qR;replace qX:=ax qX;replace JU:=ax JU;replace yw:=ax yw;replace g9:=ax g9;replace B9:=ax B9;replace v9:=ax v9;replace o9:=ax o9;replace qF:=ax qF;replace LX:=ax LX;clear hc8 hgn;refine hK.out _ _ trivial ?_;clear aH hK K;intro aH;refine uM 11 12 ?_;refine wB 9 13 rfl rfl (fun K hK=>?_) fun K hK=>?_;(try simp only[zz]);(go_simp);refine hK.out _ _ (trivial) ?_;clear aH hK K;intro aH;(try simp only[zz]);refine wB 10 13 rfl rfl (fun K hK=>?_) fun K hK=>?_;(try simp only[zz]);(go_simp);refine hK.out _ _ (trivial) ?_;clear aH hK K;intro aH;refine aX 13 rfl fun K hK=>?_;(try simp only[zz]);(go_simp);refine hK.out _ _ (trivial) ?_;clear aH hK K;intro aH;(try simp only[zz])
   rotate_left
   (try simp only[zz]);(go_simp);refine hK.out _ _ (trivial) ?_;clear aH hK K;intro aH;refine aX 10 rfl fun K hK=>?_;(try simp only[zz]);(go_simp);refine hK.out _ _ (trivial) ?_;clear aH hK K;intro aH;(try simp only[zz])
   rotate_left
   (try simp only[zz]);(go_simp);refine hK.out _ _ (trivial) ?_;clear aH hK K;intro aH;refine aX 9 rfl fun K hK=>?_;(try simp only[zz]);(go_simp);refine hK.out _ _ (trivial) ?_;clear aH hK K;intro aH;refine aX 10 rfl fun K hK=>?_;(try simp only[zz]);(go_simp);refine hK.out _ _ (trivial) ?_;clear aH hK K;intro aH;(try simp only[zz])
   all_goals
    refine jP ?_;have hl':(P.app (.cons kd a b t i (body.app (.cons 5 1 0 ⟨false,0,0⟩ ⟨[],[]⟩ .nil .nil .nil)) els R)).len=n:=by rw[hn.o,Da.o.1,ay.bY];simp only[ay.len];omega
    replace hl':=ax hl'
   ·have hT:=Rl (c9:=c9) (cF:=cF) (cA:=cA) (cE:=cE) s2.o s3.o s4.o s5.o s6.o s8.o NF.o qR.o e8 yu JU.o qF.o qX.o yw.o Em.o hc.o hpl.o hgb F9.o;replace hT:=ax hT;go_wp2;refine bodyPost_ret (v:=.slice (some ⟨gb,0,none⟩) n c1) (by simp[results,Tryz.results13,go_sem]) rfl ⟨_,c1,P.app (.cons kd a b t i (body.app (.cons 5 1 0 ⟨false,0,0⟩ ⟨[],[]⟩ .nil .nil .nil)) els R),by rw[hl'.o],hT.o.1,?_,⟨_,by omega,hT.o.2⟩,by rw[hl'.o];exact hcap.o,by rw[hl'.o];exact hL1⟩;have h1:=Da.o;have h2:=GJ.o;rw[ay.bY,ay.fP];simp only[ay.len,ay.cost,ay.bY,ay.fP];simp;omega
   ·have hT:=WS (c9:=c9) (cF:=cF) (cA:=cA) (cE:=cE) s2.o s3.o s4.o s5.o s6.o s8.o NF.o qR.o e8 yu JU.o qF.o qX.o yw.o Em.o hc.o hpl.o hgb F9.o;replace hT:=ax hT;go_wp2;refine bodyPost_ret (v:=.slice (some ⟨gb,0,none⟩) n c1) (by simp[results,Tryz.results13,go_sem]) rfl ⟨_,c1,P.app (.cons kd a b t i (body.app (.cons 5 1 0 ⟨false,0,0⟩ ⟨[],[]⟩ .nil .nil .nil)) els R),by rw[hl'.o],hT.o.1,?_,⟨_,by omega,hT.o.2⟩,by rw[hl'.o];exact hcap.o,by rw[hl'.o];exact hL1⟩;have h1:=Da.o;have h2:=GJ.o;rw[ay.bY,ay.fP];simp only[ay.len,ay.cost,ay.bY,ay.fP];simp;omega
   ·have hT:=Rl (c9:=c9) (cF:=cF) (cA:=cA) (cE:=cE) s2.o s3.o s4.o s5.o s6.o s8.o NF.o qR.o e8 yu JU.o qF.o qX.o yw.o Em.o hc.o hpl.o hgb F9.o;replace hT:=ax hT;go_wp2;refine bodyPost_ret (v:=.slice (some ⟨gb,0,none⟩) n c1) (by simp[results,Tryz.results13,go_sem]) rfl ⟨_,c1,P.app (.cons kd a b t i (body.app (.cons 5 1 0 ⟨false,0,0⟩ ⟨[],[]⟩ .nil .nil .nil)) els R),by rw[hl'.o],hT.o.1,?_,⟨_,by omega,hT.o.2⟩,by rw[hl'.o];exact hcap.o,by rw[hl'.o];exact hL1⟩;have h1:=Da.o;have h2:=GJ.o;rw[ay.bY,ay.fP];simp only[ay.len,ay.cost,ay.bY,ay.fP];simp;omega
 have b4:((m:Int) == 4)=false:=by simpa using Pk
 clear Pk;go_wp2;refine bodyPost_ret (v:=.slice (some ⟨gb,0,none⟩) n c1) (by simp[results,Tryz.results13,go_sem]) rfl ⟨_,c1,L,by rw[<-hn.o],?_,?_,⟨_,by omega,F3.o⟩,by rw[<-hn.o];exact hcap.o,by rw[<-hn.o];exact hL1⟩
 ·rw[eL.o];exact pP Y2.o Y3.o Y4.o Y5.o Y8.o Y6.o (fun _ _ _ _=>rfl) hgb hlb hc.o
 ·have:=GJ.o;omega
theorem Bj{lo:Nat}(L:ay)(A:Option Addr)(c:Nat)(w:World)(h:tN w lo w.heap.size A L):Calls Tryz.prog 8 #[.slice A L.len c] w fun e w'=>∃r,e=.returned r/\aD w' w.heap.size r (eO L)/\Below w.heap.size w w':=
 tO L A c w h.1 (Nat.le_refl _) h.len h.small
end
end Go.Proofs.YtjbboklnegfohaaGreat
