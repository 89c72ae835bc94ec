/- Contracts: commands from lines (spec.l8Block), the walk. -/
import Derived.Test.YtjbboklnegfohaaGreatDoorMPrgB
import Derived.Test.YtjbboklnegfohaaGreatDoorMPrgM
import Derived.Test.YtjbboklnegfohaaGreatDoorMCmdV
import Derived.Test.YtjbboklnegfohaaGreatDoorCmdI
import Derived.Test.YtjbboklnegfohaaGreatDoorMPsM
import Derived.Test.YtjbboklnegfohaaGreatDoorMRange
set_option linter.unusedSimpArgs false
set_option linter.unusedVariables false
namespace Go.Proofs.YtjbboklnegfohaaGreatDoor
open Go Go.RowKit Go.Proofs
theorem getD_at {ls:List Bs} {p:Nat} (h:p<ls.length):ls.getD p []=ls[p]:=by simp[List.getD,List.getElem?_eq_getElem h]
def BlkOk (d:Nat):Prop:=∀ (lo hi:Nat) (A:Option Addr) (c:Nat) (ls:List Bs) (p n:Nat) (w:World),StrsV w lo hi A ls→(∀ x∈ls,x.length≤1000000)→ls.length≤1049000→p≤ls.length→ls.length≤n+p→
  Calls Tryz.prog 24 #[.slice A ls.length c,.int .i64 p,.int .i64 d] w fun e w'=>∃ v,e=.returned (.tuple #[v,.int .i64 (atI (blkF ls n p d).2)])∧CmsN w' w.heap.size v (blkF ls n p d).1∧Below w.heap.size w w'
set_option maxRecDepth 100000 in
set_option maxHeartbeats 12800000 in
theorem l8Block_zero:BlkOk 0:=by
  intro lo hi A c ls p n w hV hS hL hp hn
  have HV:=Lib.hid hV
  have HS:=Lib.hid hS
  obtain ⟨R,hR⟩:∃ R,R=blkF ls n p (0):=⟨_,rfl⟩
  have hst:Hid (blkSt ls (0) R .nil (some p)):=Lib.hid (by rw[hR];exact blkSt.start n hn)
  rw[←hR]
  clear hV hS hn hR
  go_enter Tryz.func24,Tryz.ntmps24
  have hN0:=CmsN.empty w (Nat.le_refl _)
  go_wp2_with fail
  go_loopg [1,8] (ls.length+12) (fun gh s1 s8 wr=>∃ (acc:Cms) (nx:Option Nat),s1=.int .i64 (atI nx)∧Hid (CmsN wr w.heap.size s8 acc)∧Hid (blkSt ls (0) R acc nx)∧acc.len≤ls.length+0∧Hid (∀ q,nx=some q→acc.len≤q∧q≤ls.length+0∧ls.length+12≤gh+q)∧Hid (Below w.heap.size w wr))
  case atStart=>exact ⟨.nil,some p,rfl,Lib.hid hN0,hst,by simp[Cms.len],Lib.hid (fun q e=>by injection e with e;subst e;simp[Cms.len];omega),Lib.hid (bbox (Below.refl _ _) _)⟩
  case round=>
   clear hN0 hst
   obtain ⟨acc,nx,rfl,hN,hst,hal,hnx,HB⟩:=hrel
   have hz:=HB.out.size
   obtain ⟨A5,c5,rfl,-⟩:=hN.out.reads
   have hOL:=Lib.hid hN.out.own_lt
   cases nx with
   | none=>
    have hE:=Lib.hid hst.out
    have hf:Hid (R.2=none):=Lib.hid hE.out.2
    have ha:Hid (acc=R.1):=Lib.hid hE.out.1
    have hm1:atI none = -1:=rfl
    rw[hm1]
    clear hE hst hnx
    go_wp2_with fail
    refine bodyPost_ret (v:=.tuple #[.slice A5 acc.len c5,.int .i64 (-1)]) (by simp[results,Tryz.results24,go_sem]) rfl ⟨_,by rw[hf.out];rfl,by rw[←ha.out];exact hN.out,HB.out⟩
   | some q=>
    obtain ⟨hq1,hq2,hq3⟩:=hnx.out q rfl
    have hqi:atI (some q)=(q:Int):=rfl
    rw[hqi]
    clear hnx
    have hq0:(0:Int)≤(q:Int):=by omega
    have hSt:=Lib.hid (fun hc=>hst.out.stop hc)
    by_cases hlt:q+1<ls.length
    ·have hlti:(q:Int)+1<(ls.length:Int):=by omega
     obtain ⟨b,o,rfl,hc⟩:=(HV.out.below HB.out).at (show q<ls.length by omega)
     have hbl:=block_lt_of_cell hc
     have hgd:=getD_at (ls:=ls) (p:=q) (by omega)
     have hxl:(ls[q]'(by omega)).length≤1000000:=HS.out _ (List.getElem_mem _)
     have hOn:=Lib.hid (hst.out.on (by omega))
     obtain ⟨x,hxx⟩:∃ x,x=ls[q]'(by omega):=⟨_,rfl⟩
     rw[←hxx] at hc hgd hxl
     rw[hgd] at hSt
     clear hxx
     by_cases he1:x=endL
     ·subst he1
      have hE:=Lib.hid (hSt.out (fun h=>h.2.1 rfl))
      have hf:Hid (R.2=some q):=Lib.hid hE.out.2
      have ha:Hid (acc=R.1):=Lib.hid hE.out.1
      clear hE hSt hOn hst
      go_wp2_with fail
      refine bodyPost_ret (v:=.tuple #[.slice A5 acc.len c5,.int .i64 q]) (by simp[results,Tryz.results24,go_sem]) rfl ⟨_,by rw[hf.out];rfl,by rw[←ha.out];exact hN.out,HB.out⟩
     have he1b:(x == [101,110,100])=false:=by rw[bytes_eq];simpa using he1
     by_cases he2:x=elseL
     ·subst he2
      have hE:=Lib.hid (hSt.out (fun h=>h.2.2 rfl))
      have hf:Hid (R.2=some q):=Lib.hid hE.out.2
      have ha:Hid (acc=R.1):=Lib.hid hE.out.1
      clear hE hSt hOn hst
      go_wp2_with fail
      refine bodyPost_ret (v:=.tuple #[.slice A5 acc.len c5,.int .i64 q]) (by simp[results,Tryz.results24,go_sem]) rfl ⟨_,by rw[hf.out];rfl,by rw[←ha.out];exact hN.out,HB.out⟩
     have he2b:(x == [101,108,115,101])=false:=by rw[bytes_eq];simpa using he2
     have hcc:=Lib.hid (show q+1<ls.length∧ls.getD q []≠endL∧ls.getD q []≠elseL from ⟨hlt,by rw[hgd];exact he1,by rw[hgd];exact he2⟩)
     obtain ⟨m,hm,hF1,hF2⟩:=hOn.out
     replace hF1:=Lib.hid hF1
     replace hF2:=Lib.hid hF2
     clear he1 he2 hOn hst hSt
     go_wp2_with fail
     refine (c_l8Head x _ hxl).mono ?_
     rintro e w1 ⟨fv,av,rfl,of,oa,hB1⟩
     obtain ⟨⟨k,ha,hb,⟨te,ta,tb⟩,i⟩,hH⟩:∃ h,h=headF x:=⟨_,rfl⟩
     rw[←hH] at of oa ⊢
     replace hH:=Lib.hid (show headF (ls.getD q [])=⟨k,ha,hb,⟨te,ta,tb⟩,i⟩ by rw[hgd];exact hH.symm)
     unfold headV
     simp only at of oa ⊢
     obtain ⟨AF,cF,rfl,vF⟩:=of.reads
     obtain ⟨AA,cA,rfl,vA⟩:=oa.reads
     have zr:=hB1.size
     have HB1:=Lib.hid (bgo HB.out hB1)
     have hcb:w1.heap.size≠b:=by have h9:b<wr.heap.size:=hbl;omega
     have HX0:=Lib.hid (show ∀ y,wr.heap.size≤y→y<w1.heap.size→(w.heap.size≤y∧(Value.slice A5 acc.len c5).ownBlock≠some y∧y≠w1.heap.size) from fun y h1 h2=>⟨by omega,fun e=>by have:=hOL.out y e;omega,by omega⟩)
     have HXN:=Lib.hid (show ∀ y,w1.heap.size+1≤y→(w.heap.size≤y∧(Value.slice A5 acc.len c5).ownBlock≠some y∧y≠w1.heap.size) from fun y h1=>⟨by omega,fun e=>by have:=hOL.out y e;omega,by omega⟩)
     have XF:=Lib.hid (Rw.x vF.raw HX0.out)
     have XA:=Lib.hid (Rw.x vA.raw HX0.out)
     have HN1:=Lib.hid (hN.out.below hB1)
     have k0:Blk (w1.alloc (.cells #[.int .i64 k,.int .i64 ha,.int .i64 hb,.bool te,.int .i64 ta,.int .i64 tb,.slice AF i.facts.length cF,.slice AA i.atoms.length cA,.slice none 0 0,.slice none 0 0] tC)) w1.heap.size tC #[.int .i64 k,.int .i64 ha,.int .i64 hb,.bool te,.int .i64 ta,.int .i64 tb,.slice AF i.facts.length cF,.slice AA i.atoms.length cA,.slice none 0 0,.slice none 0 0]:=Blk.new _ _ _
     have hBw:Hid (Below w1.heap.size w1 (w1.alloc (.cells #[.int .i64 k,.int .i64 ha,.int .i64 hb,.bool te,.int .i64 ta,.int .i64 tb,.slice AF i.facts.length cF,.slice AA i.atoms.length cA,.slice none 0 0,.slice none 0 0] tC))):=Lib.hid (bbox (Below.refl _ _) _)
     have hq1i:=Lib.hid (show (q:Int)+1=((q+1:Nat):Int) by omega)
     clear of oa vF vA hB1 hc hN hbl HB
     by_cases hk:k=6∨k=7
     ·have hz0:=Lib.hid (blk_zero (m:=m) (d:=0) hcc.out (by rw[hH.out];exact hk) (by omega))
      have hR1:Hid (R.2=none):=Lib.hid (by rw[←hF2.out,hz0.out])
      have hR2:Hid (acc=R.1):=Lib.hid (by rw[←hF1.out,hz0.out];exact (app_nil acc).symm)
      have HB2:Hid (Below w.heap.size w (w1.alloc (.cells #[.int .i64 k,.int .i64 ha,.int .i64 hb,.bool te,.int .i64 ta,.int .i64 tb,.slice AF i.facts.length cF,.slice AA i.atoms.length cA,.slice none 0 0,.slice none 0 0] tC))):=Lib.hid (HB1.out.trans (hBw.out.mono (by omega)))
      have HN2:=Lib.hid (HN1.out.below hBw.out)
      clear hz0 hH hF1 hF2
      rcases hk with rfl|rfl
      all_goals
       (replace qk0:=k0.cell;replace rk0:=k0.frozen;replace lk0:=k0.lt)
       go_wp2_with fail
       refine bodyPost_ret (v:=.tuple #[.slice A5 acc.len c5,.int .i64 (-1)]) (by simp[results,Tryz.results24,go_sem]) rfl ⟨_,by rw[hR1.out];rfl,by rw[←hR2.out];exact HN2.out,HB2.out⟩
     ·have hk6:(k == 6)=false:=by simp;omega
      have hk7:(k == 7)=false:=by simp;omega
      have hzb:=Lib.hid (blk_basic (m:=m) (d:=0) hcc.out (by rw[hH.out];exact hk))
      have hstx:Hid (blkSt ls 0 R (acc.app (.cons k ha hb ⟨te,ta,tb⟩ i .nil .nil .nil)) (some (q+1))):=Lib.hid (blkSt.mk (H:=⟨k,ha,hb,⟨te,ta,tb⟩,i⟩) hm hF1.out hF2.out (Nat.le_refl _) (by rw[hzb.out,hH.out]))
      clear hzb hF1 hF2 hk
      (replace qk0:=k0.cell;replace rk0:=k0.frozen;replace lk0:=k0.lt)
      go_upto_region 17 with fail
      clear qk0 rk0 lk0
      rw[hq1i.out]
      generalize w1.alloc (.cells #[.int .i64 k,.int .i64 ha,.int .i64 hb,.bool te,.int .i64 ta,.int .i64 tb,.slice AF i.facts.length cF,.slice AA i.atoms.length cA,.slice none 0 0,.slice none 0 0] tC)=wx at *
      have hBx:=hBw
      have kx:=k0
      obtain ⟨nx,hnxe⟩:∃ nx,nx=some (q+1):=⟨_,rfl⟩
      have hati:((q+1:Nat):Int)=atI nx:=by rw[hnxe];rfl
      rw[hati]
      rw[←hnxe] at hstx
      have hnx:Hid (∀ r,nx=some r→q+1≤r∧r≤ls.length+0):=Lib.hid (fun r e=>by rw[hnxe] at e;injection e with e;subst e;omega)
      obtain ⟨AB,cB,AE,cE,hAB⟩:∃ (AB:Option Addr) (cB:Nat) (AE:Option Addr) (cE:Nat),AB=none∧cB=0∧AE=none∧cE=0:=⟨_,_,_,_,rfl,rfl,rfl,rfl⟩
      obtain ⟨body,hbody⟩:∃ body,body=Cms.nil:=⟨_,rfl⟩
      obtain ⟨els,hels⟩:∃ body,body=Cms.nil:=⟨_,rfl⟩
      have h3:Hid (PartX wx (fun y=>w.heap.size≤y∧(Value.slice A5 acc.len c5).ownBlock≠some y∧y≠w1.heap.size) AB body):=Lib.hid (by rw[hbody];exact PartX.nil _)
      have h4:Hid (PartX wx (fun y=>w.heap.size≤y∧(Value.slice A5 acc.len c5).ownBlock≠some y∧y≠w1.heap.size) AE els):=Lib.hid (by rw[hels];exact PartX.nil _)
      have hkx:Blk wx w1.heap.size tC #[.int .i64 k,.int .i64 ha,.int .i64 hb,.bool te,.int .i64 ta,.int .i64 tb,.slice AF i.facts.length cF,.slice AA i.atoms.length cA,.slice AB body.len cB,.slice AE els.len cE]:=by rw[hAB.1,hAB.2.1,hAB.2.2.1,hAB.2.2.2,hbody,hels];exact kx
      replace kx:=hkx
      replace hstx:Hid (blkSt ls 0 R (acc.app (.cons k ha hb ⟨te,ta,tb⟩ i body els .nil)) nx):=Lib.hid (by rw[hbody,hels];exact hstx.out)
      clear hAB hbody hels hkx hnxe hati k0 hBw hk6 hk7
      have hT0:=HN1.out.below hBx.out
      obtain ⟨cs,ho9,hT9,-⟩:=hT0
      replace hT9:=Lib.hid hT9
      replace ho9:=Lib.hid ho9
      have hl9:w.heap.size≤wx.heap.size:=by have:=hBx.out.size;omega
      have XF9:=Lib.hid (XF.out.keep (w':=wx) fun y _ hy=>hBx.out.block y hy)
      have XA9:=Lib.hid (XA.out.keep (w':=wx) fun y _ hy=>hBx.out.block y hy)
      clear XF XA HN1
      have hfin:acc.len+1≤1049600∧w.heap.size≤w1.heap.size:=by omega
      have hacc:acc.len+1≤ls.length+0:=by omega
      obtain ⟨hfin,hw1⟩:=hfin
      have hq3:=Lib.hid (show 1≤gk∧ls.length+12≤gk+q by omega)
      replace hacc:=Lib.hid hacc
      replace hq1:=Lib.hid hq1
      replace hw1:=Lib.hid hw1
      have qkx:=kx.cell
      have rkx:=kx.frozen
      have lkx:=kx.lt
      replace kx:=Lib.hid kx
      clear hqi hgd he1b he2b hcc hm hxl hq0 hlti hlt hal hq2 hH hcb hz zr
      go_wp2_with (at_builtin;(refine appCX (base:=w.heap.size) (g0:=wx.heap.size) rfl _ _ rfl rfl (own_below ho9.out (bbox (Below.refl _ _) _)) (tenL k ha hb ⟨te,ta,tb⟩ (.slice AF i.facts.length cF) (.slice AA i.atoms.length cA) (.slice AB body.len cB) (.slice AE els.len cE)) rfl (Blk.new _ _ _) rfl rfl (tenOne _ _ _ _ _ _ _ _ _ _ _ _ _ _ _ _) hfin (by simp;omega) ?_);(intro A8 c8 w8 o8 g8 B8 v8;have o8:=Lib.hid o8;have g8:=Lib.hid g8;have v8:=Lib.hid v8;have B8:=Lib.hid B8))
      have kX:∀ y,y<wx.heap.size→(wx.alloc (.cells (tenL k ha hb ⟨te,ta,tb⟩ (.slice AF i.facts.length cF) (.slice AA i.atoms.length cA) (.slice AB body.len cB) (.slice AE els.len cE)).toArray tC)).heap[y]? = wx.heap[y]?:=fun y hy=>(bbox (Below.refl _ wx) _).block y hy
      have N8:CmsN w8 w.heap.size (.slice A8 (acc.len+1) c8) (acc.app (.cons k ha hb ⟨te,ta,tb⟩ i body els .nil)):=CmsN.grow (hT9.out.keep fun y _ hy=>kX y hy) hfin ((XF9.out.mono fun y hy _=>⟨hy.1,hy.2.1⟩).keep fun y _ hy=>kX y hy) ((XA9.out.mono fun y hy _=>⟨hy.1,hy.2.1⟩).keep fun y _ hy=>kX y hy) ((h3.out.mono fun y hy _=>⟨hy.1,hy.2.1⟩).keep fun y _ hy=>kX y hy) ((h4.out.mono fun y hy _=>⟨hy.1,hy.2.1⟩).keep fun y _ hy=>kX y hy) o8.out g8.out v8.out
      have F8:Below w.heap.size w w8:=((HB1.out.trans (hBx.out.mono hw1.out)).alloc hl9 _).trans B8.out
      have hLl:(acc.app (.cons k ha hb ⟨te,ta,tb⟩ i body els .nil)).len=acc.len+1:=by rw[Cms.len_app];rfl
      go_roundg (gk - 1)
      case rel=>exact ⟨acc.app (.cons k ha hb ⟨te,ta,tb⟩ i body els .nil),nx,rfl,Lib.hid N8,hstx,by rw[hLl];exact hacc.out,Lib.hid (fun r e=>by have:=hnx.out r e;have:=hq1.out;have:=hq3.out;rw[hLl];omega),Lib.hid F8⟩
      case measure=>have:=hq3.out;omega
    ·have hlti:¬(q:Int)+1<(ls.length:Int):=by omega
     have hE:=Lib.hid (hSt.out (fun h=>hlt h.1))
     have hf:Hid (R.2=some q):=Lib.hid hE.out.2
     have ha:Hid (acc=R.1):=Lib.hid hE.out.1
     clear hE hSt hst
     go_wp2_with fail
     refine bodyPost_ret (v:=.tuple #[.slice A5 acc.len c5,.int .i64 q]) (by simp[results,Tryz.results24,go_sem]) rfl ⟨_,by rw[hf.out];rfl,by rw[←ha.out];exact hN.out,HB.out⟩
end Go.Proofs.YtjbboklnegfohaaGreatDoor

/- Contracts: commands from lines (spec.l8Block), the step. -/
namespace Go.Proofs.YtjbboklnegfohaaGreatDoor
open Go Go.RowKit Go.Proofs
set_option maxRecDepth 100000 in
set_option maxHeartbeats 12800000 in
theorem l8Block_succ (d:Nat) (hd:d≤9) (IH:BlkOk d):BlkOk (d+1):=by
  intro lo hi A c ls p n w hV hS hL hp hn
  replace IH:=Lib.hid (fun lo hi A c p n w hV=>IH lo hi A c ls p n w hV hS hL)
  have HV:=Lib.hid hV
  have HS:=Lib.hid hS
  obtain ⟨R,hR⟩:∃ R,R=blkF ls n p (d+1):=⟨_,rfl⟩
  have hst:Hid (blkSt ls (d+1) R .nil (some p)):=Lib.hid (by rw[hR];exact blkSt.start n hn)
  rw[←hR]
  clear hV hS hn hR
  go_enter Tryz.func24,Tryz.ntmps24
  have hN0:=CmsN.empty w (Nat.le_refl _)
  go_wp2_with fail
  go_loopg [1,8] (ls.length+12) (fun gh s1 s8 wr=>∃ (acc:Cms) (nx:Option Nat),s1=.int .i64 (atI nx)∧Hid (CmsN wr w.heap.size s8 acc)∧Hid (blkSt ls (d+1) R acc nx)∧acc.len≤ls.length+d+1∧Hid (∀ q,nx=some q→acc.len≤q∧q≤ls.length+d+1∧ls.length+12≤gh+q)∧Hid (Below w.heap.size w wr))
  case atStart=>exact ⟨.nil,some p,rfl,Lib.hid hN0,hst,by simp[Cms.len],Lib.hid (fun q e=>by injection e with e;subst e;simp[Cms.len];omega),Lib.hid (bbox (Below.refl _ _) _)⟩
  case round=>
   clear hN0 hst
   obtain ⟨acc,nx,rfl,hN,hst,hal,hnx,HB⟩:=hrel
   have hz:=HB.out.size
   obtain ⟨A5,c5,rfl,-⟩:=hN.out.reads
   have hOL:=Lib.hid hN.out.own_lt
   cases nx with
   | none=>
    have hE:=Lib.hid hst.out
    have hf:Hid (R.2=none):=Lib.hid hE.out.2
    have ha:Hid (acc=R.1):=Lib.hid hE.out.1
    have hm1:atI none = -1:=rfl
    rw[hm1]
    clear hE hst hnx
    go_wp2_with fail
    refine bodyPost_ret (v:=.tuple #[.slice A5 acc.len c5,.int .i64 (-1)]) (by simp[results,Tryz.results24,go_sem]) rfl ⟨_,by rw[hf.out];rfl,by rw[←ha.out];exact hN.out,HB.out⟩
   | some q=>
    obtain ⟨hq1,hq2,hq3⟩:=hnx.out q rfl
    have hqi:atI (some q)=(q:Int):=rfl
    rw[hqi]
    clear hnx
    have hq0:(0:Int)≤(q:Int):=by omega
    have hSt:=Lib.hid (fun hc=>hst.out.stop hc)
    by_cases hlt:q+1<ls.length
    ·have hlti:(q:Int)+1<(ls.length:Int):=by omega
     obtain ⟨b,o,rfl,hc⟩:=(HV.out.below HB.out).at (show q<ls.length by omega)
     have hbl:=block_lt_of_cell hc
     have hgd:=getD_at (ls:=ls) (p:=q) (by omega)
     have hxl:(ls[q]'(by omega)).length≤1000000:=HS.out _ (List.getElem_mem _)
     have hOn:=Lib.hid (hst.out.on (by omega))
     obtain ⟨x,hxx⟩:∃ x,x=ls[q]'(by omega):=⟨_,rfl⟩
     rw[←hxx] at hc hgd hxl
     rw[hgd] at hSt
     clear hxx
     by_cases he1:x=endL
     ·subst he1
      have hE:=Lib.hid (hSt.out (fun h=>h.2.1 rfl))
      have hf:Hid (R.2=some q):=Lib.hid hE.out.2
      have ha:Hid (acc=R.1):=Lib.hid hE.out.1
      clear hE hSt hOn hst
      go_wp2_with fail
      refine bodyPost_ret (v:=.tuple #[.slice A5 acc.len c5,.int .i64 q]) (by simp[results,Tryz.results24,go_sem]) rfl ⟨_,by rw[hf.out];rfl,by rw[←ha.out];exact hN.out,HB.out⟩
     have he1b:(x == [101,110,100])=false:=by rw[bytes_eq];simpa using he1
     by_cases he2:x=elseL
     ·subst he2
      have hE:=Lib.hid (hSt.out (fun h=>h.2.2 rfl))
      have hf:Hid (R.2=some q):=Lib.hid hE.out.2
      have ha:Hid (acc=R.1):=Lib.hid hE.out.1
      clear hE hSt hOn hst
      go_wp2_with fail
      refine bodyPost_ret (v:=.tuple #[.slice A5 acc.len c5,.int .i64 q]) (by simp[results,Tryz.results24,go_sem]) rfl ⟨_,by rw[hf.out];rfl,by rw[←ha.out];exact hN.out,HB.out⟩
     have he2b:(x == [101,108,115,101])=false:=by rw[bytes_eq];simpa using he2
     have hcc:=Lib.hid (show q+1<ls.length∧ls.getD q []≠endL∧ls.getD q []≠elseL from ⟨hlt,by rw[hgd];exact he1,by rw[hgd];exact he2⟩)
     obtain ⟨m,hm,hF1,hF2⟩:=hOn.out
     replace hF1:=Lib.hid hF1
     replace hF2:=Lib.hid hF2
     clear he1 he2 hOn hst hSt
     go_wp2_with fail
     refine (c_l8Head x _ hxl).mono ?_
     rintro e w1 ⟨fv,av,rfl,of,oa,hB1⟩
     obtain ⟨⟨k,ha,hb,⟨te,ta,tb⟩,i⟩,hH⟩:∃ h,h=headF x:=⟨_,rfl⟩
     rw[←hH] at of oa ⊢
     replace hH:=Lib.hid (show headF (ls.getD q [])=⟨k,ha,hb,⟨te,ta,tb⟩,i⟩ by rw[hgd];exact hH.symm)
     unfold headV
     simp only at of oa ⊢
     obtain ⟨AF,cF,rfl,vF⟩:=of.reads
     obtain ⟨AA,cA,rfl,vA⟩:=oa.reads
     have zr:=hB1.size
     have HB1:=Lib.hid (bgo HB.out hB1)
     have hcb:w1.heap.size≠b:=by have h9:b<wr.heap.size:=hbl;omega
     have HX0:=Lib.hid (show ∀ y,wr.heap.size≤y→y<w1.heap.size→(w.heap.size≤y∧(Value.slice A5 acc.len c5).ownBlock≠some y∧y≠w1.heap.size) from fun y h1 h2=>⟨by omega,fun e=>by have:=hOL.out y e;omega,by omega⟩)
     have HXN:=Lib.hid (show ∀ y,w1.heap.size+1≤y→(w.heap.size≤y∧(Value.slice A5 acc.len c5).ownBlock≠some y∧y≠w1.heap.size) from fun y h1=>⟨by omega,fun e=>by have:=hOL.out y e;omega,by omega⟩)
     have XF:=Lib.hid (Rw.x vF.raw HX0.out)
     have XA:=Lib.hid (Rw.x vA.raw HX0.out)
     have HN1:=Lib.hid (hN.out.below hB1)
     have k0:Blk (w1.alloc (.cells #[.int .i64 k,.int .i64 ha,.int .i64 hb,.bool te,.int .i64 ta,.int .i64 tb,.slice AF i.facts.length cF,.slice AA i.atoms.length cA,.slice none 0 0,.slice none 0 0] tC)) w1.heap.size tC #[.int .i64 k,.int .i64 ha,.int .i64 hb,.bool te,.int .i64 ta,.int .i64 tb,.slice AF i.facts.length cF,.slice AA i.atoms.length cA,.slice none 0 0,.slice none 0 0]:=Blk.new _ _ _
     have hBw:Hid (Below w1.heap.size w1 (w1.alloc (.cells #[.int .i64 k,.int .i64 ha,.int .i64 hb,.bool te,.int .i64 ta,.int .i64 tb,.slice AF i.facts.length cF,.slice AA i.atoms.length cA,.slice none 0 0,.slice none 0 0] tC))):=Lib.hid (bbox (Below.refl _ _) _)
     have hq1i:=Lib.hid (show (q:Int)+1=((q+1:Nat):Int) by omega)
     clear of oa vF vA hB1 hc hN hbl HB
     have hd1:((d+1:Nat):Int) - 1=(d:Int):=by omega
     have hdn:¬(((d+1:Nat):Int)<1):=by omega
     by_cases hk:k=6∨k=7
     ·have hk':(headF (ls.getD q [])).k=6∨(headF (ls.getD q [])).k=7:=by rw[hH.out];exact hk
      have Hno:=Lib.hid (fun r h1 h2=>blk_noelse (q:=r) (m:=m) (d:=d+1) hcc.out hk' (by omega) h1 h2)
      have Hn:=Lib.hid (fun h1=>blk_none (m:=m) (d:=d+1) hcc.out hk' (by omega) h1)
      have He0:=Lib.hid (fun r h1 h2 h3=>blk_else0 (q:=r) (m:=m) (d:=d+1) hcc.out hk' (by omega) h1 h2 h3)
      have He:=Lib.hid (fun r r' h1 h2 h3=>blk_else (q:=r) (r:=r') (m:=m) (d:=d+1) hcc.out hk' (by omega) h1 h2 h3)
      rw[Nat.add_sub_cancel] at Hno Hn He0 He
      rw[hH.out] at Hno Hn He0 He
      have hle1:=Lib.hid (fun r=>blkF_le ls m (q+1) d (m:=r))
      have Ib:=Lib.hid (fun W hW=>IH.out lo hi (some ⟨b,o,none⟩) c (q+1) m W hW (by omega) (by omega))
      obtain ⟨⟨body,nb⟩,hB⟩:∃ B,B=blkF ls m (q+1) d:=⟨_,rfl⟩
      rw[←hB] at Hno Hn He0 He hle1 Ib
      simp only at Hno Hn He0 He hle1 Ib
      clear hB hk'
      have HW0:=Lib.hid (hBw.out)
      rcases hk with hk|hk
      ·have t6:(k == 6)=true:=by simp[hk]
       clear hk
       (replace qk0:=k0.cell;replace rk0:=k0.frozen;replace lk0:=k0.lt)
       go_upto_if 52 with fail
       go_cut [1] (fun s1 wc=>∃ (body els:Cms) (nx:Option Nat) (AB:Option Addr) (cB:Nat) (AE:Option Addr) (cE:Nat),s1=.int .i64 (atI nx)∧Hid (blkSt ls (d+1) R (acc.app (.cons k ha hb ⟨te,ta,tb⟩ i body els .nil)) nx)∧Hid (∀ r,nx=some r→q+1≤r∧r≤ls.length+(d+1))∧
        Blk wc w1.heap.size tC #[.int .i64 k,.int .i64 ha,.int .i64 hb,.bool te,.int .i64 ta,.int .i64 tb,.slice AF i.facts.length cF,.slice AA i.atoms.length cA,.slice AB body.len cB,.slice AE els.len cE]∧
        Hid (PartX wc (fun y=>w.heap.size≤y∧(Value.slice A5 acc.len c5).ownBlock≠some y∧y≠w1.heap.size) AB body)∧Hid (PartX wc (fun y=>w.heap.size≤y∧(Value.slice A5 acc.len c5).ownBlock≠some y∧y≠w1.heap.size) AE els)∧Hid (Below w1.heap.size w1 wc))
       case first=>
        go_wp2_with fail
        refine (Ib.out _ ((HV.out.below HB1.out).below hBw.out)).mono ?_
        rintro e w2 ⟨v2,rfl,N2,hB2⟩
        obtain ⟨AB,cB,rfl,-⟩:=N2.reads
        have z2:=hB2.size
        simp only[World.size_alloc] at z2
        have k2:=k0.next hB2
        have HW2:=Lib.hid (bgo hBw.out hB2)
        have P2:=Lib.hid (N2.part.mono (Y:=fun y=>w.heap.size≤y∧(Value.slice A5 acc.len c5).ownBlock≠some y∧y≠w1.heap.size) fun y hy _=>HXN.out y (by simpa using hy))
        have k3:=k2.set_ 8 (.slice AB body.len cB)
        simp only[List.setIfInBounds_toArray,List.set_cons_zero,List.set_cons_succ] at k3
        have P3:=Lib.hid (P2.out.keep (w':=w2.setCell ⟨w1.heap.size,8,none⟩ (.slice AB body.len cB)) fun y hy _=>Below.heap_setCell w2 ⟨w1.heap.size,8,none⟩ (.slice AB body.len cB) y hy.2.2)
        have HW3:Hid (Below w1.heap.size w1 (w2.setCell ⟨w1.heap.size,8,none⟩ (.slice AB body.len cB))):=Lib.hid (HW2.out.setCell (Nat.le_refl _) _)
        replace k3:=Lib.hid k3
        clear N2 hB2 qk0 rk0 lk0 P2
        (replace qk2:=k2.cell;replace rk2:=k2.frozen;replace lk2:=k2.lt)
        cases nb with
        | none=>
         have hm1:atI none = -1:=rfl
         rw[hm1]
         have hst2:=Lib.hid (blkSt.mk0 (ls:=ls) (d:=d+1) hF1.out hF2.out (Hn.out rfl))
         clear Hno Hn He0 He hF1 hF2 Ib
         go_wp2_with fail
         go_meet
         case rel=>exact ⟨body,.nil,none,AB,cB,none,0,rfl,hst2,Lib.hid (fun r e=>by cases e),k3.out,P3.out,Lib.hid (PartX.nil _),HW3.out⟩
        | some r=>
         have hr:=hle1.out r rfl
         have hri:atI (some r)=(r:Int):=rfl
         rw[hri]
         have hr0:(0:Int)≤(r:Int):=by omega
         have hr1:=Lib.hid (show (r:Int)+1=((r+1:Nat):Int) by omega)
         by_cases hrl:r<ls.length
         ·have hrli:(r:Int)<(ls.length:Int):=by omega
          have hgr:=getD_at (ls:=ls) (p:=r) hrl
          obtain ⟨b',o',e',hcr⟩:=((HV.out.below HB1.out).below HW2.out).at hrl
          injection e' with e'
          injection e' with e1 e2
          subst e1 e2
          obtain ⟨y,hyy⟩:∃ y,y=ls[r]:=⟨_,rfl⟩
          rw[←hyy] at hgr hcr
          clear hyy
          by_cases hy:y=elseL
          ·subst hy
           have Ie:=Lib.hid (fun W hW=>IH.out lo hi (some ⟨b,o,none⟩) c (r+1) m W hW (by omega) (by omega))
           have hle2:=Lib.hid (fun r'=>blkF_le ls m (r+1) d (m:=r'))
           have He0':=Lib.hid (fun h3=>He0.out r rfl ⟨hrl,hgr⟩ h3)
           have He':=Lib.hid (fun r' h3=>He.out r r' rfl ⟨hrl,hgr⟩ h3)
           obtain ⟨⟨els,ne⟩,hE⟩:∃ B,B=blkF ls m (r+1) d:=⟨_,rfl⟩
           rw[←hE] at Ie hle2 He0' He'
           simp only at Ie hle2 He0' He'
           clear hE Hno Hn He0 He Ib
           go_wp2_with fail
           refine (Ie.out _ ((HV.out.below HB1.out).below HW3.out)).mono ?_
           rintro e w4 ⟨v4,rfl,N4,hB4⟩
           obtain ⟨AE,cE,rfl,-⟩:=N4.reads
           have z4:=hB4.size
           simp only[World.size_setCell] at z4
           have k4:=k3.out.next hB4
           have HW4:=Lib.hid (bgo HW3.out hB4)
           have P4:=Lib.hid (N4.part.mono (Y:=fun y=>w.heap.size≤y∧(Value.slice A5 acc.len c5).ownBlock≠some y∧y≠w1.heap.size) fun y hy _=>HXN.out y (by have h1:=hy;simp only[World.size_setCell] at h1;omega))
           have Q4:=Lib.hid (P3.out.keep (w':=w4) fun y _ hy=>hB4.block y hy)
           have k5:=k4.set_ 9 (.slice AE els.len cE)
           simp only[List.setIfInBounds_toArray,List.set_cons_zero,List.set_cons_succ] at k5
           have P5:=Lib.hid (P4.out.keep (w':=w4.setCell ⟨w1.heap.size,9,none⟩ (.slice AE els.len cE)) fun y hy _=>Below.heap_setCell w4 ⟨w1.heap.size,9,none⟩ (.slice AE els.len cE) y hy.2.2)
           have Q5:=Lib.hid (Q4.out.keep (w':=w4.setCell ⟨w1.heap.size,9,none⟩ (.slice AE els.len cE)) fun y hy _=>Below.heap_setCell w4 ⟨w1.heap.size,9,none⟩ (.slice AE els.len cE) y hy.2.2)
           have HW5:Hid (Below w1.heap.size w1 (w4.setCell ⟨w1.heap.size,9,none⟩ (.slice AE els.len cE))):=Lib.hid (HW4.out.setCell (Nat.le_refl _) _)
           replace k5:=Lib.hid k5
           clear N4 hB4 qk2 rk2 lk2 P4 Q4 P3 k3 HW3
           (replace qk4:=k4.cell;replace rk4:=k4.frozen;replace lk4:=k4.lt)
           cases ne with
           | none=>
            have hm1:atI none = -1:=rfl
            rw[hm1]
            have hst2:=Lib.hid (blkSt.mk0 (ls:=ls) (d:=d+1) hF1.out hF2.out (He0'.out rfl))
            clear He0' He' hF1 hF2
            go_wp2_with fail
            go_meet
            case rel=>exact ⟨body,els,none,AB,cB,AE,cE,rfl,hst2,Lib.hid (fun r e=>by cases e),k5.out,Q5.out,P5.out,HW5.out⟩
           | some s=>
            have hs:=hle2.out s rfl
            have hsi:atI (some s)=(s:Int):=rfl
            rw[hsi]
            have hs0:(0:Int)≤(s:Int):=by omega
            have hs1:=Lib.hid (show (s:Int)+1=((s+1:Nat):Int) by omega)
            have hst2:=Lib.hid (blkSt.mk (ls:=ls) (d:=d+1) (q:=s+1) hm hF1.out hF2.out (by omega) (He'.out s rfl))
            clear He0' He' hF1 hF2
            go_wp2_with fail
            go_meet
            case rel=>exact ⟨body,els,some (s+1),AB,cB,AE,cE,by rw[hs1.out];rfl,hst2,Lib.hid (fun r e=>by injection e with e;subst e;omega),k5.out,Q5.out,P5.out,HW5.out⟩
          ·have hyb:(y == [101,108,115,101])=false:=by rw[bytes_eq];simpa using hy
           have hst2:=Lib.hid (blkSt.mk (ls:=ls) (d:=d+1) (q:=r+1) hm hF1.out hF2.out (by omega) (Hno.out r rfl (fun h=>hy (by rw[←hgr];exact h.2))))
           clear Hno Hn He0 He hF1 hF2 Ib hy
           go_wp2_with fail
           go_meet
           case rel=>exact ⟨body,.nil,some (r+1),AB,cB,none,0,by rw[hr1.out];rfl,hst2,Lib.hid (fun r e=>by injection e with e;subst e;omega),k3.out,P3.out,Lib.hid (PartX.nil _),HW3.out⟩
         ·have hrli:¬(r:Int)<(ls.length:Int):=by omega
          have hst2:=Lib.hid (blkSt.mk (ls:=ls) (d:=d+1) (q:=r+1) hm hF1.out hF2.out (by omega) (Hno.out r rfl (fun h=>hrl h.1)))
          clear Hno Hn He0 He hF1 hF2 Ib
          go_wp2_with fail
          go_meet
          case rel=>exact ⟨body,.nil,some (r+1),AB,cB,none,0,by rw[hr1.out];rfl,hst2,Lib.hid (fun r e=>by injection e with e;subst e;omega),k3.out,P3.out,Lib.hid (PartX.nil _),HW3.out⟩
       case rest=>
        obtain ⟨body,els,nx,AB,cB,AE,cE,rfl,hstx,hnx,kx,h3,h4,hBx⟩:=hcut
        obtain ⟨wx,rfl⟩:∃ z,z=wc:=⟨_,rfl⟩
        clear k0 hBw qk0 rk0 lk0 Hno Hn He0 He Ib hF1 hF2 hle1 HW0
        have hT0:=HN1.out.below hBx.out
        obtain ⟨cs,ho9,hT9,-⟩:=hT0
        replace hT9:=Lib.hid hT9
        replace ho9:=Lib.hid ho9
        have hl9:w.heap.size≤wx.heap.size:=by have:=hBx.out.size;omega
        have XF9:=Lib.hid (XF.out.keep (w':=wx) fun y _ hy=>hBx.out.block y hy)
        have XA9:=Lib.hid (XA.out.keep (w':=wx) fun y _ hy=>hBx.out.block y hy)
        clear XF XA HN1
        have hfin:acc.len+1≤1049600∧w.heap.size≤w1.heap.size:=by omega
        have hacc:acc.len+1≤ls.length+(d+1):=by omega
        obtain ⟨hfin,hw1⟩:=hfin
        have hq3:=Lib.hid (show 1≤gk∧ls.length+12≤gk+q by omega)
        replace hacc:=Lib.hid hacc
        replace hq1:=Lib.hid hq1
        replace hw1:=Lib.hid hw1
        have qkx:=kx.cell
        have rkx:=kx.frozen
        have lkx:=kx.lt
        replace kx:=Lib.hid kx
        clear hqi hgd he1b he2b hcc hm hxl hq0 hlti hlt hal hq2 hH hcb hz zr
        go_wp2_with (at_builtin;(refine appCX (base:=w.heap.size) (g0:=wx.heap.size) rfl _ _ rfl rfl (own_below ho9.out (bbox (Below.refl _ _) _)) (tenL k ha hb ⟨te,ta,tb⟩ (.slice AF i.facts.length cF) (.slice AA i.atoms.length cA) (.slice AB body.len cB) (.slice AE els.len cE)) rfl (Blk.new _ _ _) rfl rfl (tenOne _ _ _ _ _ _ _ _ _ _ _ _ _ _ _ _) hfin (by simp;omega) ?_);(intro A8 c8 w8 o8 g8 B8 v8;have o8:=Lib.hid o8;have g8:=Lib.hid g8;have v8:=Lib.hid v8;have B8:=Lib.hid B8))
        have kX:∀ y,y<wx.heap.size→(wx.alloc (.cells (tenL k ha hb ⟨te,ta,tb⟩ (.slice AF i.facts.length cF) (.slice AA i.atoms.length cA) (.slice AB body.len cB) (.slice AE els.len cE)).toArray tC)).heap[y]? = wx.heap[y]?:=fun y hy=>(bbox (Below.refl _ wx) _).block y hy
        have N8:CmsN w8 w.heap.size (.slice A8 (acc.len+1) c8) (acc.app (.cons k ha hb ⟨te,ta,tb⟩ i body els .nil)):=CmsN.grow (hT9.out.keep fun y _ hy=>kX y hy) hfin ((XF9.out.mono fun y hy _=>⟨hy.1,hy.2.1⟩).keep fun y _ hy=>kX y hy) ((XA9.out.mono fun y hy _=>⟨hy.1,hy.2.1⟩).keep fun y _ hy=>kX y hy) ((h3.out.mono fun y hy _=>⟨hy.1,hy.2.1⟩).keep fun y _ hy=>kX y hy) ((h4.out.mono fun y hy _=>⟨hy.1,hy.2.1⟩).keep fun y _ hy=>kX y hy) o8.out g8.out v8.out
        have F8:Below w.heap.size w w8:=((HB1.out.trans (hBx.out.mono hw1.out)).alloc hl9 _).trans B8.out
        have hLl:(acc.app (.cons k ha hb ⟨te,ta,tb⟩ i body els .nil)).len=acc.len+1:=by rw[Cms.len_app];rfl
        go_roundg (gk - 1)
        case rel=>exact ⟨acc.app (.cons k ha hb ⟨te,ta,tb⟩ i body els .nil),nx,rfl,Lib.hid N8,hstx,by rw[hLl];exact hacc.out,Lib.hid (fun r e=>by have:=hnx.out r e;have:=hq1.out;have:=hq3.out;rw[hLl];omega),Lib.hid F8⟩
        case measure=>have:=hq3.out;omega
      ·have t6:(k == 6)=false:=by simp[hk]
       have t7:(k == 7)=true:=by simp[hk]
       clear hk
       (replace qk0:=k0.cell;replace rk0:=k0.frozen;replace lk0:=k0.lt)
       go_upto_if 52 with fail
       go_cut [1] (fun s1 wc=>∃ (body els:Cms) (nx:Option Nat) (AB:Option Addr) (cB:Nat) (AE:Option Addr) (cE:Nat),s1=.int .i64 (atI nx)∧Hid (blkSt ls (d+1) R (acc.app (.cons k ha hb ⟨te,ta,tb⟩ i body els .nil)) nx)∧Hid (∀ r,nx=some r→q+1≤r∧r≤ls.length+(d+1))∧
        Blk wc w1.heap.size tC #[.int .i64 k,.int .i64 ha,.int .i64 hb,.bool te,.int .i64 ta,.int .i64 tb,.slice AF i.facts.length cF,.slice AA i.atoms.length cA,.slice AB body.len cB,.slice AE els.len cE]∧
        Hid (PartX wc (fun y=>w.heap.size≤y∧(Value.slice A5 acc.len c5).ownBlock≠some y∧y≠w1.heap.size) AB body)∧Hid (PartX wc (fun y=>w.heap.size≤y∧(Value.slice A5 acc.len c5).ownBlock≠some y∧y≠w1.heap.size) AE els)∧Hid (Below w1.heap.size w1 wc))
       case first=>
        go_wp2_with fail
        refine (Ib.out _ ((HV.out.below HB1.out).below hBw.out)).mono ?_
        rintro e w2 ⟨v2,rfl,N2,hB2⟩
        obtain ⟨AB,cB,rfl,-⟩:=N2.reads
        have z2:=hB2.size
        simp only[World.size_alloc] at z2
        have k2:=k0.next hB2
        have HW2:=Lib.hid (bgo hBw.out hB2)
        have P2:=Lib.hid (N2.part.mono (Y:=fun y=>w.heap.size≤y∧(Value.slice A5 acc.len c5).ownBlock≠some y∧y≠w1.heap.size) fun y hy _=>HXN.out y (by simpa using hy))
        have k3:=k2.set_ 8 (.slice AB body.len cB)
        simp only[List.setIfInBounds_toArray,List.set_cons_zero,List.set_cons_succ] at k3
        have P3:=Lib.hid (P2.out.keep (w':=w2.setCell ⟨w1.heap.size,8,none⟩ (.slice AB body.len cB)) fun y hy _=>Below.heap_setCell w2 ⟨w1.heap.size,8,none⟩ (.slice AB body.len cB) y hy.2.2)
        have HW3:Hid (Below w1.heap.size w1 (w2.setCell ⟨w1.heap.size,8,none⟩ (.slice AB body.len cB))):=Lib.hid (HW2.out.setCell (Nat.le_refl _) _)
        replace k3:=Lib.hid k3
        clear N2 hB2 qk0 rk0 lk0 P2
        (replace qk2:=k2.cell;replace rk2:=k2.frozen;replace lk2:=k2.lt)
        cases nb with
        | none=>
         have hm1:atI none = -1:=rfl
         rw[hm1]
         have hst2:=Lib.hid (blkSt.mk0 (ls:=ls) (d:=d+1) hF1.out hF2.out (Hn.out rfl))
         clear Hno Hn He0 He hF1 hF2 Ib
         go_wp2_with fail
         go_meet
         case rel=>exact ⟨body,.nil,none,AB,cB,none,0,rfl,hst2,Lib.hid (fun r e=>by cases e),k3.out,P3.out,Lib.hid (PartX.nil _),HW3.out⟩
        | some r=>
         have hr:=hle1.out r rfl
         have hri:atI (some r)=(r:Int):=rfl
         rw[hri]
         have hr0:(0:Int)≤(r:Int):=by omega
         have hr1:=Lib.hid (show (r:Int)+1=((r+1:Nat):Int) by omega)
         by_cases hrl:r<ls.length
         ·have hrli:(r:Int)<(ls.length:Int):=by omega
          have hgr:=getD_at (ls:=ls) (p:=r) hrl
          obtain ⟨b',o',e',hcr⟩:=((HV.out.below HB1.out).below HW2.out).at hrl
          injection e' with e'
          injection e' with e1 e2
          subst e1 e2
          obtain ⟨y,hyy⟩:∃ y,y=ls[r]:=⟨_,rfl⟩
          rw[←hyy] at hgr hcr
          clear hyy
          by_cases hy:y=elseL
          ·subst hy
           have Ie:=Lib.hid (fun W hW=>IH.out lo hi (some ⟨b,o,none⟩) c (r+1) m W hW (by omega) (by omega))
           have hle2:=Lib.hid (fun r'=>blkF_le ls m (r+1) d (m:=r'))
           have He0':=Lib.hid (fun h3=>He0.out r rfl ⟨hrl,hgr⟩ h3)
           have He':=Lib.hid (fun r' h3=>He.out r r' rfl ⟨hrl,hgr⟩ h3)
           obtain ⟨⟨els,ne⟩,hE⟩:∃ B,B=blkF ls m (r+1) d:=⟨_,rfl⟩
           rw[←hE] at Ie hle2 He0' He'
           simp only at Ie hle2 He0' He'
           clear hE Hno Hn He0 He Ib
           go_wp2_with fail
           refine (Ie.out _ ((HV.out.below HB1.out).below HW3.out)).mono ?_
           rintro e w4 ⟨v4,rfl,N4,hB4⟩
           obtain ⟨AE,cE,rfl,-⟩:=N4.reads
           have z4:=hB4.size
           simp only[World.size_setCell] at z4
           have k4:=k3.out.next hB4
           have HW4:=Lib.hid (bgo HW3.out hB4)
           have P4:=Lib.hid (N4.part.mono (Y:=fun y=>w.heap.size≤y∧(Value.slice A5 acc.len c5).ownBlock≠some y∧y≠w1.heap.size) fun y hy _=>HXN.out y (by have h1:=hy;simp only[World.size_setCell] at h1;omega))
           have Q4:=Lib.hid (P3.out.keep (w':=w4) fun y _ hy=>hB4.block y hy)
           have k5:=k4.set_ 9 (.slice AE els.len cE)
           simp only[List.setIfInBounds_toArray,List.set_cons_zero,List.set_cons_succ] at k5
           have P5:=Lib.hid (P4.out.keep (w':=w4.setCell ⟨w1.heap.size,9,none⟩ (.slice AE els.len cE)) fun y hy _=>Below.heap_setCell w4 ⟨w1.heap.size,9,none⟩ (.slice AE els.len cE) y hy.2.2)
           have Q5:=Lib.hid (Q4.out.keep (w':=w4.setCell ⟨w1.heap.size,9,none⟩ (.slice AE els.len cE)) fun y hy _=>Below.heap_setCell w4 ⟨w1.heap.size,9,none⟩ (.slice AE els.len cE) y hy.2.2)
           have HW5:Hid (Below w1.heap.size w1 (w4.setCell ⟨w1.heap.size,9,none⟩ (.slice AE els.len cE))):=Lib.hid (HW4.out.setCell (Nat.le_refl _) _)
           replace k5:=Lib.hid k5
           clear N4 hB4 qk2 rk2 lk2 P4 Q4 P3 k3 HW3
           (replace qk4:=k4.cell;replace rk4:=k4.frozen;replace lk4:=k4.lt)
           cases ne with
           | none=>
            have hm1:atI none = -1:=rfl
            rw[hm1]
            have hst2:=Lib.hid (blkSt.mk0 (ls:=ls) (d:=d+1) hF1.out hF2.out (He0'.out rfl))
            clear He0' He' hF1 hF2
            go_wp2_with fail
            go_meet
            case rel=>exact ⟨body,els,none,AB,cB,AE,cE,rfl,hst2,Lib.hid (fun r e=>by cases e),k5.out,Q5.out,P5.out,HW5.out⟩
           | some s=>
            have hs:=hle2.out s rfl
            have hsi:atI (some s)=(s:Int):=rfl
            rw[hsi]
            have hs0:(0:Int)≤(s:Int):=by omega
            have hs1:=Lib.hid (show (s:Int)+1=((s+1:Nat):Int) by omega)
            have hst2:=Lib.hid (blkSt.mk (ls:=ls) (d:=d+1) (q:=s+1) hm hF1.out hF2.out (by omega) (He'.out s rfl))
            clear He0' He' hF1 hF2
            go_wp2_with fail
            go_meet
            case rel=>exact ⟨body,els,some (s+1),AB,cB,AE,cE,by rw[hs1.out];rfl,hst2,Lib.hid (fun r e=>by injection e with e;subst e;omega),k5.out,Q5.out,P5.out,HW5.out⟩
          ·have hyb:(y == [101,108,115,101])=false:=by rw[bytes_eq];simpa using hy
           have hst2:=Lib.hid (blkSt.mk (ls:=ls) (d:=d+1) (q:=r+1) hm hF1.out hF2.out (by omega) (Hno.out r rfl (fun h=>hy (by rw[←hgr];exact h.2))))
           clear Hno Hn He0 He hF1 hF2 Ib hy
           go_wp2_with fail
           go_meet
           case rel=>exact ⟨body,.nil,some (r+1),AB,cB,none,0,by rw[hr1.out];rfl,hst2,Lib.hid (fun r e=>by injection e with e;subst e;omega),k3.out,P3.out,Lib.hid (PartX.nil _),HW3.out⟩
         ·have hrli:¬(r:Int)<(ls.length:Int):=by omega
          have hst2:=Lib.hid (blkSt.mk (ls:=ls) (d:=d+1) (q:=r+1) hm hF1.out hF2.out (by omega) (Hno.out r rfl (fun h=>hrl h.1)))
          clear Hno Hn He0 He hF1 hF2 Ib
          go_wp2_with fail
          go_meet
          case rel=>exact ⟨body,.nil,some (r+1),AB,cB,none,0,by rw[hr1.out];rfl,hst2,Lib.hid (fun r e=>by injection e with e;subst e;omega),k3.out,P3.out,Lib.hid (PartX.nil _),HW3.out⟩
       case rest=>
        obtain ⟨body,els,nx,AB,cB,AE,cE,rfl,hstx,hnx,kx,h3,h4,hBx⟩:=hcut
        obtain ⟨wx,rfl⟩:∃ z,z=wc:=⟨_,rfl⟩
        clear k0 hBw qk0 rk0 lk0 Hno Hn He0 He Ib hF1 hF2 hle1 HW0
        have hT0:=HN1.out.below hBx.out
        obtain ⟨cs,ho9,hT9,-⟩:=hT0
        replace hT9:=Lib.hid hT9
        replace ho9:=Lib.hid ho9
        have hl9:w.heap.size≤wx.heap.size:=by have:=hBx.out.size;omega
        have XF9:=Lib.hid (XF.out.keep (w':=wx) fun y _ hy=>hBx.out.block y hy)
        have XA9:=Lib.hid (XA.out.keep (w':=wx) fun y _ hy=>hBx.out.block y hy)
        clear XF XA HN1
        have hfin:acc.len+1≤1049600∧w.heap.size≤w1.heap.size:=by omega
        have hacc:acc.len+1≤ls.length+(d+1):=by omega
        obtain ⟨hfin,hw1⟩:=hfin
        have hq3:=Lib.hid (show 1≤gk∧ls.length+12≤gk+q by omega)
        replace hacc:=Lib.hid hacc
        replace hq1:=Lib.hid hq1
        replace hw1:=Lib.hid hw1
        have qkx:=kx.cell
        have rkx:=kx.frozen
        have lkx:=kx.lt
        replace kx:=Lib.hid kx
        clear hqi hgd he1b he2b hcc hm hxl hq0 hlti hlt hal hq2 hH hcb hz zr
        go_wp2_with (at_builtin;(refine appCX (base:=w.heap.size) (g0:=wx.heap.size) rfl _ _ rfl rfl (own_below ho9.out (bbox (Below.refl _ _) _)) (tenL k ha hb ⟨te,ta,tb⟩ (.slice AF i.facts.length cF) (.slice AA i.atoms.length cA) (.slice AB body.len cB) (.slice AE els.len cE)) rfl (Blk.new _ _ _) rfl rfl (tenOne _ _ _ _ _ _ _ _ _ _ _ _ _ _ _ _) hfin (by simp;omega) ?_);(intro A8 c8 w8 o8 g8 B8 v8;have o8:=Lib.hid o8;have g8:=Lib.hid g8;have v8:=Lib.hid v8;have B8:=Lib.hid B8))
        have kX:∀ y,y<wx.heap.size→(wx.alloc (.cells (tenL k ha hb ⟨te,ta,tb⟩ (.slice AF i.facts.length cF) (.slice AA i.atoms.length cA) (.slice AB body.len cB) (.slice AE els.len cE)).toArray tC)).heap[y]? = wx.heap[y]?:=fun y hy=>(bbox (Below.refl _ wx) _).block y hy
        have N8:CmsN w8 w.heap.size (.slice A8 (acc.len+1) c8) (acc.app (.cons k ha hb ⟨te,ta,tb⟩ i body els .nil)):=CmsN.grow (hT9.out.keep fun y _ hy=>kX y hy) hfin ((XF9.out.mono fun y hy _=>⟨hy.1,hy.2.1⟩).keep fun y _ hy=>kX y hy) ((XA9.out.mono fun y hy _=>⟨hy.1,hy.2.1⟩).keep fun y _ hy=>kX y hy) ((h3.out.mono fun y hy _=>⟨hy.1,hy.2.1⟩).keep fun y _ hy=>kX y hy) ((h4.out.mono fun y hy _=>⟨hy.1,hy.2.1⟩).keep fun y _ hy=>kX y hy) o8.out g8.out v8.out
        have F8:Below w.heap.size w w8:=((HB1.out.trans (hBx.out.mono hw1.out)).alloc hl9 _).trans B8.out
        have hLl:(acc.app (.cons k ha hb ⟨te,ta,tb⟩ i body els .nil)).len=acc.len+1:=by rw[Cms.len_app];rfl
        go_roundg (gk - 1)
        case rel=>exact ⟨acc.app (.cons k ha hb ⟨te,ta,tb⟩ i body els .nil),nx,rfl,Lib.hid N8,hstx,by rw[hLl];exact hacc.out,Lib.hid (fun r e=>by have:=hnx.out r e;have:=hq1.out;have:=hq3.out;rw[hLl];omega),Lib.hid F8⟩
        case measure=>have:=hq3.out;omega
     ·have hk6:(k == 6)=false:=by simp;omega
      have hk7:(k == 7)=false:=by simp;omega
      have hzb:=Lib.hid (blk_basic (m:=m) (d:=d+1) hcc.out (by rw[hH.out];exact hk))
      have hstx:Hid (blkSt ls (d+1) R (acc.app (.cons k ha hb ⟨te,ta,tb⟩ i .nil .nil .nil)) (some (q+1))):=Lib.hid (blkSt.mk (H:=⟨k,ha,hb,⟨te,ta,tb⟩,i⟩) hm hF1.out hF2.out (Nat.le_refl _) (by rw[hzb.out,hH.out]))
      clear hzb hF1 hF2 hk
      (replace qk0:=k0.cell;replace rk0:=k0.frozen;replace lk0:=k0.lt)
      go_upto_region 17 with fail
      clear qk0 rk0 lk0
      rw[hq1i.out]
      generalize w1.alloc (.cells #[.int .i64 k,.int .i64 ha,.int .i64 hb,.bool te,.int .i64 ta,.int .i64 tb,.slice AF i.facts.length cF,.slice AA i.atoms.length cA,.slice none 0 0,.slice none 0 0] tC)=wx at *
      have hBx:=hBw
      have kx:=k0
      obtain ⟨nx,hnxe⟩:∃ nx,nx=some (q+1):=⟨_,rfl⟩
      have hati:((q+1:Nat):Int)=atI nx:=by rw[hnxe];rfl
      rw[hati]
      rw[←hnxe] at hstx
      have hnx:Hid (∀ r,nx=some r→q+1≤r∧r≤ls.length+(d+1)):=Lib.hid (fun r e=>by rw[hnxe] at e;injection e with e;subst e;omega)
      obtain ⟨AB,cB,AE,cE,hAB⟩:∃ (AB:Option Addr) (cB:Nat) (AE:Option Addr) (cE:Nat),AB=none∧cB=0∧AE=none∧cE=0:=⟨_,_,_,_,rfl,rfl,rfl,rfl⟩
      obtain ⟨body,hbody⟩:∃ body,body=Cms.nil:=⟨_,rfl⟩
      obtain ⟨els,hels⟩:∃ body,body=Cms.nil:=⟨_,rfl⟩
      have h3:Hid (PartX wx (fun y=>w.heap.size≤y∧(Value.slice A5 acc.len c5).ownBlock≠some y∧y≠w1.heap.size) AB body):=Lib.hid (by rw[hbody];exact PartX.nil _)
      have h4:Hid (PartX wx (fun y=>w.heap.size≤y∧(Value.slice A5 acc.len c5).ownBlock≠some y∧y≠w1.heap.size) AE els):=Lib.hid (by rw[hels];exact PartX.nil _)
      have hkx:Blk wx w1.heap.size tC #[.int .i64 k,.int .i64 ha,.int .i64 hb,.bool te,.int .i64 ta,.int .i64 tb,.slice AF i.facts.length cF,.slice AA i.atoms.length cA,.slice AB body.len cB,.slice AE els.len cE]:=by rw[hAB.1,hAB.2.1,hAB.2.2.1,hAB.2.2.2,hbody,hels];exact kx
      replace kx:=hkx
      replace hstx:Hid (blkSt ls (d+1) R (acc.app (.cons k ha hb ⟨te,ta,tb⟩ i body els .nil)) nx):=Lib.hid (by rw[hbody,hels];exact hstx.out)
      clear hAB hbody hels hkx hnxe hati k0 hBw hk6 hk7
      have hT0:=HN1.out.below hBx.out
      obtain ⟨cs,ho9,hT9,-⟩:=hT0
      replace hT9:=Lib.hid hT9
      replace ho9:=Lib.hid ho9
      have hl9:w.heap.size≤wx.heap.size:=by have:=hBx.out.size;omega
      have XF9:=Lib.hid (XF.out.keep (w':=wx) fun y _ hy=>hBx.out.block y hy)
      have XA9:=Lib.hid (XA.out.keep (w':=wx) fun y _ hy=>hBx.out.block y hy)
      clear XF XA HN1
      have hfin:acc.len+1≤1049600∧w.heap.size≤w1.heap.size:=by omega
      have hacc:acc.len+1≤ls.length+(d+1):=by omega
      obtain ⟨hfin,hw1⟩:=hfin
      have hq3:=Lib.hid (show 1≤gk∧ls.length+12≤gk+q by omega)
      replace hacc:=Lib.hid hacc
      replace hq1:=Lib.hid hq1
      replace hw1:=Lib.hid hw1
      have qkx:=kx.cell
      have rkx:=kx.frozen
      have lkx:=kx.lt
      replace kx:=Lib.hid kx
      clear hqi hgd he1b he2b hcc hm hxl hq0 hlti hlt hal hq2 hH hcb hz zr
      go_wp2_with (at_builtin;(refine appCX (base:=w.heap.size) (g0:=wx.heap.size) rfl _ _ rfl rfl (own_below ho9.out (bbox (Below.refl _ _) _)) (tenL k ha hb ⟨te,ta,tb⟩ (.slice AF i.facts.length cF) (.slice AA i.atoms.length cA) (.slice AB body.len cB) (.slice AE els.len cE)) rfl (Blk.new _ _ _) rfl rfl (tenOne _ _ _ _ _ _ _ _ _ _ _ _ _ _ _ _) hfin (by simp;omega) ?_);(intro A8 c8 w8 o8 g8 B8 v8;have o8:=Lib.hid o8;have g8:=Lib.hid g8;have v8:=Lib.hid v8;have B8:=Lib.hid B8))
      have kX:∀ y,y<wx.heap.size→(wx.alloc (.cells (tenL k ha hb ⟨te,ta,tb⟩ (.slice AF i.facts.length cF) (.slice AA i.atoms.length cA) (.slice AB body.len cB) (.slice AE els.len cE)).toArray tC)).heap[y]? = wx.heap[y]?:=fun y hy=>(bbox (Below.refl _ wx) _).block y hy
      have N8:CmsN w8 w.heap.size (.slice A8 (acc.len+1) c8) (acc.app (.cons k ha hb ⟨te,ta,tb⟩ i body els .nil)):=CmsN.grow (hT9.out.keep fun y _ hy=>kX y hy) hfin ((XF9.out.mono fun y hy _=>⟨hy.1,hy.2.1⟩).keep fun y _ hy=>kX y hy) ((XA9.out.mono fun y hy _=>⟨hy.1,hy.2.1⟩).keep fun y _ hy=>kX y hy) ((h3.out.mono fun y hy _=>⟨hy.1,hy.2.1⟩).keep fun y _ hy=>kX y hy) ((h4.out.mono fun y hy _=>⟨hy.1,hy.2.1⟩).keep fun y _ hy=>kX y hy) o8.out g8.out v8.out
      have F8:Below w.heap.size w w8:=((HB1.out.trans (hBx.out.mono hw1.out)).alloc hl9 _).trans B8.out
      have hLl:(acc.app (.cons k ha hb ⟨te,ta,tb⟩ i body els .nil)).len=acc.len+1:=by rw[Cms.len_app];rfl
      go_roundg (gk - 1)
      case rel=>exact ⟨acc.app (.cons k ha hb ⟨te,ta,tb⟩ i body els .nil),nx,rfl,Lib.hid N8,hstx,by rw[hLl];exact hacc.out,Lib.hid (fun r e=>by have:=hnx.out r e;have:=hq1.out;have:=hq3.out;rw[hLl];omega),Lib.hid F8⟩
      case measure=>have:=hq3.out;omega
    ·have hlti:¬(q:Int)+1<(ls.length:Int):=by omega
     have hE:=Lib.hid (hSt.out (fun h=>hlt h.1))
     have hf:Hid (R.2=some q):=Lib.hid hE.out.2
     have ha:Hid (acc=R.1):=Lib.hid hE.out.1
     clear hE hSt hst
     go_wp2_with fail
     refine bodyPost_ret (v:=.tuple #[.slice A5 acc.len c5,.int .i64 q]) (by simp[results,Tryz.results24,go_sem]) rfl ⟨_,by rw[hf.out];rfl,by rw[←ha.out];exact hN.out,HB.out⟩
theorem c_l8Block:∀ (d:Nat),d≤10→BlkOk d
 | 0,_=>l8Block_zero
 | d+1,h=>l8Block_succ d (by omega) (c_l8Block d (by omega))
end Go.Proofs.YtjbboklnegfohaaGreatDoor

/- Contracts: the first line of a command as a text (spec.l8Line). -/
namespace Go.Proofs.YtjbboklnegfohaaGreatDoor
open Go Go.RowKit Go.Proofs
set_option maxRecDepth 100000 in
set_option maxHeartbeats 6400000 in
theorem c_l8Line {lo hi:Nat} (k a b:Int) (t:Fct) (i:Asn) (A1 A2 A3 A4:Option Addr) (c1 c2 n3 c3 n4 c4:Nat) (w:World) (h:AsnV w lo hi (.agg #[.slice A1 i.facts.length c1,.slice A2 i.atoms.length c2]) i) :
  Calls Tryz.prog 35 #[.agg #[.int .i64 k,.int .i64 a,.int .i64 b,.bool t.eq,.int .i64 t.a,.int .i64 t.b,.slice A1 i.facts.length c1,.slice A2 i.atoms.length c2,.slice A3 n3 c3,.slice A4 n4 c4]] w fun e w'=>e=.returned (sv (lineL k a b t i))∧Below w.heap.size w w':=by
 obtain ⟨hl1,hl2⟩:i.facts.length≤1049600∧i.atoms.length≤1049600:=by
  obtain ⟨B1,d1,B2,d2,e,h1,h2⟩:=h
  exact ⟨h1.le,h2.le⟩
 have HV:=Lib.hid h
 have la:=tnameL_len a
 have lb:=tnameL_len b
 have lt:=fmtF_len t
 have li:=textA_len i
 have ca:=c_TermName a
 have cb:=c_TermName b
 have ct:=c_l1Text t
 have ci:=fun w h=>c_l3Text (lo:=lo) (hi:=hi) (.agg #[.slice A1 i.facts.length c1,.slice A2 i.atoms.length c2]) i w h
 obtain ⟨NA,hNA⟩:∃ N,N=tnameL a:=⟨_,rfl⟩
 obtain ⟨NB,hNB⟩:∃ N,N=tnameL b:=⟨_,rfl⟩
 obtain ⟨NT,hNT⟩:∃ N,N=fmtF t:=⟨_,rfl⟩
 obtain ⟨NI,hNI⟩:∃ N,N=textA i:=⟨_,rfl⟩
 have hL:Hid (lineL k a b t i=if k=1 then NA++[58,61]++NB else if k=2 then NA++[58,61,91]++NB++[93] else if k=3 then [91]++NA++[93,58,61]++NB
  else if k=4 then [110,101,119,32]++NA else if k=5 then [102,114,101,101,32]++NA else if k=6 then [105,102,32]++NT else [119,104,105,108,101,32]++NT++[32,119,105,116,104,32]++NI):=Lib.hid (by rw[hNA,hNB,hNT,hNI];rfl)
 rw[←hNA] at la ca
 rw[←hNB] at lb cb
 rw[←hNT] at lt ct
 rw[←hNI] at li ci
 replace ca:=Lib.hid ca
 replace cb:=Lib.hid cb
 replace ct:=Lib.hid ct
 replace ci:=Lib.hid ci
 clear hNA hNB hNT hNI h
 obtain ⟨te,ta,tb⟩:=t
 unfold Fct.val at ct
 simp only at ct ⊢
 have k0:Blk (w.alloc (.cells #[.int .i64 k,.int .i64 a,.int .i64 b,.bool te,.int .i64 ta,.int .i64 tb,.slice A1 i.facts.length c1,.slice A2 i.atoms.length c2,.slice A3 n3 c3,.slice A4 n4 c4] tC)) w.heap.size tC #[.int .i64 k,.int .i64 a,.int .i64 b,.bool te,.int .i64 ta,.int .i64 tb,.slice A1 i.facts.length c1,.slice A2 i.atoms.length c2,.slice A3 n3 c3,.slice A4 n4 c4]:=Blk.new _ _ _
 have hB0:Below w.heap.size w (w.alloc (.cells #[.int .i64 k,.int .i64 a,.int .i64 b,.bool te,.int .i64 ta,.int .i64 tb,.slice A1 i.facts.length c1,.slice A2 i.atoms.length c2,.slice A3 n3 c3,.slice A4 n4 c4] tC)):=bbox (Below.refl _ _) _
 go_enter Tryz.func35,Tryz.ntmps35
 (replace qk0:=k0.cell;replace rk0:=k0.frozen;replace lk0:=k0.lt)
 go_wp2_with fail
 refine (ca.out _).mono ?_
 rintro e w1 ⟨rfl,rfl⟩
 go_wp2_with fail
 refine (cb.out _).mono ?_
 rintro e w1 ⟨rfl,rfl⟩
 have hBh:=Lib.hid hB0
 by_cases h1:k=1
 ·have b1:(k == 1)=true:=by simp[h1]
  obtain ⟨S0,e0,n0⟩:=addO (P:=Tryz.prog) NA [58,61] (by first|omega|(simp;omega))
  have l0:S0.length≤10:=by rw[e0.out];simp;omega
  obtain ⟨S1,e1,n1⟩:=addO (P:=Tryz.prog) S0 NB (by first|omega|(simp;omega))
  have hR:Hid (lineL k a b ⟨te,ta,tb⟩ i=S1):=Lib.hid (by rw[hL.out,if_pos h1,e1.out,e0.out])
  clear hL h1
  go_wp2_with fail
  go_ret
  exact ⟨ret_str hR.out.symm,hBh.out⟩
 have b1:(k == 1)=false:=by simp[h1]
 by_cases h2:k=2
 ·have b2:(k == 2)=true:=by simp[h2]
  obtain ⟨S0,e0,n0⟩:=addO (P:=Tryz.prog) NA [58,61,91] (by first|omega|(simp;omega))
  have l0:S0.length≤10:=by rw[e0.out];simp;omega
  obtain ⟨S1,e1,n1⟩:=addO (P:=Tryz.prog) S0 NB (by first|omega|(simp;omega))
  have l1:S1.length≤20:=by rw[e1.out];simp;omega
  obtain ⟨S2,e2,n2⟩:=addO (P:=Tryz.prog) S1 [93] (by first|omega|(simp;omega))
  have hR:Hid (lineL k a b ⟨te,ta,tb⟩ i=S2):=Lib.hid (by rw[hL.out,if_neg h1,if_pos h2,e2.out,e1.out,e0.out])
  clear hL h2
  go_wp2_with fail
  go_ret
  exact ⟨ret_str hR.out.symm,hBh.out⟩
 have b2:(k == 2)=false:=by simp[h2]
 by_cases h3:k=3
 ·have b3:(k == 3)=true:=by simp[h3]
  obtain ⟨S0,e0,n0⟩:=addO (P:=Tryz.prog) [91] NA (by first|omega|(simp;omega))
  have l0:S0.length≤10:=by rw[e0.out];simp;omega
  obtain ⟨S1,e1,n1⟩:=addO (P:=Tryz.prog) S0 [93,58,61] (by first|omega|(simp;omega))
  have l1:S1.length≤20:=by rw[e1.out];simp;omega
  obtain ⟨S2,e2,n2⟩:=addO (P:=Tryz.prog) S1 NB (by first|omega|(simp;omega))
  have hR:Hid (lineL k a b ⟨te,ta,tb⟩ i=S2):=Lib.hid (by rw[hL.out,if_neg h1,if_neg h2,if_pos h3,e2.out,e1.out,e0.out])
  clear hL h3
  go_wp2_with fail
  go_ret
  exact ⟨ret_str hR.out.symm,hBh.out⟩
 have b3:(k == 3)=false:=by simp[h3]
 by_cases h4:k=4
 ·have b4:(k == 4)=true:=by simp[h4]
  obtain ⟨S0,e0,n0⟩:=addO (P:=Tryz.prog) [110,101,119,32] NA (by first|omega|(simp;omega))
  have hR:Hid (lineL k a b ⟨te,ta,tb⟩ i=S0):=Lib.hid (by rw[hL.out,if_neg h1,if_neg h2,if_neg h3,if_pos h4,e0.out])
  clear hL h4
  go_wp2_with fail
  go_ret
  exact ⟨ret_str hR.out.symm,hBh.out⟩
 have b4:(k == 4)=false:=by simp[h4]
 by_cases h5:k=5
 ·have b5:(k == 5)=true:=by simp[h5]
  obtain ⟨S0,e0,n0⟩:=addO (P:=Tryz.prog) [102,114,101,101,32] NA (by first|omega|(simp;omega))
  have hR:Hid (lineL k a b ⟨te,ta,tb⟩ i=S0):=Lib.hid (by rw[hL.out,if_neg h1,if_neg h2,if_neg h3,if_neg h4,if_pos h5,e0.out])
  clear hL h5
  go_wp2_with fail
  go_ret
  exact ⟨ret_str hR.out.symm,hBh.out⟩
 have b5:(k == 5)=false:=by simp[h5]
 by_cases h6:k=6
 ·have b6:(k == 6)=true:=by simp[h6]
  obtain ⟨S0,e0,n0⟩:=addO (P:=Tryz.prog) [105,102,32] NT (by simp;omega)
  have hR:Hid (lineL k a b ⟨te,ta,tb⟩ i=S0):=Lib.hid (by rw[hL.out,if_neg h1,if_neg h2,if_neg h3,if_neg h4,if_neg h5,if_pos h6,e0.out])
  clear hL h1 h2 h3 h4 h5 h6
  go_wp2_with fail
  refine (ct.out _).mono ?_
  rintro e w2 ⟨rfl,hB2⟩
  have hB2':=Lib.hid (bgo hBh.out hB2)
  go_wp2_with fail
  go_ret
  exact ⟨ret_str hR.out.symm,hB2'.out⟩
 have b6:(k == 6)=false:=by simp[h6]
 obtain ⟨S0,e0,n0⟩:=addO (P:=Tryz.prog) [119,104,105,108,101,32] NT (by simp;omega)
 have l0:S0.length≤20:=by rw[e0.out];simp;omega
 obtain ⟨S1,e1,n1⟩:=addO (P:=Tryz.prog) S0 [32,119,105,116,104,32] (by simp;omega)
 have l1:S1.length≤30:=by rw[e1.out];simp;omega
 obtain ⟨S2,e2,n2⟩:=addO (P:=Tryz.prog) S1 NI (by omega)
 have hR:Hid (lineL k a b ⟨te,ta,tb⟩ i=S2):=Lib.hid (by rw[hL.out,if_neg h1,if_neg h2,if_neg h3,if_neg h4,if_neg h5,if_neg h6,e2.out,e1.out,e0.out])
 clear hL h1 h2 h3 h4 h5 h6 l0 l1
 go_wp2_with fail
 go_region_held3 (fun w'=>(∀ j,w'.cell? ⟨w.heap.size,j,none⟩=#[.int .i64 k,.int .i64 a,.int .i64 b,.bool te,.int .i64 ta,.int .i64 tb,.slice A1 i.facts.length c1,.slice A2 i.atoms.length c2,.slice A3 n3 c3,.slice A4 n4 c4][j]?))
  (exact Blk.cell blks)
  (first
   | (go_at_call 60;refine (ct.out _).mono ?_;rintro e w2 ⟨rfl,hB2⟩;have hBw2:=bgo (w:=w) bel hB2;have m0:=Blk.next (g:=w.heap.size) blks hB2;have m0c:=m0.cell;have m0f:=m0.frozen)
   | (go_at_call 61;refine (ci.out _ (HV.out.below bel)).mono ?_;rintro e w3 ⟨rfl,hB3⟩;have hBw3:=bgo (w:=w) bel hB3;have p0:=Blk.next (g:=w.heap.size) blks hB3;have p0c:=p0.cell;have p0f:=p0.frozen))
 all_goals
  go_wp2_with fail
  go_ret
  exact ⟨ret_str hR.out.symm,bel⟩
end Go.Proofs.YtjbboklnegfohaaGreatDoor

/- Contracts: the text of a program (spec). -/
namespace Go.Proofs.YtjbboklnegfohaaGreatDoor
open Go Go.RowKit Go.Proofs
theorem textL_cons (k a b:Int) (t:Fct) (i:Asn) (body els r:Cms):textL (.cons k a b t i body els r)=lineL k a b t i++[10]++textL body++(if 0<els.len then [101,108,115,101,10]++textL els else [])++(if k=6∨k=7 then [101,110,100,10] else [])++textL r:=by rw[textL]
set_option maxRecDepth 100000 in
set_option maxHeartbeats 6400000 in
theorem l8Text_go:∀ (N:Nat) (L:Cms),L.sz<N→∀ (A:Option Addr) (c d lo hi:Nat) (w:World),CmsV w lo hi A L→L.len≤1049600→L.small 1049600→L.shape d=true→L.sz≤16→
  Calls Tryz.prog 16 #[.slice A L.len c] w fun e w'=>e=.returned (sv (textL L))∧Below w.heap.size w w':=by
 intro N
 induction N with
 | zero=>intro L h;omega
 | succ N IH=>
  intro L hsz A c d lo hi w hV hlen hsm hsh hcz
  replace IH:=Lib.hid IH
  replace hV:=Lib.hid hV
  replace hsm:=Lib.hid hsm
  replace hsz:=Lib.hid hsz
  have hTL:=textL_len hsh
  obtain ⟨R,hR⟩:∃ R,R=textL L:=⟨_,rfl⟩
  have hRl:R.length≤4000:=by rw[hR];omega
  replace hcz:=Lib.hid hcz
  replace hsh:=Lib.hid hsh
  obtain ⟨n,hn⟩:∃ n,n=L.len:=⟨_,rfl⟩
  rw[←hn,←hR]
  rw[←hn] at hlen
  replace hn:=Lib.hid hn
  replace hR:=Lib.hid hR
  clear hTL
  go_enter Tryz.func16,Tryz.ntmps16
  go_wp2_with fail
  go_loopw [3,4] (fun y x wr=>∃ (j:Nat) (X:Bs),j≤n∧x=.int .i64 j∧y=sv X∧Hid (X++textL (L.drop j)=R)∧Hid (Below w.heap.size w wr)) (fun _ x _=>n - (intOf x).toNat)
  case atStart=>exact ⟨0,[],Nat.zero_le _,rfl,rfl,Lib.hid hR.out.symm,Lib.hid bel⟩
  case round=>
   obtain ⟨j,X,hj,rfl,rfl,HR,HB⟩:=hrel
   have hXl:X.length≤4000:=by have h:=congrArg List.length HR.out;rw[List.length_append] at h;omega
   by_cases hlt:j<n
   ·have hlti:(j:Int)<(n:Int):=by omega
    have hpos:0<(L.drop j).len:=by rw[Cms.drop_len,←hn.out];omega
    obtain ⟨k,a,b,t,i,body,els,r,eL⟩:=Cms.cons_of_len hpos
    obtain ⟨bl,o,rfl,-,-,hAt⟩:=(hV.out.below HB.out) (by rw[←hn.out];omega)
    have hD:=hAt.drop j
    have hS:=Cms.small_drop j hsm.out
    have hZ:=Cms.sz_drop j L
    have hSh:=Cms.shape_drop j hsh.out
    have hDs:=Cms.drop_succ j L eL
    have HR':=HR.out
    rw[eL] at hD hS hZ HR' hSh
    obtain ⟨⟨p0,p1,p2,p3,p4,p5⟩,⟨A6,c6,p6,g6⟩,⟨A7,c7,p7,g7⟩,⟨A8,c8,p8,g8⟩,⟨A9,c9,p9,g9⟩,-⟩:=hD
    obtain ⟨s1,s2,s3,s4,s5,s6,-⟩:=hS
    simp only[Cms.sz] at hZ
    simp only[Cms.shape,Bool.and_eq_true] at hSh
    have hbs:body.sz<N:=by have:=hsz.out;omega
    have hes:els.sz<N:=by have:=hsz.out;omega
    have hbz:body.sz≤16:=by have:=hcz.out;omega
    have hez:els.sz≤16:=by have:=hcz.out;omega
    have gB:Hid (CmsV wr lo hi A8 body):=g8
    have gE:Hid (CmsV wr lo hi A9 els):=g9
    have gI:Hid (AsnV wr lo hi (.agg #[.slice A6 i.facts.length c6,.slice A7 i.atoms.length c7]) i):=Lib.hid ⟨A6,c6,A7,c7,rfl,⟨g6,s1⟩,⟨g7,s2⟩⟩
    have hfi:=fval_inv hSh.2.1
    have lln:=lineL_len (k:=k) (a:=a) (b:=b) (t:=t) hfi.1 hfi.2
    have lbd:=textL_len hSh.2.2.1
    have lel:=textL_len hSh.2.2.2.1
    rw[←hDs,textL_cons] at HR'
    have cl:=fun W h=>c_l8Line (lo:=lo) (hi:=hi) k a b t i A6 A7 A8 A9 c6 c7 body.len c8 els.len c9 W h
    have cB:=fun W h=>IH.out body hbs A8 c8 (d - 1) lo hi W h s3 s5 hSh.2.2.1 hbz
    have cE:=fun W h=>IH.out els hes A9 c9 (d - 1) lo hi W h s4 s6 hSh.2.2.2.1 hez
    obtain ⟨LN,hLN⟩:∃ x,x=lineL k a b t i:=⟨_,rfl⟩
    obtain ⟨TB,hTB⟩:∃ x,x=textL body:=⟨_,rfl⟩
    obtain ⟨TE,hTE⟩:∃ x,x=textL els:=⟨_,rfl⟩
    rw[←hLN] at HR' lln cl
    rw[←hTB] at HR' lbd cB
    rw[←hTE] at HR' lel cE
    obtain ⟨te,ta,tb⟩:=t
    simp only at p3 p4 p5 cl
    have lbd':TB.length≤4000:=by omega
    have lel':TE.length≤4000:=by omega
    have hbl:bl<wr.heap.size:=block_lt_of_cell p0
    replace HR':=Lib.hid HR'
    replace cl:=Lib.hid cl
    replace cB:=Lib.hid cB
    replace cE:=Lib.hid cE
    have hj1:=Lib.hid (show ((j+1:Nat):Int)=(j:Int)+1 by omega)
    clear HR hLN hTB hTE hSh hfi hZ s5 s6 s1 s2 g6 g7 g8 g9 hAt eL hDs hpos lbd lel hbs hes hbz hez
    obtain ⟨S1,e1,n1⟩:=addO (P:=Tryz.prog) X LN (by omega)
    have l1:S1.length≤4300:=by rw[e1.out,List.length_append];omega
    obtain ⟨S2,e2,n2⟩:=addO (P:=Tryz.prog) S1 [10] (by simp;omega)
    have l2:S2.length≤4400:=by rw[e2.out,List.length_append];simp;omega
    obtain ⟨S3,e3,n3⟩:=addO (P:=Tryz.prog) S2 TB (by omega)
    have l3:S3.length≤9000:=by rw[e3.out,List.length_append];omega
    have E3:Hid (S3=X++LN++[10]++TB):=Lib.hid (by rw[e3.out,e2.out,e1.out])
    clear l1 l2 e1 e2 e3 lln hXl
    have k0:Blk (wr.alloc (.cells #[.int .i64 k,.int .i64 a,.int .i64 b,.bool te,.int .i64 ta,.int .i64 tb,.slice A6 i.facts.length c6,.slice A7 i.atoms.length c7,.slice A8 body.len c8,.slice A9 els.len c9] tC)) wr.heap.size tC #[.int .i64 k,.int .i64 a,.int .i64 b,.bool te,.int .i64 ta,.int .i64 tb,.slice A6 i.facts.length c6,.slice A7 i.atoms.length c7,.slice A8 body.len c8,.slice A9 els.len c9]:=Blk.new _ _ _
    have hz:=HB.out.size
    go_wp2_with fail
    go_region_held3 (fun w'=>(∀ q,w'.cell? ⟨wr.heap.size,q,none⟩=#[.int .i64 k,.int .i64 a,.int .i64 b,.bool te,.int .i64 ta,.int .i64 tb,.slice A6 i.facts.length c6,.slice A7 i.atoms.length c7,.slice A8 body.len c8,.slice A9 els.len c9][q]?))
     (exact Blk.cell blks)
     (first
      | (go_at_call 35;refine (cl.out _ (gI.out.below bel)).mono ?_;rintro e w2 ⟨rfl,hB2⟩;have hBw2:=bgo (w:=wr) bel hB2;have m0:=Blk.next (g:=wr.heap.size) blks hB2;have m0c:=m0.cell;have m0f:=m0.frozen)
      | (go_at_call 16;refine (cB.out _ (gB.out.below bel)).mono ?_;rintro e w3 ⟨rfl,hB3⟩;have hBw3:=bgo (w:=wr) bel hB3;have p0:=Blk.next (g:=wr.heap.size) blks hB3;have p0c:=p0.cell;have p0f:=p0.frozen))
    all_goals
     have HBx:Hid (Below wr.heap.size wr _):=Lib.hid hBw3
     clear hBw3 hBw2 hB2 hB3 m0 m0c m0f
     by_cases hel:0<els.len
     ·have heli:(0:Int)<(els.len:Int):=by omega
      obtain ⟨S4,e4,n4⟩:=addO (P:=Tryz.prog) S3 [101,108,115,101,10] (by simp;omega)
      have l4:S4.length≤9100:=by rw[e4.out,List.length_append];simp;omega
      obtain ⟨S5,e5,n5⟩:=addO (P:=Tryz.prog) S4 TE (by omega)
      have l5:S5.length≤14000:=by rw[e5.out,List.length_append];omega
      have E5:Hid (S5=X++LN++[10]++TB++([101,108,115,101,10]++TE)):=Lib.hid (by rw[e5.out,e4.out,E3.out,List.append_assoc])
      replace HR':Hid (S5++((if k=6∨k=7 then [101,110,100,10] else [])++textL (L.drop (j+1)))=R):=Lib.hid (by rw[E5.out,←HR'.out,if_pos hel];simp only[List.append_assoc])
      clear e4 e5 E5 E3 hel l4
      go_wp2_with fail
      refine (cE.out _ (gE.out.below HBx.out)).mono ?_
      rintro e w4 ⟨rfl,hB4⟩
      have HB4:=Lib.hid (bgo HBx.out hB4)
      have q0:=p0.next hB4
      clear hB4 HBx p0c p0f p0
      have q0c:=q0.cell
      have q0f:=q0.frozen
      by_cases h6:k=6
      ·have b6:(k == 6)=true:=by simp[h6]
       obtain ⟨S6,e6,n6⟩:=addO (P:=Tryz.prog) S5 [101,110,100,10] (by simp;omega)
       have HR2:Hid (S6++textL (L.drop (j+1))=R):=Lib.hid (by rw[e6.out,←HR'.out,if_pos (Or.inl h6),List.append_assoc])
       clear h6 e6
       go_wp2_with fail
       go_round
       case rel=>exact ⟨j+1,S6,by omega,by go_num,rfl,HR2,Lib.hid (bgo HB.out HB4.out)⟩
       case measure=>simp[intOf];omega
      have b6:(k == 6)=false:=by simp[h6]
      by_cases h7:k=7
      ·have b7:(k == 7)=true:=by simp[h7]
       obtain ⟨S6,e6,n6⟩:=addO (P:=Tryz.prog) S5 [101,110,100,10] (by simp;omega)
       have HR2:Hid (S6++textL (L.drop (j+1))=R):=Lib.hid (by rw[e6.out,←HR'.out,if_pos (Or.inr h7),List.append_assoc])
       clear h6 h7 e6
       go_wp2_with fail
       go_round
       case rel=>exact ⟨j+1,S6,by omega,by go_num,rfl,HR2,Lib.hid (bgo HB.out HB4.out)⟩
       case measure=>simp[intOf];omega
      have b7:(k == 7)=false:=by simp[h7]
      have HR2:Hid (S5++textL (L.drop (j+1))=R):=Lib.hid (by rw[←HR'.out,if_neg (by rintro (h|h)<;>contradiction),List.nil_append])
      clear h6 h7
      go_wp2_with fail
      go_round
      case rel=>exact ⟨j+1,S5,by omega,by go_num,rfl,HR2,Lib.hid (bgo HB.out HB4.out)⟩
      case measure=>simp[intOf];omega
     ·have heli:¬(0:Int)<(els.len:Int):=by omega
      replace HR':Hid (S3++((if k=6∨k=7 then [101,110,100,10] else [])++textL (L.drop (j+1)))=R):=Lib.hid (by rw[E3.out,←HR'.out,if_neg hel];simp only[List.append_assoc,List.append_nil,List.nil_append])
      clear E3 hel
      by_cases h6:k=6
      ·have b6:(k == 6)=true:=by simp[h6]
       obtain ⟨S6,e6,n6⟩:=addO (P:=Tryz.prog) S3 [101,110,100,10] (by simp;omega)
       have HR2:Hid (S6++textL (L.drop (j+1))=R):=Lib.hid (by rw[e6.out,←HR'.out,if_pos (Or.inl h6),List.append_assoc])
       clear h6 e6
       go_wp2_with fail
       go_round
       case rel=>exact ⟨j+1,S6,by omega,by go_num,rfl,HR2,Lib.hid (bgo HB.out HBx.out)⟩
       case measure=>simp[intOf];omega
      have b6:(k == 6)=false:=by simp[h6]
      by_cases h7:k=7
      ·have b7:(k == 7)=true:=by simp[h7]
       obtain ⟨S6,e6,n6⟩:=addO (P:=Tryz.prog) S3 [101,110,100,10] (by simp;omega)
       have HR2:Hid (S6++textL (L.drop (j+1))=R):=Lib.hid (by rw[e6.out,←HR'.out,if_pos (Or.inr h7),List.append_assoc])
       clear h6 h7 e6
       go_wp2_with fail
       go_round
       case rel=>exact ⟨j+1,S6,by omega,by go_num,rfl,HR2,Lib.hid (bgo HB.out HBx.out)⟩
       case measure=>simp[intOf];omega
      have b7:(k == 7)=false:=by simp[h7]
      have HR2:Hid (S3++textL (L.drop (j+1))=R):=Lib.hid (by rw[←HR'.out,if_neg (by rintro (h|h)<;>contradiction),List.nil_append])
      clear h6 h7
      go_wp2_with fail
      go_round
      case rel=>exact ⟨j+1,S3,by omega,by go_num,rfl,HR2,Lib.hid (bgo HB.out HBx.out)⟩
      case measure=>simp[intOf];omega
   ·obtain rfl:j=n:=by omega
    have hE:Hid (X=R):=Lib.hid (by have h:=HR.out;rw[hn.out,Cms.drop_all,textL,List.append_nil] at h;exact h)
    go_wp2_with fail
    go_ret
    exact ⟨ret_str hE.out,HB.out⟩
set_option maxRecDepth 100000 in
set_option maxHeartbeats 1600000 in
theorem c_FormatProgram {lo hi:Nat} (L:Cms) (A:Option Addr) (c:Nat) (w:World) (hV:CmsV w lo hi A L) (hlen:L.len≤1049600) (hsm:L.small 1049600) (hz:L.sz≤1049600) :
  Calls Tryz.prog 7 #[.slice A L.len c] w fun e w'=>e=.returned (sv (fmtP L))∧Below w.heap.size w w':=by
 have HV:=Lib.hid hV
 have cp:=Lib.hid (fun W h=>c_spec_ProgramValid (lo:=lo) (hi:=hi) L A c W h hlen hsm hz)
 have cT:=Lib.hid (fun W h h1 h2=>l8Text_go (L.sz+1) L (Nat.lt_succ_self _) A c 4 lo hi W h hlen hsm h1 h2)
 clear hV hsm hz
 go_enter Tryz.func7,Tryz.ntmps7
 go_wp2_with fail
 refine (cp.out _ HV.out).mono ?_
 rintro e w1 ⟨rfl,hB1⟩
 have HB1:=Lib.hid hB1
 clear hB1
 cases hp:L.prog
 ·have hR:Hid (fmtP L=[]):=Lib.hid (by unfold fmtP;rw[hp];rfl)
  clear hp
  go_wp2_with fail
  go_ret
  exact ⟨ret_str hR.out.symm,HB1.out⟩
 ·have hR:Hid (fmtP L=textL L):=Lib.hid (by unfold fmtP;rw[if_pos hp])
  have hs:=Lib.hid (prog_shape hp)
  clear hp
  go_wp2_with fail
  refine (cT.out _ (HV.out.below HB1.out) hs.out.1 hs.out.2).mono ?_
  rintro e w2 ⟨rfl,hB2⟩
  go_wp2_with fail
  go_ret
  exact ⟨ret_str hR.out.symm,bgo HB1.out hB2⟩
end Go.Proofs.YtjbboklnegfohaaGreatDoor

/- Contracts: programs from texts (spec.ParseProgram). -/
namespace Go.Proofs.YtjbboklnegfohaaGreatDoor
open Go Go.RowKit Go.Proofs
def Cms.invs:Cms→Prop
 | .nil=>True
 | .cons _ _ _ _ i body els r=>(i.facts.length≤12∧i.atoms.length≤6)∧body.invs∧els.invs∧r.invs
theorem Cms.invs_small {n:Nat} (h12:12≤n):∀ {L:Cms},L.invs→L.sz≤n→L.small n
 | .nil,_,_=>trivial
 | .cons k a b t i body els r,h,hs=>by
  simp only[Cms.sz] at hs
  have h1:=Cms.len_sz body
  have h2:=Cms.len_sz els
  exact ⟨by have:=h.1.1;omega,by have:=h.1.2;omega,by omega,by omega,Cms.invs_small h12 h.2.1 (by omega),Cms.invs_small h12 h.2.2.1 (by omega),Cms.invs_small h12 h.2.2.2 (by omega)⟩
theorem pA_short (l:Bs):(pA l).facts.length≤12∧(pA l).atoms.length≤6:=by
 unfold pA
 cases h:parseA l with
 | none=>simp
 | some a=>exact Asn.valid_len (parseA_valid h).1
theorem headF_short (l:Bs):(headF l).i.facts.length≤12∧(headF l).i.atoms.length≤6:=by
 unfold headF
 split
 ·simp[asgnPF]
 ·unfold wordF
  repeat' split
  ·simp
  ·simp
  ·simp
  ·exact pA_short _
theorem one1_invs {l:Bs} {body els r:Cms} (h1:body.invs) (h2:els.invs) (h3:r.invs):(Cms.one1 (headF l) body els r).invs:=⟨headF_short l,h1,h2,h3⟩
theorem blkF_invs (ls:List Bs):∀ (n p d:Nat),(blkF ls n p d).1.invs
 | 0,p,d=>trivial
 | n+1,p,d=>by
  have I:=blkF_invs ls n
  unfold blkF
  split
  ·split
   ·split
    ·trivial
    ·split
     ·rename_i body hb
      exact one1_invs (by have:=I (p+1) (d - 1);rw[hb] at this;exact this) trivial trivial
     ·rename_i body m hb
      have hbi:body.invs:=by have:=I (p+1) (d - 1);rw[hb] at this;exact this
      split
      ·split
       ·rename_i els he
        exact one1_invs hbi (by have:=I (m+1) (d - 1);rw[he] at this;exact this) trivial
       ·rename_i els q he
        exact one1_invs hbi (by have:=I (m+1) (d - 1);rw[he] at this;exact this) (I _ _)
      ·exact one1_invs hbi trivial (I _ _)
   ·exact one1_invs trivial trivial (I _ _)
  ·trivial
theorem blkF_sz (ls:List Bs):∀ (n p d:Nat),(∀ m,(blkF ls n p d).2=some m→(blkF ls n p d).1.sz+p≤m)∧((blkF ls n p d).2=none→(blkF ls n p d).1.sz+p≤ls.length+d)
 | 0,p,d=>⟨fun m h=>by simp[blkF] at h;simp[blkF,Cms.sz];omega,fun h=>by simp[blkF] at h⟩
 | n+1,p,d=>by
  have I:=blkF_sz ls n
  unfold blkF
  split
  ·rename_i hc
   split
   ·split
    ·exact ⟨fun m h=>by simp at h,fun _=>by simp only[Cms.sz];omega⟩
    ·rename_i hd
     split
     ·rename_i body hb
      have h1:=(I (p+1) (d - 1)).2
      rw[hb] at h1
      have h1:=h1 rfl
      exact ⟨fun m h=>by simp at h,fun _=>by simp only[Cms.one1,Cms.sz];simp only at h1;omega⟩
     ·rename_i body m hb
      have h1:=(I (p+1) (d - 1)).1 m
      rw[hb] at h1
      have h1:=h1 rfl
      simp only at h1
      split
      ·split
       ·rename_i els he
        have h2:=(I (m+1) (d - 1)).2
        rw[he] at h2
        have h2:=h2 rfl
        simp only at h2
        exact ⟨fun m h=>by simp at h,fun _=>by simp only[Cms.one1,Cms.sz];omega⟩
       ·rename_i els q he
        have h2:=(I (m+1) (d - 1)).1 q
        rw[he] at h2
        have h2:=h2 rfl
        simp only at h2
        have h3:=I (q+1) d
        refine ⟨fun r h=>?_,fun h=>?_⟩
        ·have:=h3.1 r h;simp only[Cms.one1,Cms.sz];omega
        ·have:=h3.2 h;simp only[Cms.one1,Cms.sz];omega
      ·have h3:=I (m+1) d
       refine ⟨fun r h=>?_,fun h=>?_⟩
       ·have:=h3.1 r h;simp only[Cms.one1,Cms.sz];omega
       ·have:=h3.2 h;simp only[Cms.one1,Cms.sz];omega
   ·have h3:=I (p+1) d
    refine ⟨fun r h=>?_,fun h=>?_⟩
    ·have:=h3.1 r h;simp only[Cms.one1,Cms.sz];omega
    ·have:=h3.2 h;simp only[Cms.one1,Cms.sz];omega
  ·rename_i hc
   exact ⟨fun m h=>by injection h with h;simp only[Cms.sz];omega,fun h=>by cases h⟩
theorem readP_sz {l:Bs} (h:l.length≤4000):(readP l).sz≤4010:=by
 unfold readP
 have hl:=splitA_len 10 l []
 change (splitL 10 l).length≤_ at hl
 have h1:=blkF_sz (splitL 10 l) ((splitL 10 l).length+1) 0 4
 cases e:(blkF (splitL 10 l) ((splitL 10 l).length+1) 0 4).2 with
 | none=>have:=h1.2 e;omega
 | some m=>have:=h1.1 m e;have:=blkF_le _ _ _ _ e;omega
theorem splitA_short (c:UInt8):∀ (l acc:Bs),∀ x∈splitA c acc l,x.length≤acc.length+l.length
 | [],acc,x,h=>by simp[splitA] at h;subst h;simp
 | y :: r,acc,x,h=>by
  unfold splitA at h
  split at h
  ·rcases List.mem_cons.1 h with rfl|h
   ·simp
   ·have:=splitA_short c r [] x h;simp at this ⊢;omega
  ·have:=splitA_short c r (acc++[y]) x h
   simp at this ⊢;omega
set_option maxRecDepth 100000 in
set_option maxHeartbeats 3200000 in
theorem c_ParseProgram (l:Bs) (w:World) (hl:l.length≤1049000):Calls Tryz.prog 12 #[sv l] w fun e w'=>∃ v,e=.returned (.tuple #[v,.bool (parsesP l)])∧CmsN w' w.heap.size v (parseP l)∧Below w.heap.size w w':=by
 by_cases h4:l.length≤4000
 ·have h4i:¬(4000:Int)<(l.length:Int):=by omega
  have hz:=readP_sz h4
  have hinv:(readP l).invs:=blkF_invs _ _ _ _
  have hsm:=Lib.hid (Cms.invs_small (n:=1049600) (by omega) hinv (by omega))
  have hlen:=Cms.len_sz (readP l)
  have hb:=Lib.hid (fun lo hi A c W hV=>c_l8Block 4 (by omega) lo hi A c (splitL 10 l) 0 ((splitL 10 l).length+1) W hV (fun x hx=>by have:=splitA_short 10 l [] x hx;simp at this;omega) (by have:=splitA_len 10 l [];change (splitL 10 l).length≤_ at this;omega) (Nat.zero_le _) (by omega))
  have hP:Hid (parsesP l=(decide (fmtP (readP l)=l)&&(readP l).prog)):=Lib.hid (by unfold parsesP;rw[decide_eq_true h4,Bool.true_and])
  have hQ:Hid (parseP l=if parsesP l then readP l else .nil):=Lib.hid rfl
  rw[show (blkF (splitL 10 l) ((splitL 10 l).length+1) 0 4).1=readP l from rfl] at hb
  obtain ⟨L,hL⟩:∃ L,L=readP l:=⟨_,rfl⟩
  obtain ⟨nx,hnx⟩:∃ nx,nx=(blkF (splitL 10 l) ((splitL 10 l).length+1) 0 4).2:=⟨_,rfl⟩
  rw[←hL] at hz hsm hlen hb hP hQ
  rw[←hnx] at hb
  obtain ⟨ls,hls⟩:∃ ls,ls=splitL 10 l:=⟨_,rfl⟩
  rw[←hls] at hb
  replace hls:=Lib.hid hls
  clear hinv hL hnx
  have cF:=Lib.hid (fun (lo hi:Nat) A c W h=>c_FormatProgram (lo:=lo) (hi:=hi) L A c W h (by omega) hsm.out (by omega))
  have cV:=Lib.hid (fun (lo hi:Nat) A c W h=>c_spec_ProgramValid (lo:=lo) (hi:=hi) L A c W h (by omega) hsm.out (by omega))
  clear hz hlen hsm
  go_enter Tryz.func12,Tryz.ntmps12
  go_wp2_with fail
  refine (c_l18Cut l 10 _ hl).mono ?_
  rintro e w1 ⟨r1,rfl,o1,hB1⟩
  obtain ⟨A1,d1,rfl,v1⟩:=o1.reads
  rw[←hls.out] at v1 ⊢
  have HB1:=Lib.hid hB1
  have HV1:=Lib.hid v1
  clear v1 o1 hB1 hls
  go_wp2_with fail
  refine (hb.out _ _ _ _ _ HV1.out).mono ?_
  rintro e w2 ⟨v,rfl,N2,hB2⟩
  obtain ⟨A2,d2,rfl,V2⟩:=N2.reads
  have HB2:=Lib.hid (bgo HB1.out hB2)
  have HN2:=Lib.hid (N2.lower (base':=w.heap.size) HB1.out.size)
  have HV2:=Lib.hid V2
  clear N2 V2 hB2 hb HB1
  go_wp2_with fail
  refine (cF.out _ _ _ _ _ HV2.out).mono ?_
  rintro e w3 ⟨rfl,hB3⟩
  have HB3:=Lib.hid (bgo HB2.out hB3)
  have HN3:=Lib.hid (HN2.out.below hB3)
  have HV3:=Lib.hid (HV2.out.below hB3)
  clear hB3 HN2 HV2 HB2
  obtain ⟨T,hT⟩:∃ T,T=fmtP L:=⟨_,rfl⟩
  rw[←hT] at hP ⊢
  clear hT
  by_cases ht:T=l
  ·subst ht
   go_wp2_with fail
   refine (cV.out _ _ _ _ _ HV3.out).mono ?_
   rintro e w4 ⟨rfl,hB4⟩
   have HB4:=Lib.hid (bgo HB3.out hB4)
   have HN4:=Lib.hid (HN3.out.below hB4)
   clear hB4 HN3 HB3
   cases hp:L.prog
   ·have hE:Hid (parsesP T=false):=Lib.hid (by rw[hP.out,hp];simp)
    have hF:Hid (parseP T=.nil):=Lib.hid (by rw[hQ.out,hE.out];rfl)
    clear hp
    go_wp2_with fail
    refine bodyPost_ret (v:=.tuple #[.slice (some ⟨w4.heap.size,0,none⟩) 0 0,.bool false]) (by simp[results,Tryz.results12,go_sem]) rfl ⟨_,by rw[hE.out],by rw[hF.out];exact CmsN.empty _ HB4.out.size,HB4.out.alloc HB4.out.size _⟩
   ·have hE:Hid (parsesP T=true):=Lib.hid (by rw[hP.out,hp];simp)
    have hF:Hid (parseP T=L):=Lib.hid (by rw[hQ.out,hE.out];rfl)
    clear hp
    go_wp2_with fail
    refine bodyPost_ret (v:=.tuple #[.slice A2 L.len d2,.bool true]) (by simp[results,Tryz.results12,go_sem]) rfl ⟨_,by rw[hE.out],by rw[hF.out];exact HN4.out,HB4.out⟩
  ·have htb:(T == l)=false:=by rw[bytes_eq];simpa using ht
   have hE:Hid (parsesP l=false):=Lib.hid (by rw[hP.out,decide_eq_false ht];rfl)
   have hF:Hid (parseP l=.nil):=Lib.hid (by rw[hQ.out,hE.out];rfl)
   clear ht
   go_wp2_with fail
   refine bodyPost_ret (v:=.tuple #[.slice (some ⟨w3.heap.size,0,none⟩) 0 0,.bool false]) (by simp[results,Tryz.results12,go_sem]) rfl ⟨_,by rw[hE.out],by rw[hF.out];exact CmsN.empty _ HB3.out.size,HB3.out.alloc HB3.out.size _⟩
 ·have h4i:(4000:Int)<(l.length:Int):=by omega
  have hE:Hid (parsesP l=false):=Lib.hid (by unfold parsesP;rw[decide_eq_false h4];rfl)
  have hF:Hid (parseP l=.nil):=Lib.hid (by unfold parseP;rw[hE.out];rfl)
  clear h4
  go_enter Tryz.func12,Tryz.ntmps12
  go_wp2_with fail
  refine bodyPost_ret (v:=.tuple #[.slice (some ⟨w.heap.size,0,none⟩) 0 0,.bool false]) (by simp[results,Tryz.results12,go_sem]) rfl ⟨_,by rw[hE.out],by rw[hF.out];exact CmsN.empty _ (Nat.le_refl _),bbox (Below.refl _ _) _⟩
end Go.Proofs.YtjbboklnegfohaaGreatDoor

/- Contracts: the text of a contract (both). -/
namespace Go.Proofs.YtjbboklnegfohaaGreatDoor
open Go Go.RowKit Go.Proofs
def changesT (xs:List Int):Bs:=(xs.map fun x=>[32]++tnameL x).flatten
def headT (k:Ctr):Bs:=([112,114,101,32]++textA k.pre++[10])++([112,111,115,116,32]++textA k.post++[10])++[99,104,97,110,103,101,115]
def fmtC (k:Ctr):Bs:=if k.valid then headT k++changesT k.changes++[10] else []
section
variable {w w':World} {lo hi B g:Nat}
theorem Blk.nb {t:TypeId} {cs:Array Value} (h:Blk w g t cs) (hb:Below B w w') (hg:g<B):Blk w' g t cs:=(hb.block g hg).trans h
theorem TN.nb (h:TN w) (hb:Below B w w') (hg:0<B):TN w':=⟨Nat.lt_of_lt_of_le h.1 hb.size,fun i hi=>by
 have:=hb.block 0 hg
 rw[show w'.cell? ⟨0,i,none⟩=w.cell? ⟨0,i,none⟩ by simp only[World.cell?,this]]
 exact h.2 i hi⟩
theorem bld_below {b:Nat} {bs:List Value} (h:Lib.IsBuilder tBd 5 B b bs w) (hb:Below w.heap.size w w'):Lib.IsBuilder tBd 5 B b bs w':=by
 have:∀ p,Lib.BuilderAt tBd 5 B b p bs w→Lib.BuilderAt tBd 5 B b p bs w':=fun p h=>by
  have hlt:=h.lt
  obtain ⟨hB,v,e,o,n⟩:=h
  exact ⟨hB,v,by rw[hb.block b hlt];exact e,own_below o hb,n⟩
 exact h.imp (this _) (this _)
theorem bld_new (w:World):Lib.IsBuilder tBd 5 w.heap.size w.heap.size (Lib.byteCells []) (w.alloc (.cells #[.pointer none,.slice none 0 0] tBd)):=.inl ⟨Nat.le_refl _,.slice none 0 0,Blk.new w tBd #[.pointer none,.slice none 0 0],World.ownsRow_nil _ _ _ _,by simp[Value.ownBlock]⟩
end
end Go.Proofs.YtjbboklnegfohaaGreatDoor

/- Plain: both readers of a contract accept exactly the texts of the valid contracts. -/
namespace Go.Proofs.YtjbboklnegfohaaGreatDoor
open Go Go.RowKit Go.Proofs
def two (l:Bs) (cs:List Int):Option Asn→Option Asn→Option Ctr
 | some p,some q=>if fmtC ⟨p,q,cs⟩=l then some ⟨p,q,cs⟩ else none
 | _,_=>none
/-! changes -/
theorem prefix_back {a p:Bs} (h:Lib.hasPrefix a p=true):a=p++Lib.trimPrefix a p:=by
 have h':=h
 unfold Lib.hasPrefix at h
 obtain ⟨t,ht⟩:=List.isPrefixOf_iff_prefix.1 h
 unfold Lib.trimPrefix
 rw[if_pos h',←ht]
 simp
theorem prefix_of (p t:Bs):Lib.hasPrefix (p++t) p=true:=by
 unfold Lib.hasPrefix;exact List.isPrefixOf_iff_prefix.2 ⟨t,rfl⟩
theorem trim_of (p t:Bs):Lib.trimPrefix (p++t) p=t:=by
 unfold Lib.trimPrefix;rw[if_pos (prefix_of p t)];simp
/-! contracts -/
def L2 (k:Ctr):Bs:=[112,111,115,116,32]++textA k.post
end Go.Proofs.YtjbboklnegfohaaGreatDoor
