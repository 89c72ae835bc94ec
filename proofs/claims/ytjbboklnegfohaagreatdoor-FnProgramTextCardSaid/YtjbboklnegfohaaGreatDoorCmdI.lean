/- Programs: validity, the spec's way. -/
import Derived.Test.YtjbboklnegfohaaGreatDoorMPrgM
import Derived.Deep.RegionHeld3
set_option linter.unusedSimpArgs false
set_option linter.unusedVariables false
namespace Go.Proofs.YtjbboklnegfohaaGreatDoor
open Go Go.RowKit Go.Proofs
theorem c_spec_l8Basic (k a b:Int) (t:Fct) (i:Asn) (A1 A2 A3 A4:Option Addr) (c1 c2 c3 c4:Nat) (body els:Cms) (w:World) (h1:i.facts.length≤1049600) (h2:i.atoms.length≤1049600) (h3:body.len≤1049600) (h4:els.len≤1049600) :
  Calls Tryz.prog 40 #[.agg #[.int .i64 k,.int .i64 a,.int .i64 b,.bool t.eq,.int .i64 t.a,.int .i64 t.b,.slice A1 i.facts.length c1,.slice A2 i.atoms.length c2,.slice A3 body.len c3,.slice A4 els.len c4]] w fun e w'=>e=.returned (.bool (plainB t i body els&&fieldsB k a b))∧Below w.heap.size w w':=by
 cases hn:plainB t i body els
 ·exact c_spec_l8Basic_no k a b t i A1 A2 A3 A4 c1 c2 c3 c4 body els w h1 h2 h3 h4 hn
 ·exact c_spec_l8Basic_yes k a b t i A1 A2 A3 A4 c1 c2 c3 c4 body els w h1 h2 hn
theorem and4 {R F x y z:Bool} (h:R=(F&&(x&&(y&&z)))):(F=false→R=false)∧(x=false→R=false)∧(y=false→R=false)∧(F=true→x=true→y=true→R=z):=by
 subst h;cases F<;>cases x<;>cases y<;>simp
set_option maxRecDepth 100000 in
set_option maxHeartbeats 6400000 in
theorem l8Shape_go:∀ (N:Nat) (L:Cms),L.sz<N→∀ (A:Option Addr) (c d lo hi:Nat) (w:World),CmsV w lo hi A L→L.len≤1049600→L.small 1049600→d≤4→
  Calls Tryz.prog 18 #[.slice A L.len c,.int .i64 d] w fun e w'=>e=.returned (.bool (L.shape d))∧Below w.heap.size w w':=by
 intro N
 induction N with
 | zero=>intro L h;omega
 | succ N IH=>
  intro L hsz A c d lo hi w hV hlen hsm hd
  replace IH:=Lib.hid IH
  replace hV:=Lib.hid hV
  replace hsm:=Lib.hid hsm
  replace hsz:=Lib.hid hsz
  obtain ⟨n,hn⟩:∃ n,n=L.len:=⟨_,rfl⟩
  obtain ⟨R,hR⟩:∃ R,R=L.shape d:=⟨_,rfl⟩
  rw[←hn,←hR]
  rw[←hn] at hlen
  replace hn:=Lib.hid hn
  replace hR:=Lib.hid hR
  rcases Nat.eq_zero_or_pos d with rfl|hd0
  ·by_cases q1:0<n
   ·go_enter Tryz.func18,Tryz.ntmps18
    go_wp2_with fail
    go_ret
    refine ⟨ret_bool ?_,bel⟩
    rw[hR.out]
    obtain ⟨k,a,b,t,i,body,els,r,eL⟩:=Cms.cons_of_len (L:=L) (by rw[←hn.out];exact q1)
    rw[eL];rfl
   ·obtain rfl:n=0:=by omega
    have e0:R=true:=by
     rw[hR.out]
     have e1:L=.nil:=by
      have:=hn.out
      cases L with
      | nil=>rfl
      | cons=>simp[Cms.len] at this
     rw[e1];rfl
    replace e0:=Lib.hid e0
    go_enter Tryz.func18,Tryz.ntmps18
    go_wp2_with fail
    go_loopw [5] (fun x wr=>x=.int .i64 0∧Below w.heap.size w wr) (fun _ _=>0)
    case atStart=>exact ⟨rfl,bel⟩
    case round=>
     obtain ⟨rfl,hB⟩:=hrel
     go_wp2_with fail
     go_ret
     exact ⟨ret_bool e0.out.symm,hB⟩
  obtain ⟨d,rfl⟩:∃ e,d=e+1:=⟨d - 1,by omega⟩
  clear hd0
  go_enter Tryz.func18,Tryz.ntmps18
  go_wp2_with fail
  go_loopw [5] (fun x wr=>∃ j:Nat,j≤n∧x=.int .i64 j∧Hid (R=(L.drop j).shape (d+1))∧Below w.heap.size w wr) (fun x _=>n - (intOf x).toNat)
  case atStart=>exact ⟨0,Nat.zero_le _,rfl,hR,bel⟩
  case round=>
   obtain ⟨j,hj,rfl,HR,hB⟩:=hrel
   by_cases hlt:j<n
   ·have hpos:0<(L.drop j).len:=by rw[Cms.drop_len,←hn.out];omega
    obtain ⟨k,a,b,t,i,body,els,r,eL⟩:=Cms.cons_of_len hpos
    obtain ⟨bl,o,rfl,-,-,hAt⟩:=(hV.out.below hB) (by rw[←hn.out];omega)
    have hD:=hAt.drop j
    have hS:=Cms.small_drop j hsm.out
    have hZ:=Cms.sz_drop j L
    have hDs:=Cms.drop_succ j L eL
    have HR':=HR.out
    rw[eL] at hD hS hZ HR'
    obtain ⟨⟨p0,p1,p2,p3,p4,p5⟩,⟨A6,c6,p6,g6⟩,⟨A7,c7,p7,g7⟩,⟨A8,c8,p8,g8⟩,⟨A9,c9,p9,g9⟩,-⟩:=hD
    obtain ⟨s1,s2,s3,s4,s5,s6,-⟩:=hS
    simp only[Cms.sz] at hZ
    have hbs:body.sz<N:=by have:=hsz.out;omega
    have hes:els.sz<N:=by have:=hsz.out;omega
    have gA:Hid (AsnV wr lo hi (.agg #[.slice A6 i.facts.length c6,.slice A7 i.atoms.length c7]) i):=⟨_,_,_,_,rfl,⟨g6,s1⟩,⟨g7,s2⟩⟩
    have gB:Hid (CmsV wr lo hi A8 body):=g8
    have gE:Hid (CmsV wr lo hi A9 els):=g9
    rw[Cms.shape,decide_eq_true (by omega),Bool.true_and,Nat.add_sub_cancel,←hDs] at HR'
    obtain ⟨F,hF⟩:∃ F,F=fvalB k a b t i body els:=⟨_,rfl⟩
    obtain ⟨x1,hx1⟩:∃ x,x=body.shape d:=⟨_,rfl⟩
    obtain ⟨x2,hx2⟩:∃ x,x=els.shape d:=⟨_,rfl⟩
    rw[←hF,←hx1,←hx2] at HR'
    obtain ⟨z1,z2,z3,z4⟩:=and4 HR'
    replace z1:=Lib.hid z1
    replace z2:=Lib.hid z2
    replace z3:=Lib.hid z3
    replace z4:=Lib.hid z4
    replace hF:=Lib.hid hF
    replace hx1:=Lib.hid hx1
    replace hx2:=Lib.hid hx2
    replace hbs:=Lib.hid hbs
    replace hes:=Lib.hid hes
    replace s5:=Lib.hid s5
    replace s6:=Lib.hid s6
    obtain ⟨tv,htv⟩:∃ x,x=t.valid:=⟨_,rfl⟩
    obtain ⟨ni,hni⟩:∃ x,x=noAsn i:=⟨_,rfl⟩
    obtain ⟨iv,hiv⟩:∃ x,x=i.valid:=⟨_,rfl⟩
    obtain ⟨pf,hpf⟩:∃ x,x=(plainB t i body els&&fieldsB k a b):=⟨_,rfl⟩
    replace htv:=Lib.hid htv
    replace hni:=Lib.hid hni
    replace hiv:=Lib.hid hiv
    replace hpf:=Lib.hid hpf
    clear hZ hpos hAt g6 g7 g8 g9 HR HR' hDs eL
    by_cases k6:k=6
    ·subst k6
     by_cases a0:a=0
     case neg=>
      go_wp2_with fail
      go_ret
      exact ⟨ret_bool (z1.out (hF.out.trans (by unfold fvalB;rw[if_pos rfl];simp[a0]))).symm,(bbox hB _)⟩
     subst a0
     by_cases b0:b=0
     case neg=>
      go_wp2_with fail
      go_ret
      exact ⟨ret_bool (z1.out (hF.out.trans (by unfold fvalB;rw[if_pos rfl];simp[b0]))).symm,(bbox hB _)⟩
     subst b0
     go_wp2_with fail
     refine (c_spec_FactValid t _).mono ?_
     rintro e w1 ⟨rfl,hBx⟩
     rw[←htv.out]
     have hB2:Below w.heap.size w w1:=bgo (bbox hB _) hBx
     have k0:Blk w1 wr.heap.size tC #[.int .i64 6,.int .i64 0,.int .i64 0,.bool t.eq,.int .i64 t.a,.int .i64 t.b,.slice A6 i.facts.length c6,.slice A7 i.atoms.length c7,.slice A8 body.len c8,.slice A9 els.len c9]:=Blk.next blks hBx
     have q0:=k0.cell
     have l0:=k0.lt
     have hW:Below wr.heap.size wr w1:=bgo (bbox (Below.refl _ _) _) hBx
     clear hBx
     cases tv
     case false=>
      go_wp2_with fail
      go_ret
      exact ⟨ret_bool (z1.out (hF.out.trans (by unfold fvalB;rw[if_pos rfl];simp[←htv.out]))).symm,hB2⟩
     go_wp2_with fail
     refine (c_spec_l8NoInv A6 A7 c6 c7 i _ s1 s2).mono ?_
     rintro e w2 ⟨rfl,hBx⟩
     rw[←hni.out]
     replace hB2:=bgo hB2 hBx
     replace k0:=k0.next hBx
     replace q0:=k0.cell
     replace l0:=k0.lt
     replace hW:=bgo hW hBx
     clear hBx
     cases ni
     case false=>
      go_wp2_with fail
      go_ret
      exact ⟨ret_bool (z1.out (hF.out.trans (by unfold fvalB;rw[if_pos rfl];simp[←hni.out]))).symm,hB2⟩
     have HFt:=Lib.hid (show F=true from hF.out.trans (by unfold fvalB;rw[if_pos rfl];simp[←hni.out,←htv.out]))
     go_wp2_with fail
     refine (IH.out body hbs.out A8 c8 d lo hi _ (gB.out.below hW) s3 s5.out (by omega)).mono ?_
     rintro e w8 ⟨rfl,hBx⟩
     rw[←hx1.out]
     replace hB2:=bgo hB2 hBx
     replace k0:=k0.next hBx
     replace q0:=k0.cell
     replace l0:=k0.lt
     replace hW:=bgo hW hBx
     clear hBx
     cases x1
     ·go_wp2_with fail
      go_ret
      exact ⟨ret_bool (z2.out (by simp)).symm,hB2⟩
     go_wp2_with fail
     refine (IH.out els hes.out A9 c9 d lo hi _ (gE.out.below hW) s4 s6.out (by omega)).mono ?_
     rintro e w9 ⟨rfl,hBx⟩
     rw[←hx2.out]
     replace hB2:=bgo hB2 hBx
     replace k0:=k0.next hBx
     replace q0:=k0.cell
     replace l0:=k0.lt
     clear hBx hW
     cases x2
     ·go_wp2_with fail
      go_ret
      exact ⟨ret_bool (z3.out (by simp)).symm,hB2⟩
     go_wp2_with fail
     go_round
     case rel=>exact ⟨j+1,by omega,by go_num,Lib.hid (z4.out HFt.out (by simp) (by simp)),hB2⟩
     case measure=>simp[intOf];omega
    by_cases k7:k=7
    ·subst k7
     by_cases a0:a=0
     case neg=>
      go_wp2_with fail
      go_ret
      exact ⟨ret_bool (z1.out (hF.out.trans (by unfold fvalB;rw[if_neg (by decide),if_pos rfl];simp[a0]))).symm,(bbox hB _)⟩
     subst a0
     by_cases b0:b=0
     case neg=>
      go_wp2_with fail
      go_ret
      exact ⟨ret_bool (z1.out (hF.out.trans (by unfold fvalB;rw[if_neg (by decide),if_pos rfl];simp[b0]))).symm,(bbox hB _)⟩
     subst b0
     go_wp2_with fail
     refine (c_spec_FactValid t _).mono ?_
     rintro e w4 ⟨rfl,hBx⟩
     rw[←htv.out]
     have hB2:Below w.heap.size w w4:=bgo (bbox hB _) hBx
     have k0:Blk w4 wr.heap.size tC #[.int .i64 7,.int .i64 0,.int .i64 0,.bool t.eq,.int .i64 t.a,.int .i64 t.b,.slice A6 i.facts.length c6,.slice A7 i.atoms.length c7,.slice A8 body.len c8,.slice A9 els.len c9]:=Blk.next blks hBx
     have q0:=k0.cell
     have l0:=k0.lt
     have hW:Below wr.heap.size wr w4:=bgo (bbox (Below.refl _ _) _) hBx
     clear hBx
     cases tv
     case false=>
      go_wp2_with fail
      go_ret
      exact ⟨ret_bool (z1.out (hF.out.trans (by unfold fvalB;rw[if_neg (by decide),if_pos rfl];simp[←htv.out]))).symm,hB2⟩
     go_wp2_with fail
     refine (c_spec_AssertionValid _ i _ (gA.out.below hW)).mono ?_
     rintro e w5 ⟨rfl,hBx⟩
     rw[←hiv.out]
     replace hB2:=bgo hB2 hBx
     replace k0:=k0.next hBx
     replace q0:=k0.cell
     replace l0:=k0.lt
     replace hW:=bgo hW hBx
     clear hBx
     cases iv
     case false=>
      go_wp2_with fail
      go_ret
      exact ⟨ret_bool (z1.out (hF.out.trans (by unfold fvalB;rw[if_neg (by decide),if_pos rfl];simp[←hiv.out]))).symm,hB2⟩
     by_cases e0:els.len=0
     case neg=>
      have e1:0<els.len:=by omega
      go_wp2_with fail
      go_ret
      exact ⟨ret_bool (z1.out (hF.out.trans (by unfold fvalB;rw[if_neg (by decide),if_pos rfl];simp[e0]))).symm,hB2⟩
     have HFt0:=Lib.hid (show F=true from hF.out.trans (by unfold fvalB;rw[if_neg (by decide),if_pos rfl];simp[←hiv.out,←htv.out,e0]))
     have HI2:Hid (∀ (w:World),CmsV w lo hi A9 els→Calls Tryz.prog 18 #[.slice A9 0 c9,.int .i64 d] w fun e w'=>e=.returned (.bool (els.shape d))∧Below w.heap.size w w'):=fun w h=>by have h2:=IH.out els hes.out A9 c9 d lo hi w h s4 s6.out (by omega);rwa [e0] at h2
     rw[e0] at k0 q0
     have He0:=Lib.hid e0
     clear e0
     have HFt:=Lib.hid (HFt0.out)
     go_wp2_with fail
     refine (IH.out body hbs.out A8 c8 d lo hi _ (gB.out.below hW) s3 s5.out (by omega)).mono ?_
     rintro e w8 ⟨rfl,hBx⟩
     rw[←hx1.out]
     replace hB2:=bgo hB2 hBx
     replace k0:=k0.next hBx
     replace q0:=k0.cell
     replace l0:=k0.lt
     replace hW:=bgo hW hBx
     clear hBx
     cases x1
     ·go_wp2_with fail
      go_ret
      exact ⟨ret_bool (z2.out (by simp)).symm,hB2⟩
     go_wp2_with fail
     refine (HI2.out _ (gE.out.below hW)).mono ?_
     rintro e w9 ⟨rfl,hBx⟩
     rw[←hx2.out]
     replace hB2:=bgo hB2 hBx
     replace k0:=k0.next hBx
     replace q0:=k0.cell
     replace l0:=k0.lt
     clear hBx hW
     cases x2
     ·go_wp2_with fail
      go_ret
      exact ⟨ret_bool (z3.out (by simp)).symm,hB2⟩
     go_wp2_with fail
     go_round
     case rel=>exact ⟨j+1,by omega,by go_num,Lib.hid (z4.out HFt.out (by simp) (by simp)),hB2⟩
     case measure=>simp[intOf];omega
    have HFb:=Lib.hid (hF.out.trans ((fvalB_basic k6 k7).trans hpf.out.symm))
    go_wp2_with fail
    refine (c_spec_l8Basic k a b t i A6 A7 A8 A9 c6 c7 c8 c9 body els _ s1 s2 s3 s4).mono ?_
    rintro e w7 ⟨rfl,hBx⟩
    rw[←hpf.out]
    have hB2:Below w.heap.size w w7:=bgo (bbox hB _) hBx
    have k0:Blk w7 wr.heap.size tC #[.int .i64 k,.int .i64 a,.int .i64 b,.bool t.eq,.int .i64 t.a,.int .i64 t.b,.slice A6 i.facts.length c6,.slice A7 i.atoms.length c7,.slice A8 body.len c8,.slice A9 els.len c9]:=Blk.next blks hBx
    have q0:=k0.cell
    have l0:=k0.lt
    have hW:Below wr.heap.size wr w7:=bgo (bbox (Below.refl _ _) _) hBx
    clear hBx
    cases pf
    case false=>
     go_wp2_with fail
     go_ret
     exact ⟨ret_bool (z1.out HFb.out).symm,hB2⟩
    have HFt:=Lib.hid (HFb.out)
    go_wp2_with fail
    refine (IH.out body hbs.out A8 c8 d lo hi _ (gB.out.below hW) s3 s5.out (by omega)).mono ?_
    rintro e w8 ⟨rfl,hBx⟩
    rw[←hx1.out]
    replace hB2:=bgo hB2 hBx
    replace k0:=k0.next hBx
    replace q0:=k0.cell
    replace l0:=k0.lt
    replace hW:=bgo hW hBx
    clear hBx
    cases x1
    ·go_wp2_with fail
     go_ret
     exact ⟨ret_bool (z2.out (by simp)).symm,hB2⟩
    go_wp2_with fail
    refine (IH.out els hes.out A9 c9 d lo hi _ (gE.out.below hW) s4 s6.out (by omega)).mono ?_
    rintro e w9 ⟨rfl,hBx⟩
    rw[←hx2.out]
    replace hB2:=bgo hB2 hBx
    replace k0:=k0.next hBx
    replace q0:=k0.cell
    replace l0:=k0.lt
    clear hBx hW
    cases x2
    ·go_wp2_with fail
     go_ret
     exact ⟨ret_bool (z3.out (by simp)).symm,hB2⟩
    go_wp2_with fail
    go_round
    case rel=>exact ⟨j+1,by omega,by go_num,Lib.hid (z4.out HFt.out (by simp) (by simp)),hB2⟩
    case measure=>simp[intOf];omega
   ·go_wp2_with fail
    go_ret
    obtain rfl:j=n:=by omega
    have e1:L.drop j=.nil:=by rw[hn.out];exact Cms.drop_all L
    have h2:=HR.out
    rw[e1] at h2
    exact ⟨ret_bool h2.symm,hB⟩
end Go.Proofs.YtjbboklnegfohaaGreatDoor
