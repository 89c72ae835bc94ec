/- Programs: validity, the spec's way. -/
import Derived.Test.YtgdfdmjnadnlnaaGreatMRunP
import Derived.Deep.RegionHeld3
set_option linter.unusedSimpArgs false
set_option linter.unusedVariables false
set_option maxRecDepth 100000
set_option maxHeartbeats 25600000
namespace Go.Proofs.YtgdfdmjnadnlnaaGreat
section
open Go Go.RowKit Go.Proofs
theorem c_spec_l8Basic (k a b:Int) (t:Fct) (i:Asn) (A1 A2 A3 A4:Option Addr) (c1 c2 c3 c4:Nat) (body els:Cms) (w:World) (h1:i.facts.length≤1049600) (h2:i.atoms.length≤1049600) (h3:body.len≤1049600) (h4:els.len≤1049600) :
  Calls Tryz.prog 97 #[.agg #[.int .i64 k,.int .i64 a,.int .i64 b,.bool t.eq,.int .i64 t.a,.int .i64 t.b,.slice A1 i.facts.length c1,.slice A2 i.atoms.length c2,.slice A3 body.len c3,.slice A4 els.len c4]] w fun e w'=>e=.returned (.bool (plainB t i body els&&fieldsB k a b))∧Below w.heap.size w w':=by
 cases hn:plainB t i body els
 ·exact c_spec_l8Basic_no k a b t i A1 A2 A3 A4 c1 c2 c3 c4 body els w h1 h2 h3 h4 hn
 ·exact c_spec_l8Basic_yes k a b t i A1 A2 A3 A4 c1 c2 c3 c4 body els w h1 h2 hn
theorem and4 {R F x y z:Bool} (h:R=(F&&(x&&(y&&z)))):(F=false→R=false)∧(x=false→R=false)∧(y=false→R=false)∧(F=true→x=true→y=true→R=z):=by
 subst h;cases F<;>cases x<;>cases y<;>simp
theorem l8Shape_go:∀ (N:Nat) (L:Cms),L.sz<N→∀ (A:Option Addr) (c d lo hi:Nat) (w:World),CmsV w lo hi A L→L.len≤1049600→L.small 1049600→d≤4→
  Calls Tryz.prog 119 #[.slice A L.len c,.int .i64 d] w fun e w'=>e=.returned (.bool (L.shape d))∧Below w.heap.size w w':=by
 intro N
 induction N with
 | zero=>intro L h;omega
 | succ N IH=>
  intro L hsz A c d lo hi w hV hlen hsm hd;replace IH:=ax IH;replace hV:=ax hV;replace hsm:=ax hsm;replace hsz:=ax hsz;obtain ⟨n,hn⟩:∃ n,n=L.len:=⟨_,rfl⟩;obtain ⟨R,hR⟩:∃ R,R=L.shape d:=⟨_,rfl⟩;rw[←hn,←hR];rw[←hn] at hlen;replace hn:=ax hn;replace hR:=ax hR;rcases Nat.eq_zero_or_pos d with rfl|hd0
  ·by_cases q1:0<n
   ·(go_enter Tryz.func119,Tryz.ntmps119);(go_wp2_with fail);go_ret;refine ⟨ret_bool ?_,bel⟩;rw[hR.o];obtain ⟨k,a,b,t,i,body,els,r,eL⟩:=Cms.cons_of_len (L:=L) (by rw[←hn.o];exact q1);rw[eL];rfl
   ·obtain rfl:n=0:=by omega
    have e0:R=true:=by
     rw[hR.o]
     have e1:L=.nil:=by
      have:=hn.o
      cases L with
      | nil=>rfl
      | cons=>simp[Cms.len] at this
     rw[e1];rfl
    replace e0:=ax e0;(go_enter Tryz.func119,Tryz.ntmps119);(go_wp2_with fail)
    go_loopw [5] (fun x wr=>x=.int .i64 0∧Below w.heap.size w wr) (fun _ _=>0)
    case atStart=>exact ⟨rfl,bel⟩
    case round=>
     obtain ⟨rfl,hB⟩:=hrel;(go_wp2_with fail);go_ret;exact ⟨ret_bool e0.o.symm,hB⟩
  obtain ⟨d,rfl⟩:∃ e,d=e+1:=⟨d - 1,by omega⟩;clear hd0;(go_enter Tryz.func119,Tryz.ntmps119);(go_wp2_with fail)
  go_loopw [5] (fun x wr=>∃ j:Nat,j≤n∧x=.int .i64 j∧aJ (R=(L.drop j).shape (d+1))∧Below w.heap.size w wr) (fun x _=>n - (intOf x).toNat)
  case atStart=>exact ⟨0,Nat.zero_le _,rfl,hR,bel⟩
  case round=>
   obtain ⟨j,hj,rfl,HR,hB⟩:=hrel;by_cases hlt:j<n
   ·have hpos:0<(L.drop j).len:=by rw[Cms.drop_len,←hn.o];omega
    obtain ⟨k,a,b,t,i,body,els,r,eL⟩:=Cms.cons_of_len hpos;obtain ⟨bl,o,rfl,-,-,hAt⟩:=(hV.o.bz hB) (by rw[←hn.o];omega);have hD:=hAt.drop j;have hS:=Cms.small_drop j hsm.o;have hZ:=Cms.sz_drop j L;have hDs:=Cms.drop_succ j L eL;have HR':=HR.o;rw[eL] at hD hS hZ HR';obtain ⟨⟨p0,p1,p2,p3,p4,p5⟩,⟨A6,c6,p6,g6⟩,⟨A7,c7,p7,g7⟩,⟨A8,c8,p8,g8⟩,⟨A9,c9,p9,g9⟩,-⟩:=hD;obtain ⟨s1,s2,s3,s4,s5,s6,-⟩:=hS;simp only[Cms.sz] at hZ;have hbs:body.sz<N:=by have:=hsz.o;omega
    have hes:els.sz<N:=by have:=hsz.o;omega
    have gA:aJ (AsnV wr lo hi (.agg #[.slice A6 i.facts.length c6,.slice A7 i.atoms.length c7]) i):=⟨_,_,_,_,rfl,⟨g6,s1⟩,⟨g7,s2⟩⟩;have gB:aJ (CmsV wr lo hi A8 body):=g8;have gE:aJ (CmsV wr lo hi A9 els):=g9;rw[Cms.shape,decide_eq_true (by omega),Bool.true_and,Nat.add_sub_cancel,←hDs] at HR';obtain ⟨F,hF⟩:∃ F,F=fvalB k a b t i body els:=⟨_,rfl⟩;obtain ⟨x1,hx1⟩:∃ x,x=body.shape d:=⟨_,rfl⟩;obtain ⟨x2,hx2⟩:∃ x,x=els.shape d:=⟨_,rfl⟩;rw[←hF,←hx1,←hx2] at HR';obtain ⟨z1,z2,z3,z4⟩:=and4 HR';replace z1:=ax z1;replace z2:=ax z2;replace z3:=ax z3;replace z4:=ax z4;replace hF:=ax hF;replace hx1:=ax hx1;replace hx2:=ax hx2;replace hbs:=ax hbs;replace hes:=ax hes;replace s5:=ax s5;replace s6:=ax s6;obtain ⟨tv,htv⟩:∃ x,x=t.valid:=⟨_,rfl⟩;obtain ⟨ni,hni⟩:∃ x,x=noAsn i:=⟨_,rfl⟩;obtain ⟨iv,hiv⟩:∃ x,x=i.valid:=⟨_,rfl⟩;obtain ⟨pf,hpf⟩:∃ x,x=(plainB t i body els&&fieldsB k a b):=⟨_,rfl⟩;replace htv:=ax htv;replace hni:=ax hni;replace hiv:=ax hiv;replace hpf:=ax hpf;clear hZ hpos hAt g6 g7 g8 g9 HR HR' hDs eL;by_cases k6:k=6
    ·subst k6;by_cases a0:a=0
     case neg=>
      (go_wp2_with fail);go_ret;exact ⟨ret_bool (z1.o (hF.o.trans (by unfold fvalB;rw[if_pos rfl];simp[a0]))).symm,(bbox hB _)⟩
     subst a0;by_cases b0:b=0
     case neg=>
      (go_wp2_with fail);go_ret;exact ⟨ret_bool (z1.o (hF.o.trans (by unfold fvalB;rw[if_pos rfl];simp[b0]))).symm,(bbox hB _)⟩
     subst b0;(go_wp2_with fail);refine (c_spec_FactValid t _).mono ?_;rintro e w1 ⟨rfl,hBx⟩;rw[←htv.o];have hB2:Below w.heap.size w w1:=bgo (bbox hB _) hBx;have k0:Blk w1 wr.heap.size tC #[.int .i64 6,.int .i64 0,.int .i64 0,.bool t.eq,.int .i64 t.a,.int .i64 t.b,.slice A6 i.facts.length c6,.slice A7 i.atoms.length c7,.slice A8 body.len c8,.slice A9 els.len c9]:=Blk.nz blks hBx;have q0:=k0.cell;have l0:=k0.lt;have hW:Below wr.heap.size wr w1:=bgo (bbox (Below.refl _ _) _) hBx;clear hBx;cases tv
     case false=>
      (go_wp2_with fail);go_ret;exact ⟨ret_bool (z1.o (hF.o.trans (by unfold fvalB;rw[if_pos rfl];simp[←htv.o]))).symm,hB2⟩
     (go_wp2_with fail);refine (c_spec_l8NoInv A6 A7 c6 c7 i _ s1 s2).mono ?_;rintro e w2 ⟨rfl,hBx⟩;rw[←hni.o];replace hB2:=bgo hB2 hBx;replace k0:=k0.nz hBx;replace q0:=k0.cell;replace l0:=k0.lt;replace hW:=bgo hW hBx;clear hBx;cases ni
     case false=>
      (go_wp2_with fail);go_ret;exact ⟨ret_bool (z1.o (hF.o.trans (by unfold fvalB;rw[if_pos rfl];simp[←hni.o]))).symm,hB2⟩
     have HFt:=ax (show F=true from hF.o.trans (by unfold fvalB;rw[if_pos rfl];simp[←hni.o,←htv.o]));(go_wp2_with fail);refine (IH.o body hbs.o A8 c8 d lo hi _ (gB.o.bz hW) s3 s5.o (by omega)).mono ?_;rintro e w8 ⟨rfl,hBx⟩;rw[←hx1.o];replace hB2:=bgo hB2 hBx;replace k0:=k0.nz hBx;replace q0:=k0.cell;replace l0:=k0.lt;replace hW:=bgo hW hBx;clear hBx;cases x1
     ·(go_wp2_with fail);go_ret;exact ⟨ret_bool (z2.o (by simp)).symm,hB2⟩
     (go_wp2_with fail);refine (IH.o els hes.o A9 c9 d lo hi _ (gE.o.bz hW) s4 s6.o (by omega)).mono ?_;rintro e w9 ⟨rfl,hBx⟩;rw[←hx2.o];replace hB2:=bgo hB2 hBx;replace k0:=k0.nz hBx;replace q0:=k0.cell;replace l0:=k0.lt;clear hBx hW;cases x2
     ·(go_wp2_with fail);go_ret;exact ⟨ret_bool (z3.o (by simp)).symm,hB2⟩
     go_wp2_with fail
     go_round
     case rel=>exact ⟨j+1,by omega,by go_num,ax (z4.o HFt.o (by simp) (by simp)),hB2⟩
     case measure=>simp[intOf];omega
    by_cases k7:k=7
    ·subst k7;by_cases a0:a=0
     case neg=>
      (go_wp2_with fail);go_ret;exact ⟨ret_bool (z1.o (hF.o.trans (by unfold fvalB;rw[if_neg (by decide),if_pos rfl];simp[a0]))).symm,(bbox hB _)⟩
     subst a0;by_cases b0:b=0
     case neg=>
      (go_wp2_with fail);go_ret;exact ⟨ret_bool (z1.o (hF.o.trans (by unfold fvalB;rw[if_neg (by decide),if_pos rfl];simp[b0]))).symm,(bbox hB _)⟩
     subst b0;(go_wp2_with fail);refine (c_spec_FactValid t _).mono ?_;rintro e w4 ⟨rfl,hBx⟩;rw[←htv.o];have hB2:Below w.heap.size w w4:=bgo (bbox hB _) hBx;have k0:Blk w4 wr.heap.size tC #[.int .i64 7,.int .i64 0,.int .i64 0,.bool t.eq,.int .i64 t.a,.int .i64 t.b,.slice A6 i.facts.length c6,.slice A7 i.atoms.length c7,.slice A8 body.len c8,.slice A9 els.len c9]:=Blk.nz blks hBx;have q0:=k0.cell;have l0:=k0.lt;have hW:Below wr.heap.size wr w4:=bgo (bbox (Below.refl _ _) _) hBx;clear hBx;cases tv
     case false=>
      (go_wp2_with fail);go_ret;exact ⟨ret_bool (z1.o (hF.o.trans (by unfold fvalB;rw[if_neg (by decide),if_pos rfl];simp[←htv.o]))).symm,hB2⟩
     (go_wp2_with fail);refine (c_spec_AssertionValid _ i _ (gA.o.bz hW)).mono ?_;rintro e w5 ⟨rfl,hBx⟩;rw[←hiv.o];replace hB2:=bgo hB2 hBx;replace k0:=k0.nz hBx;replace q0:=k0.cell;replace l0:=k0.lt;replace hW:=bgo hW hBx;clear hBx;cases iv
     case false=>
      (go_wp2_with fail);go_ret;exact ⟨ret_bool (z1.o (hF.o.trans (by unfold fvalB;rw[if_neg (by decide),if_pos rfl];simp[←hiv.o]))).symm,hB2⟩
     by_cases e0:els.len=0
     case neg=>
      have e1:0<els.len:=by omega
      (go_wp2_with fail);go_ret;exact ⟨ret_bool (z1.o (hF.o.trans (by unfold fvalB;rw[if_neg (by decide),if_pos rfl];simp[e0]))).symm,hB2⟩
     have HFt0:=ax (show F=true from hF.o.trans (by unfold fvalB;rw[if_neg (by decide),if_pos rfl];simp[←hiv.o,←htv.o,e0]));have HI2:aJ (∀ (w:World),CmsV w lo hi A9 els→Calls Tryz.prog 119 #[.slice A9 0 c9,.int .i64 d] w fun e w'=>e=.returned (.bool (els.shape d))∧Below w.heap.size w w'):=fun w h=>by have h2:=IH.o els hes.o A9 c9 d lo hi w h s4 s6.o (by omega);rwa [e0] at h2
     rw[e0] at k0 q0;have He0:=ax e0;clear e0;have HFt:=ax (HFt0.o);(go_wp2_with fail);refine (IH.o body hbs.o A8 c8 d lo hi _ (gB.o.bz hW) s3 s5.o (by omega)).mono ?_;rintro e w8 ⟨rfl,hBx⟩;rw[←hx1.o];replace hB2:=bgo hB2 hBx;replace k0:=k0.nz hBx;replace q0:=k0.cell;replace l0:=k0.lt;replace hW:=bgo hW hBx;clear hBx;cases x1
     ·(go_wp2_with fail);go_ret;exact ⟨ret_bool (z2.o (by simp)).symm,hB2⟩
     (go_wp2_with fail);refine (HI2.o _ (gE.o.bz hW)).mono ?_;rintro e w9 ⟨rfl,hBx⟩;rw[←hx2.o];replace hB2:=bgo hB2 hBx;replace k0:=k0.nz hBx;replace q0:=k0.cell;replace l0:=k0.lt;clear hBx hW;cases x2
     ·(go_wp2_with fail);go_ret;exact ⟨ret_bool (z3.o (by simp)).symm,hB2⟩
     go_wp2_with fail
     go_round
     case rel=>exact ⟨j+1,by omega,by go_num,ax (z4.o HFt.o (by simp) (by simp)),hB2⟩
     case measure=>simp[intOf];omega
    have HFb:=ax (hF.o.trans ((fvalB_basic k6 k7).trans hpf.o.symm));(go_wp2_with fail);refine (c_spec_l8Basic k a b t i A6 A7 A8 A9 c6 c7 c8 c9 body els _ s1 s2 s3 s4).mono ?_;rintro e w7 ⟨rfl,hBx⟩;rw[←hpf.o];have hB2:Below w.heap.size w w7:=bgo (bbox hB _) hBx;have k0:Blk w7 wr.heap.size tC #[.int .i64 k,.int .i64 a,.int .i64 b,.bool t.eq,.int .i64 t.a,.int .i64 t.b,.slice A6 i.facts.length c6,.slice A7 i.atoms.length c7,.slice A8 body.len c8,.slice A9 els.len c9]:=Blk.nz blks hBx;have q0:=k0.cell;have l0:=k0.lt;have hW:Below wr.heap.size wr w7:=bgo (bbox (Below.refl _ _) _) hBx;clear hBx;cases pf
    case false=>
     (go_wp2_with fail);go_ret;exact ⟨ret_bool (z1.o HFb.o).symm,hB2⟩
    have HFt:=ax (HFb.o);(go_wp2_with fail);refine (IH.o body hbs.o A8 c8 d lo hi _ (gB.o.bz hW) s3 s5.o (by omega)).mono ?_;rintro e w8 ⟨rfl,hBx⟩;rw[←hx1.o];replace hB2:=bgo hB2 hBx;replace k0:=k0.nz hBx;replace q0:=k0.cell;replace l0:=k0.lt;replace hW:=bgo hW hBx;clear hBx;cases x1
    ·(go_wp2_with fail);go_ret;exact ⟨ret_bool (z2.o (by simp)).symm,hB2⟩
    (go_wp2_with fail);refine (IH.o els hes.o A9 c9 d lo hi _ (gE.o.bz hW) s4 s6.o (by omega)).mono ?_;rintro e w9 ⟨rfl,hBx⟩;rw[←hx2.o];replace hB2:=bgo hB2 hBx;replace k0:=k0.nz hBx;replace q0:=k0.cell;replace l0:=k0.lt;clear hBx hW;cases x2
    ·(go_wp2_with fail);go_ret;exact ⟨ret_bool (z3.o (by simp)).symm,hB2⟩
    go_wp2_with fail
    go_round
    case rel=>exact ⟨j+1,by omega,by go_num,ax (z4.o HFt.o (by simp) (by simp)),hB2⟩
    case measure=>simp[intOf];omega
   ·(go_wp2_with fail);go_ret;obtain rfl:j=n:=by omega
    have e1:L.drop j=.nil:=by rw[hn.o];exact Cms.drop_all L
    have h2:=HR.o;rw[e1] at h2;exact ⟨ret_bool h2.symm,hB⟩
end
end Go.Proofs.YtgdfdmjnadnlnaaGreat
