/- Contracts: the text of a program (impl.formatCommands, FormatProgram). -/
import Derived.Test.YtjbboklnegfohaaGreatDoorMPrgM
import Derived.Test.YtjbboklnegfohaaGreatDoorMPsM
import Derived.Test.YtjbboklnegfohaaGreatDoorMPrsQ
import Derived.Test.YtjbboklnegfohaaGreatDoorMAlloc
import Derived.Test.YtjbboklnegfohaaGreatDoorCmdJ
import Derived.Test.YtjbboklnegfohaaGreatDoorMFrame
import Derived.Deep.DeepCutAuto
import Derived.Test.YtjbboklnegfohaaGreatDoorMCmdV
set_option linter.unusedSimpArgs false
set_option linter.unusedVariables false
namespace Go.Proofs.YtjbboklnegfohaaGreatDoor
open Go Go.RowKit Go.Proofs
theorem fval6 {a b:Int} {t:Fct} {i:Asn} {body els:Cms} (h:fvalB 6 a b t i body els=true):t.valid=true:=by
 unfold fvalB at h
 simp only[if_true,Bool.and_eq_true] at h
 exact h.2.2.1
theorem fval7 {a b:Int} {t:Fct} {i:Asn} {body els:Cms} (h:fvalB 7 a b t i body els=true):t.valid=true∧i.valid=true∧els.len=0:=by
 unfold fvalB at h
 simp only[show (7:Int)≠6 by decide,if_false,if_true,Bool.and_eq_true,decide_eq_true_eq] at h
 exact ⟨h.2.2.1,h.2.2.2.1,h.2.2.2.2⟩
theorem fvalN {k a b:Int} {t:Fct} {i:Asn} {body els:Cms} (h6:k≠6) (h7:k≠7) (h:fvalB k a b t i body els=true):(1≤k∧k≤5)∧body.len=0∧els.len=0:=by
 rw[fvalB_basic h6 h7,Bool.and_eq_true] at h
 have h1:=fieldsB_basic h.2
 have h2:=h.1
 unfold plainB at h2
 simp only[Bool.and_eq_true,decide_eq_true_eq] at h2
 exact ⟨h1,by omega,by omega⟩
theorem lineN {k a b:Int} {t:Fct} {i i':Asn} (hk:1≤k∧k≤5):lineL k a b t i=lineL k a b t i':=by
 have:k=1∨k=2∨k=3∨k=4∨k=5:=by omega
 rcases this with rfl|rfl|rfl|rfl|rfl<;>simp[lineL]
theorem textL_len0 {L:Cms} (h:L.len=0):textL L=[]:=by
 cases L with
 | nil=>rfl
 | cons=>simp[Cms.len] at h
theorem line6 {a b:Int} {t:Fct} {i:Asn}:lineL 6 a b t i=[105,102,32]++fmtF t:=by unfold lineL;simp
theorem line7 {a b:Int} {t:Fct} {i:Asn}:lineL 7 a b t i=[119,104,105,108,101,32]++fmtF t++[32,119,105,116,104,32]++textA i:=by unfold lineL;simp
set_option maxRecDepth 100000 in
set_option maxHeartbeats 12800000 in
theorem fmtC_go:∀ (N:Nat) (L:Cms),L.sz<N→∀ (A:Option Addr) (c d lo hi:Nat) (w:World),CmsV w lo hi A L→L.len≤1049600→L.small 1049600→L.shape d=true→L.sz≤16→TN w→
  Calls Tryz.prog 14 #[.slice A L.len c] w fun e w'=>e=.returned (sv (textL L))∧Below w.heap.size w w':=by
 intro N
 induction N with
 | zero=>intro L h;omega
 | succ N IH=>
  intro L hsz A c d lo hi w hV hlen hsm hsh hcz hT
  replace IH:=Lib.hid IH
  replace hV:=Lib.hid hV
  replace hsm:=Lib.hid hsm
  replace hsz:=Lib.hid hsz
  have hw0:=hT.1
  have HT:=Lib.hid hT
  have hTL:=textL_len hsh
  obtain ⟨R,hR⟩:∃ R,R=textL L:=⟨_,rfl⟩
  have hRl:R.length≤4000:=by rw[hR];omega
  replace hcz:=Lib.hid hcz
  replace hsh:=Lib.hid hsh
  obtain ⟨n,hn⟩:∃ n,n=L.len:=⟨_,rfl⟩
  rw[←hn,←hR]
  rw[←hn] at hlen
  replace hn:=Lib.hid hn
  replace hR:=Lib.hid hR
  clear hTL hT
  go_enter Tryz.func14,Tryz.ntmps14
  go_upto_region 2 with fail
  have hD0:=bld_new w
  have hB0:Below w.heap.size w (w.alloc (.cells #[.pointer none,.slice none 0 0] tBd)):=bbox (Below.refl _ _) _
  generalize w.alloc (.cells #[.pointer none,.slice none 0 0] tBd)=W at hD0 hB0 ⊢
  replace hD0:=Lib.hid hD0
  replace hB0:=Lib.hid hB0
  obtain ⟨b0,hb0⟩:∃ b,b=w.heap.size:=⟨_,rfl⟩
  rw[←hb0] at hD0 ⊢
  have hbw:b0≤w.heap.size∧w.heap.size≤b0:=by omega
  replace hb0:=Lib.hid hb0
  go_wp2_with fail
  go_loopw [8] (fun x wr=>∃ (j:Nat) (X:Bs),j≤n∧x=.int .i64 j∧Hid (Lib.IsBuilder tBd 5 b0 b0 (Lib.byteCells X) wr)∧Hid (X++textL (L.drop j)=R)∧Hid (Below w.heap.size w wr)) (fun x _=>n - (intOf x).toNat)
  case atStart=>exact ⟨0,[],Nat.zero_le _,rfl,hD0,Lib.hid hR.out.symm,hB0⟩
  case round=>
   clear hD0 hB0
   obtain ⟨j,X,hj,rfl,HD,HR,HB⟩:=hrel
   have hXl:X.length≤4000:=by have h:=congrArg List.length HR.out;rw[List.length_append] at h;omega
   have hzr:=HB.out.size
   have HTr:=Lib.hid (HT.out.nb HB.out hw0)
   by_cases hlt:j<n
   ·have hlti:(j:Int)<(n:Int):=by omega
    have hpos:0<(L.drop j).len:=by rw[Cms.drop_len,←hn.out];omega
    obtain ⟨k,a,b,t,i,body,els,r,eL⟩:=Cms.cons_of_len hpos
    obtain ⟨bl,o,rfl,-,-,hAt⟩:=hV.out (by rw[←hn.out];omega)
    have hD:=hAt.drop j
    have hS:=Cms.small_drop j hsm.out
    have hZ:=Cms.sz_drop j L
    have hSh:=Cms.shape_drop j hsh.out
    have hDs:=Cms.drop_succ j L eL
    have HR':=HR.out
    rw[eL] at hD hS hZ HR' hSh
    obtain ⟨⟨p0,p1,p2,p3,p4,p5⟩,⟨A6,c6,p6,g6⟩,⟨A7,c7,p7,g7⟩,⟨A8,c8,p8,g8⟩,⟨A9,c9,p9,g9⟩,-⟩:=hD
    obtain ⟨s1,s2,s3,s4,s5,s6,-⟩:=hS
    have hbl:bl<w.heap.size:=block_lt_of_cell p0
    replace p0:=((bcell HB.out).1 bl _ hbl).trans p0
    replace p1:=((bcell HB.out).1 bl _ hbl).trans p1
    replace p2:=((bcell HB.out).1 bl _ hbl).trans p2
    replace p3:=((bcell HB.out).1 bl _ hbl).trans p3
    replace p4:=((bcell HB.out).1 bl _ hbl).trans p4
    replace p5:=((bcell HB.out).1 bl _ hbl).trans p5
    replace p6:=((bcell HB.out).1 bl _ hbl).trans p6
    replace p7:=((bcell HB.out).1 bl _ hbl).trans p7
    replace p8:=((bcell HB.out).1 bl _ hbl).trans p8
    replace p9:=((bcell HB.out).1 bl _ hbl).trans p9
    simp only[Cms.sz] at hZ
    simp only[Cms.shape,Bool.and_eq_true] at hSh
    have hbs:body.sz<N:=by have:=hsz.out;omega
    have hes:els.sz<N:=by have:=hsz.out;omega
    have hbz:body.sz≤16:=by have:=hcz.out;omega
    have hez:els.sz≤16:=by have:=hcz.out;omega
    have gI:AsnV w lo hi (.agg #[.slice A6 i.facts.length c6,.slice A7 i.atoms.length c7]) i:=⟨A6,c6,A7,c7,rfl,⟨g6,s1⟩,⟨g7,s2⟩⟩
    have hfi:=fval_inv hSh.2.1
    have hfv:=Lib.hid hSh.2.1
    have lbd:=textL_len hSh.2.2.1
    have lel:=textL_len hSh.2.2.2.1
    have lfm:=fmtF_len t
    have lta:=textA_len i
    rw[←hDs,textL_cons] at HR'
    have CB:=Lib.hid fun W (hB:Below w.heap.size w W) hT=>IH.out body hbs A8 c8 (d - 1) lo hi W (CmsV.below g8 hB) s3 s5 hSh.2.2.1 hbz hT
    have CE:=Lib.hid fun W (hB:Below w.heap.size w W) hT=>IH.out els hes A9 c9 (d - 1) lo hi W (CmsV.below g9 hB) s4 s6 hSh.2.2.2.1 hez hT
    have CI:=Lib.hid fun W (hB:Below w.heap.size w W) hT hv=>c_iFAs _ i W hT (gI.below hB) hv
    obtain ⟨TB,hTB⟩:∃ x,x=textL body:=⟨_,rfl⟩
    obtain ⟨TE,hTE⟩:∃ x,x=textL els:=⟨_,rfl⟩
    obtain ⟨TI,hTI⟩:∃ x,x=textA i:=⟨_,rfl⟩
    rw[←hTB] at HR' lbd CB
    rw[←hTE] at HR' lel CE
    rw[←hTI] at lta CI
    have lbd':TB.length≤4000:=by omega
    have lel':TE.length≤4000:=by omega
    have lti':TI.length≤300:=by omega
    replace HR':=Lib.hid HR'
    have hj1:=Lib.hid (show ((j+1:Nat):Int)=(j:Int)+1 by omega)
    replace hTB:=Lib.hid hTB
    replace hTE:=Lib.hid hTE
    replace hTI:=Lib.hid hTI
    obtain ⟨te,ta,tb⟩:=t
    simp only at p3 p4 p5
    clear HR hSh hfi hZ s5 s6 s1 s2 g6 g7 g8 g9 hAt eL hpos lbd lel lta hbs hes hbz hez gI
    replace hDs:=Lib.hid hDs
    go_upto_region 5 with fail
    refine bx1 (w:=wr) (F:=Code.wp _ _ _ _) ?_
    rintro w1 kc hB1 hz1
    replace hz1:wr.heap.size<w1.heap.size:=by omega
    obtain ⟨y,hy⟩:∃ y,y=wr.heap.size:=⟨_,rfl⟩
    rw[←hy] at kc ⊢
    have hyl:b0≤y∧y<w1.heap.size:=by omega
    replace hy:=Lib.hid hy
    have HW:=Lib.hid (bgo HB.out hB1)
    have HT1:=Lib.hid (HTr.out.below hB1)
    replace HD:=Lib.hid (bld_below HD.out hB1)
    have qc:=kc.cell
    have rc:=kc.frozen
    have lc:=kc.lt
    clear p0 p1 p2 p3 p4 p5 p6 p7 p8 p9 hB1 hbl
    by_cases h6:k=6
    ·subst h6
     have hv:=fval6 hfv.out
     obtain ⟨S1,e1,n1⟩:=addO (P:=Tryz.prog) [105,102,32] (fmtF ⟨te,ta,tb⟩) (by simp;omega)
     have l1:S1.length≤20:=by rw[e1.out,List.length_append];simp;omega
     obtain ⟨S2,e2,n2⟩:=addO (P:=Tryz.prog) S1 [10] (by simp;omega)
     have l2:S2.length≤30:=by rw[e2.out,List.length_append];simp;omega
     obtain ⟨S3,e3,n3⟩:=addO (P:=Tryz.prog) S2 TB (by omega)
     have l3:S3.length≤4040:=by rw[e3.out,List.length_append];omega
     have E3:Hid (S3=lineL 6 a b ⟨te,ta,tb⟩ i++[10]++TB):=Lib.hid (by rw[e3.out,e2.out,e1.out,line6])
     obtain ⟨S4,e4,n4⟩:=addO (P:=Tryz.prog) [101,108,115,101,10] TE (by simp;omega)
     have l4:S4.length≤4010:=by rw[e4.out,List.length_append];simp;omega
     clear e1 e2 e3
     obtain ⟨F,hF⟩:∃ F,F=fmtF ⟨te,ta,tb⟩:=⟨_,rfl⟩
     have CF:=Lib.hid fun W hT=>c_iFF ⟨te,ta,tb⟩ W hT hv
     rw[←hF] at n1 CF
     clear hF hv lfm
     go_upto_region 8 with fail
     refine wp_region_noPanic ?_
     refine wp_region_held_drew (S:=(fun w'=>∀ q:Nat,w'.cell? ⟨y,q,none⟩=#[.int .i64 6,.int .i64 a,.int .i64 b,.bool te,.int .i64 ta,.int .i64 tb,.slice A6 i.facts.length c6,.slice A7 i.atoms.length c7,.slice A8 body.len c8,.slice A9 els.len c9][q]?)) (by kernel_rfl) (kc.drew.cell) (fun hHeld=>?_)
     refine tk 0 ?_ rfl (fun w hSw=>?_) hHeld ?_
     rotate_left
     ·((try dsimp only at hSw);go_split_ands;go_simp;(try with_reducible rfl))
     try simp only[Act.put,zA,zB,zC,zD,zE,zF]
     refine tk 1 ?_ rfl (fun w hSw=>?_) hHeld ?_
     rotate_left
     ·((try dsimp only at hSw);go_split_ands;go_simp;(try with_reducible rfl))
     try simp only[Act.put,zA,zB,zC,zD,zE,zF]
     refine tk 5 ?_ rfl (fun w hSw=>?_) hHeld ?_
     rotate_left
     ·((try dsimp only at hSw);go_split_ands;go_simp;(try with_reducible rfl))
     try simp only[Act.put,zA,zB,zC,zD,zE,zF]
     refine tk 6 ?_ rfl (fun w hSw=>?_) hHeld ?_
     rotate_left
     ·((try dsimp only at hSw);go_split_ands;go_simp;(try with_reducible rfl))
     try simp only[Act.put,zA,zB,zC,zD,zE,zF]
     refine rdc 2 rfl fun K hK=>?_
     try simp only[zA,zB,zC]
     (go_simp;refine (CF.out _ (HT1.out.below (Below.refl _ _).drew)).mono ?_;rintro e w2 ⟨rfl,hB2⟩;replace hB2:Below w1.heap.size w1 w2:=(Below.refl _ _).drew.trans hB2;have k2:=kc.next hB2;have HW2:=bgo HW.out hB2;have D2:=bld_below HD.out hB2)
     refine hK.out _ _ (k2.cell) ?_
     clear hHeld hK K
     intro hHeld
     try simp only[Act.put,zA,zB,zC,zD,zE,zF]
     refine tk 3 ?_ rfl (fun w hSw=>?_) hHeld ?_
     rotate_left
     ·((try dsimp only at hSw);go_split_ands;go_simp;(try with_reducible rfl))
     try simp only[Act.put,zA,zB,zC,zD,zE,zF]
     refine tk 4 ?_ rfl (fun w hSw=>?_) hHeld ?_
     rotate_left
     ·((try dsimp only at hSw);go_split_ands;go_simp;(try with_reducible rfl))
     try simp only[Act.put,zA,zB,zC,zD,zE,zF]
     refine rdc 7 rfl fun K hK=>?_
     try simp only[zA,zB,zC]
     (go_simp;refine (CB.out _ HW2 (HT.out.nb HW2 hw0)).mono ?_;rintro e w3 ⟨rfl,hB3⟩;have k3:=k2.next hB3;have HW3:=bgo HW2 hB3;have D3:=bld_below D2 hB3;have z3:=HW3.size)
     refine hK.out _ _ (k3.cell) ?_
     clear hHeld hK K
     intro hHeld
     try simp only[Act.put,zA,zB,zC,zD,zE,zF]
     refine tk 8 ?_ rfl (fun w hSw=>?_) hHeld ?_
     rotate_left
     ·((try dsimp only at hSw);go_split_ands;go_simp;(try with_reducible rfl))
     try simp only[Act.put,zA,zB,zC,zD,zE,zF]
     refine rdc 9 rfl fun K hK=>?_
     try simp only[zA,zB,zC]
     (go_simp;refine (c_WriteStringK (l:=X) S3 w3 D3 (by omega) (by omega)).mono ?_;rintro e w4 ⟨_,rfl,hd,hq,hkp⟩;have k4:=hkp _ _ k3)
     refine hK.out _ _ (k4.cell) ?_
     clear hHeld hK K
     intro hHeld
     try simp only[Act.put,zA,zB,zC,zD,zE,zF]
     refine wpAnyH_done (by kernel_rfl) ?_ _
     refine NoPanic.normal ?_
     replace HD:=Lib.hid hd
     have HX4:=Lib.hid (HW3.trans (hq.mono (by omega)))
     have z4:=hq.size
     have HR4:Hid ((X++S3)++((if 0<els.len then [101,108,115,101,10]++TE else [])++([101,110,100,10]++textL (L.drop (j+1))))=R):=Lib.hid (by
      rw[E3.out,←HR'.out,if_pos (Or.inl rfl)]
      simp only[List.append_assoc])
     have HT4:=Lib.hid (HT.out.nb HX4.out hw0)
     clear HW2 HW3 D2 D3 hq hd hkp k2 k3 hB2 hB3 kc qc rc lc E3 CF
     have qc:=k4.cell
     by_cases hel:0<els.len
     ·have heli:(0:Int)<(els.len:Int):=by omega
      have HR5:Hid (((X++S3)++S4)++([101,110,100,10]++textL (L.drop (j+1)))=R):=Lib.hid (by rw[←HR4.out,if_pos hel,e4.out];simp only[List.append_assoc])
      clear HR4 hel e4
      go_wp2_with fail
      refine (CE.out w4 HX4.out HT4.out).mono ?_
      rintro e w5 ⟨rfl,hB5⟩
      have HX5:=Lib.hid (bgo HX4.out hB5)
      have z5:=hB5.size
      replace HD:=Lib.hid (bld_below HD.out hB5)
      clear hB5 qc k4
      go_wp2_with fail
      refine (c_WriteStringK (l:=X++S3) S4 w5 HD.out (by simp;omega) (by omega)).mono ?_
      rintro e w6 ⟨_,rfl,hd,hq,-⟩
      have HX6:=Lib.hid (HX5.out.trans (hq.mono (by omega)))
      have z6:=hq.size
      replace HD:=Lib.hid hd
      clear hd hq
      go_wp2_with fail
      refine (c_WriteStringK (l:=(X++S3)++S4) [101,110,100,10] w6 HD.out (by simp;omega) (by omega)).mono ?_
      rintro e w7 ⟨_,rfl,hd,hq,-⟩
      have HF:=Lib.hid (HX6.out.trans (hq.mono (by omega)))
      replace HD:=Lib.hid hd
      clear hd hq
      go_wp2_with fail
      go_round
      case rel=>exact ⟨j+1,_,by omega,by go_num,HD,Lib.hid (by rw[←HR5.out];simp only[List.append_assoc]),HF⟩
      case measure=>simp[intOf];omega
     ·have heli:¬(0:Int)<(els.len:Int):=by omega
      have HR5:Hid ((X++S3)++([101,110,100,10]++textL (L.drop (j+1)))=R):=Lib.hid (by rw[←HR4.out,if_neg hel];simp only[List.append_assoc,List.nil_append])
      clear HR4 hel e4
      go_wp2_with fail
      refine (c_WriteStringK (l:=X++S3) [101,110,100,10] w4 HD.out (by simp;omega) (by omega)).mono ?_
      rintro e w7 ⟨_,rfl,hd,hq,-⟩
      have HF:=Lib.hid (HX4.out.trans (hq.mono (by omega)))
      replace HD:=Lib.hid hd
      clear hd hq
      go_wp2_with fail
      go_round
      case rel=>exact ⟨j+1,_,by omega,by go_num,HD,Lib.hid (by rw[←HR5.out];simp only[List.append_assoc]),HF⟩
      case measure=>simp[intOf];omega
    have b6:(k == 6)=false:=by simp[h6]
    by_cases h7:k=7
    ·subst h7
     obtain ⟨hv,hvi,hel0⟩:=fval7 hfv.out
     obtain ⟨S1,e1,n1⟩:=addO (P:=Tryz.prog) [119,104,105,108,101,32] (fmtF ⟨te,ta,tb⟩) (by simp;omega)
     have l1:S1.length≤20:=by rw[e1.out,List.length_append];simp;omega
     obtain ⟨S2,e2,n2⟩:=addO (P:=Tryz.prog) S1 [32,119,105,116,104,32] (by simp;omega)
     have l2:S2.length≤30:=by rw[e2.out,List.length_append];simp;omega
     obtain ⟨S3,e3,n3⟩:=addO (P:=Tryz.prog) S2 TI (by omega)
     have l3:S3.length≤340:=by rw[e3.out,List.length_append];omega
     obtain ⟨S4,e4,n4⟩:=addO (P:=Tryz.prog) S3 [10] (by simp;omega)
     have l4:S4.length≤350:=by rw[e4.out,List.length_append];simp;omega
     have E4:Hid (S4=lineL 7 a b ⟨te,ta,tb⟩ i++[10]):=Lib.hid (by rw[e4.out,e3.out,e2.out,e1.out,line7,hTI.out])
     obtain ⟨S5,e5,n5⟩:=addO (P:=Tryz.prog) TB [101,110,100,10] (by simp;omega)
     have l5:S5.length≤4010:=by rw[e5.out,List.length_append];simp;omega
     have HR5:Hid ((X++S4)++S5++textL (L.drop (j+1))=R):=Lib.hid (by
      rw[←HR'.out,E4.out,e5.out,if_neg (by omega),if_pos (Or.inr rfl)]
      simp only[List.append_assoc,List.nil_append])
     clear e1 e2 e3 e4 e5 E4 hel0
     obtain ⟨F,hF⟩:∃ F,F=fmtF ⟨te,ta,tb⟩:=⟨_,rfl⟩
     have CF:=Lib.hid fun W hT=>c_iFF ⟨te,ta,tb⟩ W hT hv
     rw[←hF] at n1 CF
     replace hvi:=Lib.hid hvi
     clear hF hv lfm h6
     go_upto_region 13 with fail
     refine wp_region_noPanic ?_
     refine wp_region_held_drew (S:=(fun w'=>∀ q:Nat,w'.cell? ⟨y,q,none⟩=#[.int .i64 7,.int .i64 a,.int .i64 b,.bool te,.int .i64 ta,.int .i64 tb,.slice A6 i.facts.length c6,.slice A7 i.atoms.length c7,.slice A8 body.len c8,.slice A9 els.len c9][q]?)) (by kernel_rfl) (kc.drew.cell) (fun hHeld=>?_)
     refine tk 0 ?_ rfl (fun w hSw=>?_) hHeld ?_
     rotate_left
     ·((try dsimp only at hSw);go_split_ands;go_simp;(try with_reducible rfl))
     try simp only[Act.put,zA,zB,zC,zD,zE,zF]
     refine tk 1 ?_ rfl (fun w hSw=>?_) hHeld ?_
     rotate_left
     ·((try dsimp only at hSw);go_split_ands;go_simp;(try with_reducible rfl))
     try simp only[Act.put,zA,zB,zC,zD,zE,zF]
     refine tk 5 ?_ rfl (fun w hSw=>?_) hHeld ?_
     rotate_left
     ·((try dsimp only at hSw);go_split_ands;go_simp;(try with_reducible rfl))
     try simp only[Act.put,zA,zB,zC,zD,zE,zF]
     refine tk 6 ?_ rfl (fun w hSw=>?_) hHeld ?_
     rotate_left
     ·((try dsimp only at hSw);go_split_ands;go_simp;(try with_reducible rfl))
     try simp only[Act.put,zA,zB,zC,zD,zE,zF]
     refine rdc 2 rfl fun K hK=>?_
     try simp only[zA,zB,zC]
     (go_simp;refine (CF.out _ (HT1.out.below (Below.refl _ _).drew)).mono ?_;rintro e w2 ⟨rfl,hB2⟩;replace hB2:Below w1.heap.size w1 w2:=(Below.refl _ _).drew.trans hB2;have k2:=kc.next hB2;have HW2:=bgo HW.out hB2;have D2:=bld_below HD.out hB2)
     refine hK.out _ _ (k2.cell) ?_
     clear hHeld hK K
     intro hHeld
     try simp only[Act.put,zA,zB,zC,zD,zE,zF]
     refine tk 3 ?_ rfl (fun w hSw=>?_) hHeld ?_
     rotate_left
     ·((try dsimp only at hSw);go_split_ands;go_simp;(try with_reducible rfl))
     try simp only[Act.put,zA,zB,zC,zD,zE,zF]
     refine tk 4 ?_ rfl (fun w hSw=>?_) hHeld ?_
     rotate_left
     ·((try dsimp only at hSw);go_split_ands;go_simp;(try with_reducible rfl))
     try simp only[Act.put,zA,zB,zC,zD,zE,zF]
     refine rdc 7 rfl fun K hK=>?_
     try simp only[zA,zB,zC]
     (go_simp;refine (CI.out _ HW2 (HT.out.nb HW2 hw0) hvi.out).mono ?_;rintro e w3 ⟨rfl,hB3⟩;have k3:=k2.next hB3;have HW3:=bgo HW2 hB3;have D3:=bld_below D2 hB3;have z3:=HW3.size)
     refine hK.out _ _ (k3.cell) ?_
     clear hHeld hK K
     intro hHeld
     try simp only[Act.put,zA,zB,zC,zD,zE,zF]
     refine tk 8 ?_ rfl (fun w hSw=>?_) hHeld ?_
     rotate_left
     ·((try dsimp only at hSw);go_split_ands;go_simp;(try with_reducible rfl))
     try simp only[Act.put,zA,zB,zC,zD,zE,zF]
     refine tk 9 ?_ rfl (fun w hSw=>?_) hHeld ?_
     rotate_left
     ·((try dsimp only at hSw);go_split_ands;go_simp;(try with_reducible rfl))
     try simp only[Act.put,zA,zB,zC,zD,zE,zF]
     refine rdc 10 rfl fun K hK=>?_
     try simp only[zA,zB,zC]
     (go_simp;refine (c_WriteStringK (l:=X) S4 w3 D3 (by omega) (by omega)).mono ?_;rintro e w4 ⟨_,rfl,hd,hq,hkp⟩;have k4:=hkp _ _ k3)
     refine hK.out _ _ (k4.cell) ?_
     clear hHeld hK K
     intro hHeld
     try simp only[Act.put,zA,zB,zC,zD,zE,zF]
     refine wpAnyH_done (by kernel_rfl) ?_ _
     refine NoPanic.normal ?_
     replace HD:=Lib.hid hd
     have HX4:=Lib.hid (HW3.trans (hq.mono (by omega)))
     have z4:=hq.size
     have HT4:=Lib.hid (HT.out.nb HX4.out hw0)
     clear HW2 HW3 D2 D3 hq hd hkp k2 k3 hB2 hB3 kc qc rc lc CF
     have qc:=k4.cell
     go_wp2_with fail
     refine (CB.out w4 HX4.out HT4.out).mono ?_
     rintro e w5 ⟨rfl,hB5⟩
     have HX5:=Lib.hid (bgo HX4.out hB5)
     have z5:=hB5.size
     replace HD:=Lib.hid (bld_below HD.out hB5)
     clear hB5 qc k4
     go_wp2_with fail
     refine (c_WriteStringK (l:=X++S4) S5 w5 HD.out (by simp;omega) (by omega)).mono ?_
     rintro e w6 ⟨_,rfl,hd,hq,-⟩
     have HX6:=Lib.hid (HX5.out.trans (hq.mono (by omega)))
     replace HD:=Lib.hid hd
     clear hd hq
     go_wp2_with fail
     go_round
     case rel=>exact ⟨j+1,_,by omega,by go_num,HD,HR5,HX6⟩
     case measure=>simp[intOf];omega
    have b7:(k == 7)=false:=by simp[h7]
    obtain ⟨hk,hb0l,he0l⟩:=fvalN h6 h7 hfv.out
    have lln:=lineL_len (k:=k) (a:=a) (b:=b) (t:=⟨te,ta,tb⟩) (i:=⟨[],[]⟩) (by simp) (by simp)
    have hLN:lineL k a b ⟨te,ta,tb⟩ i=lineL k a b ⟨te,ta,tb⟩ ⟨[],[]⟩:=lineN hk
    rw[←hLN] at lln
    have CF:=Lib.hid fun W hT=>c_iFB k a b ⟨te,ta,tb⟩ i A6 A7 A8 A9 i.facts.length c6 i.atoms.length c7 body.len c8 els.len c9 W hT hk
    obtain ⟨LN,hLN2⟩:∃ x,x=lineL k a b ⟨te,ta,tb⟩ i:=⟨_,rfl⟩
    have hR2:=HR'.out
    rw[←hLN2] at lln CF hR2
    obtain ⟨S1,e1,n1⟩:=addO (P:=Tryz.prog) LN [10] (by simp;omega)
    have l1:S1.length≤240:=by rw[e1.out,List.length_append];simp;omega
    have HR5:Hid ((X++S1)++textL (L.drop (j+1))=R):=Lib.hid (by
     rw[←hR2,e1.out,hTB.out,textL_len0 hb0l,if_neg (by omega),if_neg (by omega)]
     simp only[List.append_assoc,List.nil_append,List.append_nil])
    clear e1 hk hb0l he0l hLN hLN2 hR2 h6 h7 lfm
    simp only at CF
    go_wp2_with fail
    refine (CF.out w1 HT1.out).mono ?_
    rintro e w2 ⟨rfl,hB2⟩
    have HX2:=Lib.hid (bgo HW.out hB2)
    have z2:=hB2.size
    replace HD:=Lib.hid (bld_below HD.out hB2)
    clear hB2 CF
    go_wp2_with fail
    refine (c_WriteStringK (l:=X) S1 w2 HD.out (by omega) (by omega)).mono ?_
    rintro e w6 ⟨_,rfl,hd,hq,-⟩
    have HX6:=Lib.hid (HX2.out.trans (hq.mono (by omega)))
    replace HD:=Lib.hid hd
    clear hd hq
    go_wp2_with fail
    go_round
    case rel=>exact ⟨j+1,_,by omega,by go_num,HD,HR5,HX6⟩
    case measure=>simp[intOf];omega
   ·obtain rfl:j=n:=by omega
    have hE:Hid (X=R):=Lib.hid (by have h:=HR.out;rw[hn.out,Cms.drop_all,textL,List.append_nil] at h;exact h)
    go_wp2_with fail
    refine (shf_Builder_String_any b0 b0 X wr HD.out (by omega)).mono ?_
    rintro e w8 ⟨rfl,hq⟩
    go_wp2_with fail
    go_ret
    exact ⟨ret_str hE.out,HB.out.trans (hq.mono (by omega))⟩
set_option maxRecDepth 100000 in
set_option maxHeartbeats 1600000 in
theorem c_iFP {lo hi:Nat} (L:Cms) (A:Option Addr) (c:Nat) (w:World) (hV:CmsV w lo hi A L) (hlen:L.len≤1049600) (hsm:L.small 1049600) (hT:TN w) :
  Calls Tryz.prog 5 #[.slice A L.len c] w fun e w'=>e=.returned (sv (fmtP L))∧Below w.heap.size w w':=by
 have HV:=Lib.hid hV
 have HT:=Lib.hid hT
 have CP:=Lib.hid (c_impl_ProgramValid L A c w hV hlen hsm)
 cases hp:L.prog with
 | true=>
  rw[hp] at CP
  have hs:=prog_shape hp
  have CT:=Lib.hid fun W (hB:Below w.heap.size w W)=>fmtC_go _ L (Nat.lt_succ_self _) A c 4 lo hi W (HV.out.below hB) hlen hsm hs.1 hs.2 (HT.out.below hB)
  have hF:Hid (fmtP L=textL L):=Lib.hid (if_pos hp)
  clear hs hp
  go_enter Tryz.func5,Tryz.ntmps5
  go_wp2_with fail
  refine CP.out.mono ?_
  rintro e w1 ⟨rfl,hB1⟩
  have HB1:=Lib.hid hB1
  clear hB1 CP
  go_wp2_with fail
  refine (CT.out w1 HB1.out).mono ?_
  rintro e w2 ⟨rfl,hB2⟩
  go_wp2_with fail
  go_ret
  exact ⟨ret_str hF.out.symm,bgo HB1.out hB2⟩
 | false=>
  rw[hp] at CP
  have hF:Hid (fmtP L=[]):=Lib.hid (if_neg (by rw[hp];decide))
  clear hp
  go_enter Tryz.func5,Tryz.ntmps5
  go_wp2_with fail
  refine CP.out.mono ?_
  rintro e w1 ⟨rfl,hB1⟩
  go_wp2_with fail
  go_ret
  exact ⟨ret_str hF.out.symm,hB1⟩
end Go.Proofs.YtjbboklnegfohaaGreatDoor

/- Contracts: commands without blocks from texts (impl). -/
namespace Go.Proofs.YtjbboklnegfohaaGreatDoor
open Go Go.RowKit Go.Proofs
set_option maxRecDepth 100000 in
set_option maxHeartbeats 3200000 in
theorem c_brI (l:Bs) (w:World) (hl:l.length≤2000000):Calls Tryz.prog 91 #[sv l] w fun e w'=>e=.returned (.tuple #[sv (brI l).1,.bool (brI l).2])∧w=w':=by
 obtain ⟨x,hx⟩:∃ x,x=brI l:=⟨_,rfl⟩
 rw[←hx]
 unfold brI at hx
 have C1:=Lib.hid (c_CutPre l [91] w)
 have C2:=Lib.hid (c_CutSuf (Lib.trimPrefix l [91]) [93] w (Nat.le_trans (trimP_len _ _) hl))
 obtain ⟨p,hp⟩:∃ p,p=Lib.hasPrefix l [91]:=⟨_,rfl⟩
 obtain ⟨t,ht⟩:∃ p,p=Lib.trimPrefix l [91]:=⟨_,rfl⟩
 rw[←ht] at C2
 obtain ⟨q,hq⟩:∃ p,p=Lib.hasSuffix t [93]:=⟨_,rfl⟩
 obtain ⟨u,hu⟩:∃ p,p=Lib.trimSuffix t [93]:=⟨_,rfl⟩
 rw[←hp,←ht] at C1
 rw[←hq,←hu] at C2
 rw[←hp,←ht,←hq,←hu] at hx
 clear hp ht hq hu hl
 replace hx:=Lib.hid hx
 go_enter Tryz.func91,Tryz.ntmps91
 go_wp2_with fail
 refine C1.out.mono ?_
 rintro e w1 ⟨rfl,rfl⟩
 go_wp2_with fail
 refine C2.out.mono ?_
 rintro e w1 ⟨rfl,rfl⟩
 clear C1 C2
 cases p
 ·have e1:x=(l,false):=by have:=hx.out;simpa using this
  subst e1
  go_wp2_with fail
  go_ret2
  exact ⟨rfl,rfl⟩
 ·cases q
  ·have e1:x=(l,false):=by have:=hx.out;simpa using this
   subst e1
   go_wp2_with fail
   go_ret2
   exact ⟨rfl,rfl⟩
  ·have e1:x=(u,true):=by have:=hx.out;simpa using this
   subst e1
   go_wp2_with fail
   go_ret2
   exact ⟨rfl,rfl⟩
theorem set10 {w:World} {g:Nat} {a0 a1 a2 a3 a4 a5 a6 a7 a8 a9:Value} (h:Blk w g tC #[a0,a1,a2,a3,a4,a5,a6,a7,a8,a9]) (u0 u1 u2 u3 u4 u5 u6 u7 u8 u9:Value):Blk ((((((((((w.setCell ⟨g,0,none⟩ u0).setCell ⟨g,1,none⟩ u1).setCell ⟨g,2,none⟩ u2).setCell ⟨g,3,none⟩ u3).setCell ⟨g,4,none⟩ u4).setCell ⟨g,5,none⟩ u5).setCell ⟨g,6,none⟩ u6).setCell ⟨g,7,none⟩ u7).setCell ⟨g,8,none⟩ u8).setCell ⟨g,9,none⟩ u9) g tC #[u0,u1,u2,u3,u4,u5,u6,u7,u8,u9]∧Fr g w ((((((((((w.setCell ⟨g,0,none⟩ u0).setCell ⟨g,1,none⟩ u1).setCell ⟨g,2,none⟩ u2).setCell ⟨g,3,none⟩ u3).setCell ⟨g,4,none⟩ u4).setCell ⟨g,5,none⟩ u5).setCell ⟨g,6,none⟩ u6).setCell ⟨g,7,none⟩ u7).setCell ⟨g,8,none⟩ u8).setCell ⟨g,9,none⟩ u9):=by
 have k:=(((((((((h.set_ 0 u0).set_ 1 u1).set_ 2 u2).set_ 3 u3).set_ 4 u4).set_ 5 u5).set_ 6 u6).set_ 7 u7).set_ 8 u8).set_ 9 u9
 simp only[List.setIfInBounds_toArray,List.set_cons_zero,List.set_cons_succ] at k
 exact ⟨k,(((((((((((Fr.refl g w).set_ (p:=⟨g,0,none⟩) (Or.inl rfl) u0).set_ (p:=⟨g,1,none⟩) (Or.inl rfl) u1).set_ (p:=⟨g,2,none⟩) (Or.inl rfl) u2).set_ (p:=⟨g,3,none⟩) (Or.inl rfl) u3).set_ (p:=⟨g,4,none⟩) (Or.inl rfl) u4).set_ (p:=⟨g,5,none⟩) (Or.inl rfl) u5).set_ (p:=⟨g,6,none⟩) (Or.inl rfl) u6).set_ (p:=⟨g,7,none⟩) (Or.inl rfl) u7).set_ (p:=⟨g,8,none⟩) (Or.inl rfl) u8).set_ (p:=⟨g,9,none⟩) (Or.inl rfl) u9)⟩
theorem AsnI.nil (w:World) (lo hi:Nat):AsnI w lo hi (.agg #[.slice none 0 0,.slice none 0 0]) ⟨[],[]⟩:=⟨_,_,rfl,⟨⟨World.ownsRow_nil _ _ _ _,by simp[Lim]⟩,fun g h=>by cases h⟩,⟨⟨World.ownsRow_nil _ _ _ _,by simp[Lim]⟩,fun g h=>by cases h⟩⟩
def basV (k a b:Int):Value:=.agg #[.int .i64 k,.int .i64 a,.int .i64 b,.bool false,.int .i64 0,.int .i64 0,.slice none 0 0,.slice none 0 0,.slice none 0 0,.slice none 0 0]
theorem finP_none1 (k:Int) (y:Option Nat):finP k none y=none:=rfl
theorem finP_none2 (k:Int) (x:Option Nat):finP k x none=none:=by cases x<;>rfl
set_option maxRecDepth 100000 in
set_option maxHeartbeats 12800000 in
theorem c_bscI (l:Bs) (w:World) (hT:TM w) (hl:l.length≤2000000):Calls Tryz.prog 58 #[sv l] w fun e w'=>∃ k a b,e=.returned (.tuple #[basV k a b,.bool (bscI l).isSome])∧(∀ h,bscI l=some h→h.k=k∧h.a=a∧h.b=b∧h.t=fctZ∧h.i=⟨[],[]⟩)∧Below w.heap.size w w':=by
 obtain ⟨P,hP⟩:∃ P,P=bscI l:=⟨_,rfl⟩
 rw[←hP]
 unfold bscI at hP
 have HT:=Lib.hid hT
 have hw1:=hT.2.1
 have CC:=Lib.hid fun W (h:TM W)=>c_Cut l [58,61] W h hl
 have N1:=Lib.hid (c_CutPre l newP)
 have N2:=Lib.hid (c_CutPre l freeP)
 have hcl:=cut_len l [58,61]
 have B1:=Lib.hid fun W=>c_brI (Lib.cut l [58,61]).1 W (by omega)
 have B2:=Lib.hid fun W=>c_brI (Lib.cut l [58,61]).2.1 W (by omega)
 obtain ⟨a,ha⟩:∃ a,a=(Lib.cut l [58,61]).1:=⟨_,rfl⟩
 obtain ⟨b,hb⟩:∃ b,b=(Lib.cut l [58,61]).2.1:=⟨_,rfl⟩
 obtain ⟨fd,hfd⟩:∃ fd,fd=(Lib.cut l [58,61]).2.2:=⟨_,rfl⟩
 obtain ⟨p4,hp4⟩:∃ p,p=Lib.hasPrefix l newP:=⟨_,rfl⟩
 obtain ⟨t4,ht4⟩:∃ p,p=Lib.trimPrefix l newP:=⟨_,rfl⟩
 obtain ⟨p5,hp5⟩:∃ p,p=Lib.hasPrefix l freeP:=⟨_,rfl⟩
 obtain ⟨t5,ht5⟩:∃ p,p=Lib.trimPrefix l freeP:=⟨_,rfl⟩
 rw[←ha] at B1
 rw[←hb] at B2
 rw[←ha,←hb,←hfd] at CC
 rw[←hp4,←ht4] at N1
 rw[←hp5,←ht5] at N2
 rw[←ha,←hb,←hfd,←hp4,←ht4,←hp5,←ht5] at hP
 obtain ⟨⟨x,bx⟩,hx⟩:∃ x,x=brI a:=⟨_,rfl⟩
 obtain ⟨⟨y,by_⟩,hy⟩:∃ x,x=brI b:=⟨_,rfl⟩
 rw[←hx] at B1 hP
 rw[←hy] at B2 hP
 simp only at B1 B2
 clear ha hb hfd hp4 ht4 hp5 ht5 hx hy hT hl hcl
 replace hP:=Lib.hid hP
 go_enter Tryz.func58,Tryz.ntmps58
 go_upto_region 2 with fail
 refine bx2 (w:=w) (F:=Code.wp _ _ _ _) ?_
 rintro W k0 kc hB -
 replace HT:=Lib.hid (HT.out.below hB)
 replace hB:=Lib.hid hB
 go_wp2_with fail
 refine (CC.out _ HT.out).mono ?_
 rintro e w1 ⟨rfl,hq⟩
 have HB:=Lib.hid (bgo hB.out hq)
 replace HT:=Lib.hid (HT.out.below hq)
 replace k0:=k0.next hq
 replace kc:=kc.next hq
 obtain ⟨c,hc⟩:∃ y,y=w.heap.size+1:=⟨_,rfl⟩
 have hyw:w.heap.size<c:=by omega
 rw[←hc] at kc ⊢
 clear CC hB hq hc
 (replace qk0:=k0.cell;replace rk0:=k0.frozen;replace lk0:=k0.lt;replace qkc:=kc.cell;replace rkc:=kc.frozen;replace lkc:=kc.lt)
 go_upto_if 18 with fail
 go_cut [5,6] (fun s5 s6 wc=>∃ (x y:Bs) (k:Int),s5=sv x∧s6=sv y∧Hid (P=finI k x y)∧(1≤k∧k≤5)∧TM wc∧Blk wc c tC #[.int .i64 k,.int .i64 0,.int .i64 0,.bool false,.int .i64 0,.int .i64 0,.slice none 0 0,.slice none 0 0,.slice none 0 0,.slice none 0 0]∧
  Blk wc w.heap.size tC #[.int .i64 0,.int .i64 0,.int .i64 0,.bool false,.int .i64 0,.int .i64 0,.slice none 0 0,.slice none 0 0,.slice none 0 0,.slice none 0 0]∧Below w.heap.size w wc)
 case first=>
  cases fd
  case false=>
   go_wp2_with fail
   refine (N1.out _).mono ?_
   rintro e w2 ⟨rfl,rfl⟩
   cases p4
   case true=>
    have e1:Hid (P=finI 4 t4 nilN):=Lib.hid (by have:=hP.out;simpa using this)
    go_wp2_with fail
    go_meet
    case rel=>exact ⟨_,_,4,rfl,rfl,e1,by omega,HT.out.set0 (by omega) trivial _,kc.set_ 0 (.int .i64 4),k0.far (p:=⟨c,0,none⟩) (by simp only;omega) _,HB.out.setCell (p:=⟨c,0,none⟩) (by simp only;omega) _⟩
   case false=>
    go_wp2_with fail
    refine (N2.out _).mono ?_
    rintro e w2 ⟨rfl,rfl⟩
    cases p5
    case true=>
     have e1:Hid (P=finI 5 t5 nilN):=Lib.hid (by have:=hP.out;simpa using this)
     go_wp2_with fail
     go_meet
     case rel=>exact ⟨_,_,5,rfl,rfl,e1,by omega,HT.out.set0 (by omega) trivial _,kc.set_ 0 (.int .i64 5),k0.far (p:=⟨c,0,none⟩) (by simp only;omega) _,HB.out.setCell (p:=⟨c,0,none⟩) (by simp only;omega) _⟩
    case false=>
     have e1:Hid (P=none):=Lib.hid (by have:=hP.out;simpa using this)
     go_wp2_with fail
     have z:=set10 k0 (.int .i64 0) (.int .i64 0) (.int .i64 0) (.bool false) (.int .i64 0) (.int .i64 0) (.slice none 0 0) (.slice none 0 0) (.slice none 0 0) (.slice none 0 0)
     refine bodyPost_ret (v:=.tuple #[basV 0 0 0,.bool false]) (by simp[results,Tryz.results58,go_sem,z.1.cell,basV]) rfl ⟨0,0,0,by rw[e1.out];rfl,fun h hh=>(by rw[e1.out] at hh;cases hh),Below.trans HB.out (z.2.below (Nat.le_refl _) (by have:=k0.lt;omega))⟩
  case true=>
   go_wp2_with fail
   refine (B1.out _).mono ?_
   rintro e w2 ⟨rfl,rfl⟩
   go_wp2_with fail
   refine (B2.out _).mono ?_
   rintro e w2 ⟨rfl,rfl⟩
   cases bx
   case true=>
    cases by_
    case true=>
     have e1:Hid (P=none):=Lib.hid (by have:=hP.out;simpa[asgI] using this)
     go_wp2_with fail
     have z:=set10 k0 (.int .i64 0) (.int .i64 0) (.int .i64 0) (.bool false) (.int .i64 0) (.int .i64 0) (.slice none 0 0) (.slice none 0 0) (.slice none 0 0) (.slice none 0 0)
     refine bodyPost_ret (v:=.tuple #[basV 0 0 0,.bool false]) (by simp[results,Tryz.results58,go_sem,z.1.cell,basV]) rfl ⟨0,0,0,by rw[e1.out];rfl,fun h hh=>(by rw[e1.out] at hh;cases hh),Below.trans HB.out (z.2.below (Nat.le_refl _) (by have:=k0.lt;omega))⟩
    case false=>
     have e1:Hid (P=finI 3 x y):=Lib.hid (by have:=hP.out;simpa[asgI] using this)
     go_wp2_with fail
     go_meet
     case rel=>exact ⟨_,_,3,rfl,rfl,e1,by omega,HT.out.set0 (by omega) trivial _,kc.set_ 0 (.int .i64 3),k0.far (p:=⟨c,0,none⟩) (by simp only;omega) _,HB.out.setCell (p:=⟨c,0,none⟩) (by simp only;omega) _⟩
   case false=>
    cases by_
    case true=>
     have e1:Hid (P=finI 2 x y):=Lib.hid (by have:=hP.out;simpa[asgI] using this)
     go_wp2_with fail
     go_meet
     case rel=>exact ⟨_,_,2,rfl,rfl,e1,by omega,HT.out.set0 (by omega) trivial _,kc.set_ 0 (.int .i64 2),k0.far (p:=⟨c,0,none⟩) (by simp only;omega) _,HB.out.setCell (p:=⟨c,0,none⟩) (by simp only;omega) _⟩
    case false=>
     have e1:Hid (P=finI 1 x y):=Lib.hid (by have:=hP.out;simpa[asgI] using this)
     go_wp2_with fail
     go_meet
     case rel=>exact ⟨_,_,1,rfl,rfl,e1,by omega,HT.out.set0 (by omega) trivial _,kc.set_ 0 (.int .i64 1),k0.far (p:=⟨c,0,none⟩) (by simp only;omega) _,HB.out.setCell (p:=⟨c,0,none⟩) (by simp only;omega) _⟩
 case rest=>
  clear k0 kc qk0 rk0 lk0 qkc rkc lkc HT HB hP B1 B2 N1 N2
  obtain ⟨x',y',k,rfl,rfl,hP,hk,HT,kc,k0,HB⟩:=hcut
  obtain ⟨V,rfl⟩:∃ z,z=wc:=⟨_,rfl⟩
  replace hP:=hP.out
  unfold finI at hP
  have T1:=Lib.hid (c_iPT x' V HT.1)
  have T2:=Lib.hid fun W (h:TN W)=>c_iPT y' W h
  obtain ⟨A,hA⟩:∃ A,A=parseT x':=⟨_,rfl⟩
  obtain ⟨B,hB⟩:∃ A,A=parseT y':=⟨_,rfl⟩
  rw[←hA] at T1
  rw[←hB] at T2
  rw[←hA,←hB] at hP
  clear hA hB
  replace hP:=Lib.hid hP
  replace HT:=Lib.hid HT
  replace HB:=Lib.hid HB
  go_wp2_with fail
  refine T1.out.mono ?_
  rintro e w2 ⟨rfl,rfl⟩
  have qc:=kc.cell
  have rc:=kc.frozen
  have q0:=k0.cell
  have r0:=k0.frozen
  have l0:=k0.lt
  cases A with
  | none=>
   have e1:Hid (P=none):=Lib.hid (by rw[hP.out,finP_none1])
   go_wp2_with fail
   have k0c:=k0.far (p:=⟨c,1,none⟩) (by simp only;omega) (.int .i64 0)
   have HBc:=HB.out.setCell (p:=⟨c,1,none⟩) (by simp only;omega) (.int .i64 0)
   have z:=set10 k0c (.int .i64 0) (.int .i64 0) (.int .i64 0) (.bool false) (.int .i64 0) (.int .i64 0) (.slice none 0 0) (.slice none 0 0) (.slice none 0 0) (.slice none 0 0)
   refine bodyPost_ret (v:=.tuple #[basV 0 0 0,.bool false]) (by simp[results,Tryz.results58,go_sem,z.1.cell,basV]) rfl ⟨0,0,0,by rw[e1.out];rfl,fun h hh=>(by rw[e1.out] at hh;cases hh),Below.trans HBc (z.2.below (Nat.le_refl _) (by have:=k0c.lt;omega))⟩
  | some na=>
   have T3:=Lib.hid (T2.out (V.setCell ⟨c,1,none⟩ (.int .i64 na)) (HT.out.1.set0 (by omega) _))
   clear T2 T1
   go_wp2_with fail
   refine T3.out.mono ?_
   rintro e w2 ⟨rfl,rfl⟩
   have kd:=kc.set_ 1 (.int .i64 na)
   have HT1:=Lib.hid (HT.out.set0 (y:=c) (i:=1) (by omega) trivial (.int .i64 na))
   have HB1:=Lib.hid (HB.out.setCell (p:=⟨c,1,none⟩) (by simp only;omega) (.int .i64 na))
   have k0d:=k0.far (p:=⟨c,1,none⟩) (by simp only;omega) (.int .i64 na)
   simp only[List.setIfInBounds_toArray,List.set_cons_zero,List.set_cons_succ] at kd
   clear kc k0 qc rc q0 r0 l0 HT HB T3
   obtain ⟨V1,hV1⟩:∃ z,z=V.setCell ⟨c,1,none⟩ (.int .i64 na):=⟨_,rfl⟩
   rw[←hV1] at kd k0d HT1 HB1 ⊢
   clear hV1
   have qc:=kd.cell
   have rc:=kd.frozen
   have q0:=k0d.cell
   have r0:=k0d.frozen
   have l0:=k0d.lt
   cases B with
   | none=>
    have e1:Hid (P=none):=Lib.hid (by rw[hP.out,finP_none2])
    go_wp2_with fail
    have k0c:=k0d.far (p:=⟨c,2,none⟩) (by simp only;omega) (.int .i64 0)
    have HBc:=HB1.out.setCell (p:=⟨c,2,none⟩) (by simp only;omega) (.int .i64 0)
    have z:=set10 k0c (.int .i64 0) (.int .i64 0) (.int .i64 0) (.bool false) (.int .i64 0) (.int .i64 0) (.slice none 0 0) (.slice none 0 0) (.slice none 0 0) (.slice none 0 0)
    refine bodyPost_ret (v:=.tuple #[basV 0 0 0,.bool false]) (by simp[results,Tryz.results58,go_sem,z.1.cell,basV]) rfl ⟨0,0,0,by rw[e1.out];rfl,fun h hh=>(by rw[e1.out] at hh;cases hh),Below.trans HBc (z.2.below (Nat.le_refl _) (by have:=k0c.lt;omega))⟩
   | some nb=>
    go_upto_region 29 with fail
    have ke:=kd.set_ 2 (.int .i64 nb)
    have HT2:=Lib.hid (HT1.out.set0 (y:=c) (i:=2) (by omega) trivial (.int .i64 nb))
    have HB2:=Lib.hid (HB1.out.setCell (p:=⟨c,2,none⟩) (by simp only;omega) (.int .i64 nb))
    have k0e:=k0d.far (p:=⟨c,2,none⟩) (by simp only;omega) (.int .i64 nb)
    simp only[List.setIfInBounds_toArray,List.set_cons_zero,List.set_cons_succ] at ke
    clear kd k0d qc rc q0 r0 l0 HT1 HB1
    obtain ⟨V2,hV2⟩:∃ z,z=V1.setCell ⟨c,2,none⟩ (.int .i64 nb):=⟨_,rfl⟩
    rw[←hV2] at ke k0e HT2 HB2 ⊢
    clear hV2
    have qc:=ke.drew.cell
    have rc:=ke.drew.frozen
    have q0:=k0e.drew.cell
    have r0:=k0e.drew.frozen
    have l0:=k0e.drew.lt
    have CF:=Lib.hid fun W=>c_impl_fieldsValid (lo:=0) (hi:=W.heap.size) k na nb fctZ ⟨[],[]⟩ none none none none 0 0 0 0 .nil .nil W (AsnI.nil W 0 0).reads (by simp[Cms.len]) (by simp[Cms.len])
    obtain ⟨bv,hbv⟩:∃ z,z=fvalB k na nb fctZ ⟨[],[]⟩ .nil .nil:=⟨_,rfl⟩
    rw[←hbv] at CF
    replace hbv:=Lib.hid hbv
    go_wp2_with fail
    refine wp_region_noPanic ?_
    refine wp_region_held_drew (S:=(fun w'=>∀ i,w'.cell? ⟨c,i,none⟩=#[.int .i64 k,.int .i64 na,.int .i64 nb,.bool false,.int .i64 0,.int .i64 0,.slice none 0 0,.slice none 0 0,.slice none 0 0,.slice none 0 0][i]?)) (by kernel_rfl) (ke.drew.cell) (fun hHeld=>?_)
    refine tk 0 ?_ rfl (fun w hSw=>?_) hHeld ?_
    rotate_left
    ·((try dsimp only at hSw);go_split_ands;go_simp;(try with_reducible rfl))
    try simp only[Act.put,zA,zB,zC,zD,zE,zF]
    refine tk 1 ?_ rfl (fun w hSw=>?_) hHeld ?_
    rotate_left
    ·((try dsimp only at hSw);go_split_ands;go_simp;(try with_reducible rfl))
    try simp only[Act.put,zA,zB,zC,zD,zE,zF]
    refine rdc 2 rfl fun K hK=>?_
    try simp only[zA,zB,zC]
    (go_simp;refine (CF.out _).mono ?_;rintro e w3 ⟨rfl,hB3⟩;have kf:=ke.drew.next hB3;have k0f:=k0e.drew.next hB3;have q0f:=k0f.cell;have r0f:=k0f.frozen;have l0f:=k0f.lt;have HB3:=bgo HB2.out.drew hB3)
    refine hK.out _ _ (kf.cell) ?_
    clear hHeld hK K
    intro hHeld
    try simp only[Act.put,zA,zB,zC,zD,zE,zF]
    refine rdc 3 rfl fun K hK=>?_
    try simp only[zA,zB,zC]
    (go_simp;have z:=set10 k0f (.int .i64 k) (.int .i64 na) (.int .i64 nb) (.bool false) (.int .i64 0) (.int .i64 0) (.slice none 0 0) (.slice none 0 0) (.slice none 0 0) (.slice none 0 0))
    refine hK.out _ _ ((kf.fr z.2 (by omega)).cell) ?_
    clear hHeld hK K
    intro hHeld
    try simp only[Act.put,zA,zB,zC,zD,zE,zF]
    refine tk 4 ?_ rfl (fun w hSw=>?_) hHeld ?_
    rotate_left
    ·((try dsimp only at hSw);go_split_ands;go_simp;(try with_reducible rfl))
    try simp only[Act.put,zA,zB,zC,zD,zE,zF]
    refine wpAnyH_done (by kernel_rfl) ?_ _
    refine NoPanic.normal ?_
    go_wp2_with fail
    have HV:Hid (P=if bv=true then some ⟨k,(na:Int),(nb:Int),fctZ,⟨[],[]⟩⟩ else none):=Lib.hid (by rw[hP.out,hbv.out];rfl)
    refine bodyPost_ret (v:=.tuple #[basV k na nb,.bool bv]) (by simp[results,Tryz.results58,go_sem,z.1.cell,basV]) rfl ⟨k,na,nb,by rw[HV.out];cases bv<;>rfl,fun h hh=>?_,HB3.trans (z.2.below (Nat.le_refl _) (by omega))⟩
    rw[HV.out] at hh
    cases bv
    ·simp at hh
    ·simp only[if_true,Option.some.injEq] at hh
     subst hh
     exact ⟨rfl,rfl,rfl,rfl,rfl⟩
end Go.Proofs.YtjbboklnegfohaaGreatDoor

/- Contracts: commands with blocks from texts (impl): branches, loop. -/
namespace Go.Proofs.YtjbboklnegfohaaGreatDoor
open Go Go.RowKit Go.Proofs
def CmLike (v:Value):Prop:=∃ (k a b:Int) (t:Bool) (x y:Int) (A6 A7 A8 A9:Option Addr) (n6 c6 n7 c7 n8 c8 n9 c9:Nat),v=.agg #[.int .i64 k,.int .i64 a,.int .i64 b,.bool t,.int .i64 x,.int .i64 y,.slice A6 n6 c6,.slice A7 n7 c7,.slice A8 n8 c8,.slice A9 n9 c9]
def CmAns (rb:Nat) (w w':World) (v:Value) (t:Bs) (R:Option Cr):Prop:=CmLike v∧Fr rb w w'∧Blk w' rb tLR #[sv t]∧∀ c,R=some c→t=c.2.2.2∧C1Q w' w.heap.size w'.heap.size v c.1 c.2.1 c.2.2.1
def BkAns (rb:Nat) (w w':World) (v:Value) (t:Bs) (R:Option (Cms×Bs)):Prop:=(∃ A n c,v=.slice A n c)∧Fr rb w w'∧Blk w' rb tLR #[sv t]∧∀ L r,R=some (L,r)→t=r∧QR w' w.heap.size w'.heap.size v L
theorem CmLike.zero:CmLike (basV 0 0 0):=⟨0,0,0,false,0,0,none,none,none,none,0,0,0,0,0,0,0,0,rfl⟩
theorem CmLike.bas (k a b:Int):CmLike (basV k a b):=⟨k,a,b,false,0,0,none,none,none,none,0,0,0,0,0,0,0,0,rfl⟩
theorem QR.far {w:World} {lo hi:Nat} {v:Value} {L:Cms} (h:QR w lo hi v L) {p:Addr} (hp:p.block<lo) (u:Value):QR (w.setCell p u) lo hi v L:=h.keep fun b h1 _ _=>Below.heap_setCell w p u b (by omega)
theorem QR.fr {w w':World} {lo hi g:Nat} {v:Value} {L:Cms} (h:QR w lo hi v L) (hf:Fr g w w') (hg:g<lo):QR w' lo hi v L:=h.keep fun b h1 _ h3=>hf.block b h3 (by omega)
theorem TM.put {w:World} (h:TM w) {p:Addr} (hp:1<p.block) (v:Value):TM (w.setCell p v):=h.fr (g:=p.block) ((Fr.refl _ _).set_ (Or.inl rfl) v) hp
theorem set3 {w:World} {g:Nat} {a0 a1 a2 a3 a4 a5 a6 a7 a8 a9:Value} (h:Blk w g tC #[a0,a1,a2,a3,a4,a5,a6,a7,a8,a9]) (u0 u1 u2:Value):Blk (((w.setCell ⟨g,3,none⟩ u0).setCell ⟨g,4,none⟩ u1).setCell ⟨g,5,none⟩ u2) g tC #[a0,a1,a2,u0,u1,u2,a6,a7,a8,a9]∧Fr g w (((w.setCell ⟨g,3,none⟩ u0).setCell ⟨g,4,none⟩ u1).setCell ⟨g,5,none⟩ u2):=by
 have k:=((h.set_ 3 u0).set_ 4 u1).set_ 5 u2
 simp only[List.setIfInBounds_toArray,List.set_cons_zero,List.set_cons_succ] at k
 exact ⟨k,(((Fr.refl g w).set_ (p:=⟨g,3,none⟩) (Or.inl rfl) u0).set_ (p:=⟨g,4,none⟩) (Or.inl rfl) u1).set_ (p:=⟨g,5,none⟩) (Or.inl rfl) u2⟩
theorem setc {w:World} {g:Nat} {cs:List Value} (h:Blk w g tC cs.toArray) (i:Nat) (u:Value):Blk (w.setCell ⟨g,i,none⟩ u) g tC (cs.set i u).toArray∧Fr g w (w.setCell ⟨g,i,none⟩ u):=by
 have k:=h.set_ i u
 simp only[List.setIfInBounds_toArray] at k
 exact ⟨k,(Fr.refl g w).set_ (p:=⟨g,i,none⟩) (Or.inl rfl) u⟩
theorem Fr.ext {w a b:World} {rb g:Nat} (h:Fr rb w a) (k:Fr g a b) (hg:w.heap.size≤g):Fr rb w b:=⟨k.os.trans h.os,k.tape.trans h.tape,k.output.trans h.output,Nat.le_trans h.size k.size,fun i h1 h2=>(k.block i (Nat.lt_of_lt_of_le h1 h.size) (by omega)).trans (h.block i h1 h2)⟩
theorem CmAns.no {rb g:Nat} {w W W2:World} {t:Bs} (hf:Fr rb w W) (hz:Fr g W W2) (hg:w.heap.size≤g) (kr:Blk W rb tLR #[sv t]) (hr:rb<w.heap.size):CmAns rb w W2 (basV 0 0 0) t none:=⟨.zero,hf.ext hz hg,kr.fr hz (by omega),fun c h=>by cases h⟩
theorem AsnI.fr {w w':World} {lo hi g:Nat} {v:Value} {x:Asn} (h:AsnI w lo hi v x) (hf:Fr g w w') (hg:g<lo):AsnI w' lo hi v x:=h.kp fun k h1 h2 h3=>hf.block k h3 (by omega)
theorem AsnI.low {w:World} {lo lo' hi:Nat} {v:Value} {x:Asn} (h:AsnI w lo hi v x) (e:lo'≤lo):AsnI w lo' hi v x:=by
 obtain ⟨fv,av,e1,h1,h2⟩:=h
 exact ⟨fv,av,e1,⟨⟨own_lower h1.1.1 e,h1.1.2⟩,h1.2⟩,⟨⟨own_lower h2.1.1 e,h2.1.2⟩,h2.2⟩⟩
theorem set2 {w:World} {g:Nat} {a0 a1 a2 a3 a4 a5 a6 a7 a8 a9:Value} (h:Blk w g tC #[a0,a1,a2,a3,a4,a5,a6,a7,a8,a9]) (u0 u1:Value):Blk ((w.setCell ⟨g,6,none⟩ u0).setCell ⟨g,7,none⟩ u1) g tC #[a0,a1,a2,a3,a4,a5,u0,u1,a8,a9]∧Fr g w ((w.setCell ⟨g,6,none⟩ u0).setCell ⟨g,7,none⟩ u1):=by
 have k:=(h.set_ 6 u0).set_ 7 u1
 simp only[List.setIfInBounds_toArray,List.set_cons_zero,List.set_cons_succ] at k
 exact ⟨k,((Fr.refl g w).set_ (p:=⟨g,6,none⟩) (Or.inl rfl) u0).set_ (p:=⟨g,7,none⟩) (Or.inl rfl) u1⟩
def SubOk (rb:Nat) (D:Int) (M:Nat) (sub:Bs→Option (Cms×Bs)):Prop:=∀ (W:World) (l:Bs),TM W→Blk W rb tLR #[sv l]→l.length<M→Calls Tryz.prog 15 #[.pointer (some ⟨rb,0,none⟩),.int .i64 D] W fun e w'=>∃ v,e=.returned (.tuple #[v,.bool (sub l).isSome])∧∃ t,BkAns rb W w' v t (sub l)
set_option maxRecDepth 100000 in
set_option maxHeartbeats 25600000 in
theorem c_brs {rb M:Nat} {sub:Bs→Option (Cms×Bs)} (d:Nat) (HS:SubOk rb ((d:Int)+1) M sub) (hs:SubLe sub) (hM:M≤1100000) (x rest:Bs) (w:World) (hT:TM w) (hrb:1<rb) (h:Blk w rb tLR #[sv rest]) (hl:rest.length<M) (hx:x.length≤1049000) (hd:d≤4) :
  Calls Tryz.prog 56 #[.pointer (some ⟨rb,0,none⟩),sv x,.int .i64 d] w fun e w'=>∃ v,e=.returned (.tuple #[v,.bool (ifI sub x rest).isSome])∧∃ t,CmAns rb w w' v t (ifI sub x rest):=by
 obtain ⟨R,hR⟩:∃ R,R=ifI sub x rest:=⟨_,rfl⟩
 rw[←hR]
 unfold ifI at hR
 have HF:=Lib.hid fun W (h:TM W)=>c_iPF x W h (by omega)
 obtain ⟨F,hF⟩:∃ F,F=pFactI x:=⟨_,rfl⟩
 rw[←hF] at hR HF
 clear hF
 replace hR:=Lib.hid hR
 have HT:=Lib.hid hT
 replace HS:=Lib.hid HS
 have hrl:=h.lt
 clear hT
 go_enter Tryz.func56,Tryz.ntmps56
 go_upto_region 2 with fail
 refine bx2 (w:=w) (F:=Code.wp _ _ _ _) ?_
 rintro W k0 kc hB hWs
 replace HT:=Lib.hid (HT.out.below hB)
 have kr:=h.next hB
 obtain ⟨c,hc⟩:∃ y,y=w.heap.size+1:=⟨_,rfl⟩
 have hyw:w.heap.size<c∧c<W.heap.size:=by omega
 obtain ⟨hyw,hcW⟩:=hyw
 rw[←hc] at kc ⊢
 have HB:=Lib.hid (Fr.ofBelow (g:=rb) hB)
 clear hc hWs hB h
 go_wp2_with fail
 refine (HF.out _ HT.out).mono ?_
 rintro e w1 ⟨rfl,hq⟩
 replace HB:=Lib.hid (HB.out.go hq)
 have hzw1:=hq.size
 replace HT:=Lib.hid (HT.out.below hq)
 replace k0:=k0.next hq
 replace kc:=kc.next hq
 replace kr:=kr.next hq
 clear hq
 clear HF
 have qk0:=k0.cell
 have rk0:=k0.frozen
 have lk0:=k0.lt
 have qkc:=kc.cell
 have rkc:=kc.frozen
 have lkc:=kc.lt
 cases F with
 | none=>
  have e1:Hid (R=none):=Lib.hid (by rw[hR.out])
  simp only[Option.getD_none,Option.isSome_none,fct0,Fct.val]
  clear hs
  go_wp2_with fail
  obtain ⟨zc,zf⟩:=set3 kc (.bool false) (.int .i64 0) (.int .i64 0)
  have z:=set10 (k0.fr zf (by omega)) (.int .i64 0) (.int .i64 0) (.int .i64 0) (.bool false) (.int .i64 0) (.int .i64 0) (.slice none 0 0) (.slice none 0 0) (.slice none 0 0) (.slice none 0 0)
  refine bodyPost_ret (v:=.tuple #[basV 0 0 0,.bool false]) (by simp[results,Tryz.results56,go_sem,z.1.cell,basV]) rfl ⟨_,by rw[e1.out];rfl,_,by rw[e1.out];exact CmAns.no (HB.out.ext zf (by omega)) z.2 (Nat.le_refl _) (kr.fr zf (by omega)) hrl⟩
 | some f=>
  obtain ⟨fe,fa,fb⟩:=f
  have hR1:=Lib.hid hR.out
  simp only[Option.getD_some,Option.isSome_some,Fct.val]
  replace hs:=Lib.hid hs
  go_upto_region 6 with fail
  clear hR
  replace hs:=hs.out
  clear qk0 rk0 lk0 qkc rkc lkc
  obtain ⟨zc,zf⟩:=set3 kc (.bool fe) (.int .i64 fa) (.int .i64 fb)
  generalize ((w1.setCell ⟨c,3,none⟩ (.bool fe)).setCell ⟨c,4,none⟩ (.int .i64 fa)).setCell ⟨c,5,none⟩ (.int .i64 fb)=U at zc zf ⊢
  replace k0:=k0.fr zf (by omega)
  replace kr:=kr.fr zf (by omega)
  replace HB:=Lib.hid (HB.out.ext zf (by omega))
  replace HT:=Lib.hid (HT.out.fr zf (by omega))
  have hzU:=zf.size
  replace kc:=zc
  have qk0:=k0.cell
  have rk0:=k0.frozen
  have lk0:=k0.lt
  have qkc:=kc.cell
  have rkc:=kc.frozen
  have lkc:=kc.lt
  replace hs:=Lib.hid hs
  go_wp2_with fail
  refine (HS.out U rest HT.out kr hl).mono ?_
  rintro e w2 ⟨vw2,rfl,tw2,⟨AB,nB,cB,rfl⟩,hFw2,krw2,hXw2⟩
  have hzw2:=hFw2.size
  replace HB:=Lib.hid (HB.out.trans hFw2)
  replace k0:=k0.fr hFw2 (by omega)
  replace kc:=kc.fr hFw2 (by omega)
  replace kr:=krw2
  replace HT:=Lib.hid (HT.out.fr hFw2 hrb)
  have hslw2:=Lib.hid (hs.out rest)
  replace hXw2:=Lib.hid hXw2
  clear krw2
  clear qk0 rk0 lk0 qkc rkc lkc
  have qk0:=k0.cell
  have rk0:=k0.frozen
  have lk0:=k0.lt
  have qkc:=kc.cell
  have rkc:=kc.frozen
  have lkc:=kc.lt
  obtain ⟨S,hS⟩:∃ S,S=sub rest:=⟨_,rfl⟩
  have hR2:=hR1.out
  try simp only at hR2
  rw[←hS] at hR2 ⊢
  have hX:=hXw2.out
  have hsl:=hslw2.out
  rw[←hS] at hX hsl
  clear hXw2 hslw2 hS hR1
  replace hR2:=Lib.hid hR2
  cases S with
  | none=>
   have e1:Hid (R=none):=Lib.hid (by rw[hR2.out])
   clear hX hsl
   go_wp2_with fail
   obtain ⟨zc,zf⟩:=setc (cs:=[.int .i64 6,.int .i64 0,.int .i64 0,.bool fe,.int .i64 fa,.int .i64 fb,.slice none 0 0,.slice none 0 0,.slice none 0 0,.slice none 0 0]) kc 8 (.slice AB nB cB)
   have z:=set10 (k0.fr zf (by omega)) (.int .i64 0) (.int .i64 0) (.int .i64 0) (.bool false) (.int .i64 0) (.int .i64 0) (.slice none 0 0) (.slice none 0 0) (.slice none 0 0) (.slice none 0 0)
   refine bodyPost_ret (v:=.tuple #[basV 0 0 0,.bool false]) (by simp[results,Tryz.results56,go_sem,z.1.cell,basV]) rfl ⟨_,by rw[e1.out];rfl,_,by rw[e1.out];exact CmAns.no (HB.out.ext zf (by omega)) z.2 (Nat.le_refl _) (kr.fr zf (by omega)) hrl⟩
  | some S0=>
   obtain ⟨body,r⟩:=S0
   obtain ⟨rfl,hQ⟩:=hX _ _ rfl
   have hrr:=hsl _ _ rfl
   obtain ⟨A',c',e',-⟩:=hQ.reads
   injection e' with e1 e2 e3
   subst e1 e2 e3
   clear hX hsl
   replace hQ:=Lib.hid hQ
   have hR3:=Lib.hid (show R=elsI sub ⟨6,0,0,⟨fe,fa,fb⟩,⟨[],[]⟩⟩ body tw2 from hR2.out)
   clear hR2
   go_upto_region 9 with fail
   clear qk0 rk0 lk0 qkc rkc lkc
   obtain ⟨zc,zf⟩:=setc (cs:=[.int .i64 6,.int .i64 0,.int .i64 0,.bool fe,.int .i64 fa,.int .i64 fb,.slice none 0 0,.slice none 0 0,.slice none 0 0,.slice none 0 0]) kc 8 (.slice AB body.len cB)
   simp only[List.set_cons_zero,List.set_cons_succ] at zc
   replace hQ:=Lib.hid (hQ.out.fr zf (by omega))
   generalize w2.setCell ⟨c,8,none⟩ (.slice AB body.len cB)=U2 at zc zf hQ ⊢
   have hzs2:w2.heap.size≤U2.heap.size:=zf.size
   replace k0:=k0.fr zf (by omega)
   replace kr:=kr.fr zf (by omega)
   replace HB:=Lib.hid (HB.out.ext zf (by omega))
   replace HT:=Lib.hid (HT.out.fr zf (by omega))
   have hzU2:=zf.size
   replace kc:=zc
   have hQ0:=Lib.hid (show QR U2 U.heap.size w2.heap.size (.slice AB body.len cB) body from hQ.out)
   clear hQ zf
   have HX:=Lib.hid (c_expect (s:=elseL) U2 HT.out hrb kr (by omega))
   obtain ⟨X,hX⟩:∃ X,X=expI elseL tw2:=⟨_,rfl⟩
   have hR4:=hR3.out
   unfold elsI at hR4
   rw[←hX] at HX hR4
   have hXl:=Lib.hid (fun r1 (h:X=some r1)=>expI_len (s:=elseL) (l:=tw2) (hX.symm.trans h))
   replace hR4:=Lib.hid hR4
   clear hR3 hX
   have qk0:=k0.cell
   have rk0:=k0.frozen
   have lk0:=k0.lt
   have qkc:=kc.cell
   have rkc:=kc.frozen
   have lkc:=kc.lt
   go_wp2_with fail
   refine HX.out.mono ?_
   rintro e w3 ⟨rfl,kr3,hF3⟩
   have hz3:=hF3.size
   replace HB:=Lib.hid (HB.out.trans hF3)
   replace k0:=k0.fr hF3 (by omega)
   replace kc:=kc.fr hF3 (by omega)
   replace kr:=kr3
   replace HT:=Lib.hid (HT.out.fr hF3 hrb)
   replace hQ0:=Lib.hid (hQ0.out.fr hF3 (by omega))
   clear HX kr3
   clear qk0 rk0 lk0 qkc rkc lkc
   have qk0:=k0.cell
   have rk0:=k0.frozen
   have lk0:=k0.lt
   have qkc:=kc.cell
   have rkc:=kc.frozen
   have lkc:=kc.lt
   go_upto_if 32 with fail
   go_cut [9] (fun s9 wc=>∃ (els:Cms) (q:Bs) (AE:Option Addr) (cE:Nat),Hid (R=endI ⟨6,0,0,⟨fe,fa,fb⟩,⟨[],[]⟩⟩ body els q)∧q.length<M∧Hid (TM wc)∧Blk wc c tC #[.int .i64 6,.int .i64 0,.int .i64 0,.bool fe,.int .i64 fa,.int .i64 fb,.slice none 0 0,.slice none 0 0,.slice AB body.len cB,.slice AE els.len cE]∧Blk wc w.heap.size tC #[.int .i64 0,.int .i64 0,.int .i64 0,.bool false,.int .i64 0,.int .i64 0,.slice none 0 0,.slice none 0 0,.slice none 0 0,.slice none 0 0]∧Blk wc rb tLR #[sv q]∧Hid (Fr rb w wc)∧Hid (QR wc U.heap.size w2.heap.size (.slice AB body.len cB) body)∧Hid (QR wc w2.heap.size wc.heap.size (.slice AE els.len cE) els)∧w2.heap.size≤wc.heap.size)
   case first=>
    cases X with
    | none=>
     clear hXl
     simp only[Option.isSome_none,Option.getD_none] at kr ⊢
     go_wp2_with fail
     go_meet
     case rel=>exact ⟨.nil,tw2,none,0,Lib.hid hR4.out,by omega,HT,kc,k0,kr,HB,hQ0,Lib.hid (QR.nil _ (by omega)),by omega⟩
    | some r1=>
     have hr1:=hXl.out _ rfl
     simp only[Option.isSome_some,Option.getD_some] at kr ⊢
     clear hXl
     go_wp2_with fail
     refine (HS.out w3 r1 HT.out kr (by omega)).mono ?_
     rintro e w4 ⟨vw4,rfl,tw4,⟨AE,nE,cE,rfl⟩,hFw4,krw4,hXw4⟩
     have hzw4:=hFw4.size
     replace HB:=Lib.hid (HB.out.trans hFw4)
     replace k0:=k0.fr hFw4 (by omega)
     replace kc:=kc.fr hFw4 (by omega)
     replace kr:=krw4
     replace HT:=Lib.hid (HT.out.fr hFw4 hrb)
     have hslw4:=Lib.hid (hs.out r1)
     replace hXw4:=Lib.hid hXw4
     clear krw4
     clear qk0 rk0 lk0 qkc rkc lkc
     have qk0:=k0.cell
     have rk0:=k0.frozen
     have lk0:=k0.lt
     have qkc:=kc.cell
     have rkc:=kc.frozen
     have lkc:=kc.lt
     replace hQ0:=Lib.hid (hQ0.out.fr hFw4 (by omega))
     obtain ⟨S,hS⟩:∃ S,S=sub r1:=⟨_,rfl⟩
     have hR5:=hR4.out
     try simp only at hR5
     rw[←hS] at hR5 ⊢
     have hX:=hXw4.out
     have hsl:=hslw4.out
     rw[←hS] at hX hsl
     clear hXw4 hslw4 hS hR4
     replace hR5:=Lib.hid hR5
     cases S with
     | none=>
      have e1:Hid (R=none):=Lib.hid (by rw[hR5.out])
      clear hX hsl
      go_wp2_with fail
      obtain ⟨zc,zf⟩:=setc (cs:=[.int .i64 6,.int .i64 0,.int .i64 0,.bool fe,.int .i64 fa,.int .i64 fb,.slice none 0 0,.slice none 0 0,.slice AB body.len cB,.slice none 0 0]) kc 9 (.slice AE nE cE)
      have z:=set10 (k0.fr zf (by omega)) (.int .i64 0) (.int .i64 0) (.int .i64 0) (.bool false) (.int .i64 0) (.int .i64 0) (.slice none 0 0) (.slice none 0 0) (.slice none 0 0) (.slice none 0 0)
      refine bodyPost_ret (v:=.tuple #[basV 0 0 0,.bool false]) (by simp[results,Tryz.results56,go_sem,z.1.cell,basV]) rfl ⟨_,by rw[e1.out];rfl,_,by rw[e1.out];exact CmAns.no (HB.out.ext zf (by omega)) z.2 (Nat.le_refl _) (kr.fr zf (by omega)) hrl⟩
     | some S0=>
      obtain ⟨els,r2⟩:=S0
      obtain ⟨rfl,hQ⟩:=hX _ _ rfl
      have hrr2:=hsl _ _ rfl
      obtain ⟨A',c',e',-⟩:=hQ.reads
      injection e' with e1 e2 e3
      subst e1 e2 e3
      clear hX hsl
      replace hQ:=Lib.hid hQ
      have hR6:=Lib.hid (show R=if els.len=0 then none else endI ⟨6,0,0,⟨fe,fa,fb⟩,⟨[],[]⟩⟩ body els tw4 from hR5.out)
      clear hR5
      obtain ⟨zc,zf⟩:=setc (cs:=[.int .i64 6,.int .i64 0,.int .i64 0,.bool fe,.int .i64 fa,.int .i64 fb,.slice none 0 0,.slice none 0 0,.slice AB body.len cB,.slice none 0 0]) kc 9 (.slice AE els.len cE)
      simp only[List.set_cons_zero,List.set_cons_succ] at zc
      by_cases h0:els.len=0
      ·have e1:Hid (R=none):=Lib.hid (by rw[hR6.out,if_pos h0])
       have h0i:((els.len:Nat):Int)=0:=by omega
       have qz:=zc.cell
       replace h0:=Lib.hid h0
       replace zf:=Lib.hid zf
       go_wp2_with fail
       have z:=set10 (k0.fr zf.out (by omega)) (.int .i64 0) (.int .i64 0) (.int .i64 0) (.bool false) (.int .i64 0) (.int .i64 0) (.slice none 0 0) (.slice none 0 0) (.slice none 0 0) (.slice none 0 0)
       refine bodyPost_ret (v:=.tuple #[basV 0 0 0,.bool false]) (by simp[results,Tryz.results56,go_sem,z.1.cell,basV]) rfl ⟨_,by rw[e1.out];rfl,_,by rw[e1.out];exact CmAns.no (HB.out.ext zf.out (by omega)) z.2 (Nat.le_refl _) (kr.fr zf.out (by omega)) hrl⟩
      ·have hR7:Hid (R=endI ⟨6,0,0,⟨fe,fa,fb⟩,⟨[],[]⟩⟩ body els tw4):=Lib.hid (by rw[hR6.out,if_neg h0])
       have h0i:¬((els.len:Nat):Int)=0:=by omega
       have qz:=zc.cell
       replace zf:=Lib.hid zf
       replace zc:=Lib.hid zc
       go_wp2_with fail
       go_meet
       case rel=>exact ⟨els,tw4,AE,cE,hR7,by omega,Lib.hid (HT.out.fr zf.out (by omega)),zc.out,k0.fr zf.out (by omega),kr.fr zf.out (by omega),Lib.hid (HB.out.ext zf.out (by omega)),Lib.hid (hQ0.out.fr zf.out (by omega)),Lib.hid ((hQ.out.fr zf.out (by omega)).mono (by omega) zf.out.size),by have:=zf.out.size;omega⟩
   case rest=>
    clear k0 kc kr qk0 rk0 lk0 qkc rkc lkc HT HB hQ0 hXl hR4
    obtain ⟨els,q,AE,cE,hR2,hlq0,HT,kc,k0,kr,HB,hQ0,hQ1,hzw⟩:=hcut
    obtain ⟨V,rfl⟩:∃ z,z=wc:=⟨_,rfl⟩
    have hlq:q.length≤2000000:=by omega
    go_upto_region 13 with fail
    refine wp_region_noPanic ?_
    refine wp_region_held_drew (S:=(fun w'=>∀ j:Nat,w'.cell? ⟨c,j,none⟩=#[.int .i64 6,.int .i64 0,.int .i64 0,.bool fe,.int .i64 fa,.int .i64 fb,.slice none 0 0,.slice none 0 0,.slice AB body.len cB,.slice AE els.len cE][j]?)) (by kernel_rfl) (kc.drew.cell) (fun hHeld=>?_)
    refine tk 0 ?_ rfl (fun w hSw=>?_) hHeld ?_
    rotate_left
    ·((try dsimp only at hSw);go_split_ands;go_simp;(try with_reducible rfl))
    try simp only[Act.put,zA,zB,zC,zD,zE,zF]
    refine tk 1 ?_ rfl (fun w hSw=>?_) hHeld ?_
    rotate_left
    ·((try dsimp only at hSw);go_split_ands;go_simp;(try with_reducible rfl))
    try simp only[Act.put,zA,zB,zC,zD,zE,zF]
    refine rdc 2 rfl fun K hK=>?_
    try simp only[zA,zB,zC]
    (go_simp;refine (c_expect (s:=endL) _ (HT.out.below (Below.refl _ _).drew) hrb kr.drew hlq).mono ?_;rintro e w8 ⟨rfl,kr8,hF8⟩;have kc8:=kc.drew.fr hF8 (by omega);have k08:=k0.drew.fr hF8 (by omega);have q08:=k08.cell;have r08:=k08.frozen;have l08:=k08.lt)
    refine hK.out _ _ (kc8.cell) ?_
    clear hHeld hK K
    intro hHeld
    try simp only[Act.put,zA,zB,zC,zD,zE,zF]
    refine rdc 3 rfl fun K hK=>?_
    try simp only[zA,zB,zC]
    (go_simp;have z:=set10 k08 (.int .i64 6) (.int .i64 0) (.int .i64 0) (.bool fe) (.int .i64 fa) (.int .i64 fb) (.slice none 0 0) (.slice none 0 0) (.slice AB body.len cB) (.slice AE els.len cE))
    refine hK.out _ _ ((kc8.fr z.2 (by omega)).cell) ?_
    clear hHeld hK K
    intro hHeld
    try simp only[Act.put,zA,zB,zC,zD,zE,zF]
    refine tk 4 ?_ rfl (fun w hSw=>?_) hHeld ?_
    rotate_left
    ·((try dsimp only at hSw);go_split_ands;go_simp;(try with_reducible rfl))
    try simp only[Act.put,zA,zB,zC,zD,zE,zF]
    refine wpAnyH_done (by kernel_rfl) ?_ _
    refine NoPanic.normal ?_
    go_wp2_with fail
    obtain ⟨E,hE⟩:∃ E,E=expI endL q:=⟨_,rfl⟩
    rw[←hE] at kr8 ⊢
    have hRE:R=E.map fun r=>(⟨6,0,0,⟨fe,fa,fb⟩,⟨[],[]⟩⟩,body,els,r):=by
     have:=hR2.out
     unfold endI at this
     rw[←hE] at this
     rw[this]
     cases E<;>rfl
    refine bodyPost_ret (v:=.tuple #[.agg #[.int .i64 6,.int .i64 0,.int .i64 0,.bool fe,.int .i64 fa,.int .i64 fb,.slice none 0 0,.slice none 0 0,.slice AB body.len cB,.slice AE els.len cE],.bool E.isSome]) (by simp[results,Tryz.results56,go_sem,z.1.cell]) rfl ⟨_,by rw[hRE];cases E<;>rfl,E.getD q,⟨⟨_,_,_,_,_,_,_,_,_,_,_,_,_,_,_,_,_,_,rfl⟩,(HB.out.drew.trans hF8).ext z.2 (Nat.le_refl _),kr8.fr z.2 (by omega),fun cc hcc=>?_⟩⟩
    have hz8:=hF8.size
    have hzz:=z.2.size
    simp only[World.size_drew] at hz8
    rw[hRE] at hcc
    obtain ⟨r,hr,hcc⟩:=Option.map_eq_some_iff.mp hcc
    subst hcc
    refine ⟨by rw[hr];rfl,_,_,_,_,U.heap.size,w2.heap.size,rfl,⟨by omega,by omega,by omega⟩,AsnI.nil _ _ _,((hQ0.out.fr ((Fr.refl rb _).drew.trans hF8) (by omega)).fr z.2 (by omega)),(((hQ1.out.fr ((Fr.refl rb _).drew.trans hF8) (by omega)).fr z.2 (by omega)).mono (Nat.le_refl _) (by omega))⟩
set_option maxRecDepth 100000 in
set_option maxHeartbeats 25600000 in
theorem c_lps {rb M:Nat} {sub:Bs→Option (Cms×Bs)} (d:Nat) (HS:SubOk rb ((d:Int)+1) M sub) (hs:SubLe sub) (hM:M≤1100000) (x rest:Bs) (w:World) (hT:TM w) (hrb:1<rb) (h:Blk w rb tLR #[sv rest]) (hl:rest.length<M) (hx:x.length≤1049000) (hd:d≤4) :
  Calls Tryz.prog 57 #[.pointer (some ⟨rb,0,none⟩),sv x,.int .i64 d] w fun e w'=>∃ v,e=.returned (.tuple #[v,.bool (whI sub x rest).isSome])∧∃ t,CmAns rb w w' v t (whI sub x rest):=by
 obtain ⟨R,hR⟩:∃ R,R=whI sub x rest:=⟨_,rfl⟩
 rw[←hR]
 unfold whI at hR
 have CC:=Lib.hid fun W (h:TM W)=>c_Cut x withP W h (by omega)
 have hcl:=cut_len x withP
 obtain ⟨a,ha⟩:∃ a,a=(Lib.cut x withP).1:=⟨_,rfl⟩
 obtain ⟨b,hb⟩:∃ a,a=(Lib.cut x withP).2.1:=⟨_,rfl⟩
 obtain ⟨fd,hfd⟩:∃ a,a=(Lib.cut x withP).2.2:=⟨_,rfl⟩
 rw[←ha,←hb,←hfd] at CC hR
 rw[←ha,←hb] at hcl
 have HF:=Lib.hid fun W (h:TM W)=>c_iPF a W h (by omega)
 have HA:=Lib.hid fun W (h:TM W)=>c_iPA b W h (by omega)
 obtain ⟨F,hF⟩:∃ F,F=pFactI a:=⟨_,rfl⟩
 obtain ⟨A,hA⟩:∃ F,F=pAI b:=⟨_,rfl⟩
 rw[←hF] at hR HF
 rw[←hA] at hR HA
 clear hF hA ha hb hfd hcl
 replace hR:=Lib.hid hR
 have HT:=Lib.hid hT
 replace HS:=Lib.hid HS
 have hrl:=h.lt
 clear hT
 go_enter Tryz.func57,Tryz.ntmps57
 go_upto_region 2 with fail
 refine bx2 (w:=w) (F:=Code.wp _ _ _ _) ?_
 rintro W k0 kc hB hWs
 replace HT:=Lib.hid (HT.out.below hB)
 have kr:=h.next hB
 obtain ⟨c,hc⟩:∃ y,y=w.heap.size+1:=⟨_,rfl⟩
 have hyw:w.heap.size<c∧c<W.heap.size:=by omega
 obtain ⟨hyw,hcW⟩:=hyw
 rw[←hc] at kc ⊢
 have HB:=Lib.hid (Fr.ofBelow (g:=rb) hB)
 clear hc hWs hB h
 go_wp2_with fail
 refine (CC.out _ HT.out).mono ?_
 rintro e w0 ⟨rfl,hq⟩
 replace HB:=Lib.hid (HB.out.go hq)
 have hzw0:=hq.size
 replace HT:=Lib.hid (HT.out.below hq)
 replace k0:=k0.next hq
 replace kc:=kc.next hq
 replace kr:=kr.next hq
 clear hq
 clear CC
 have qk0:=k0.cell
 have rk0:=k0.frozen
 have lk0:=k0.lt
 have qkc:=kc.cell
 have rkc:=kc.frozen
 have lkc:=kc.lt
 cases fd with
 | false=>
  have e1:Hid (R=none):=Lib.hid (by rw[hR.out];rfl)
  clear hs
  go_wp2_with fail
  have z:=set10 k0 (.int .i64 0) (.int .i64 0) (.int .i64 0) (.bool false) (.int .i64 0) (.int .i64 0) (.slice none 0 0) (.slice none 0 0) (.slice none 0 0) (.slice none 0 0)
  refine bodyPost_ret (v:=.tuple #[basV 0 0 0,.bool false]) (by simp[results,Tryz.results57,go_sem,z.1.cell,basV]) rfl ⟨_,by rw[e1.out];rfl,_,by rw[e1.out];exact CmAns.no HB.out z.2 (Nat.le_refl _) kr hrl⟩
 | true=>
  have hR0:Hid (R=wh2 sub rest F A):=Lib.hid (by rw[hR.out];rfl)
  replace hs:=Lib.hid hs
  clear hR
  go_wp2_with fail
  refine (HF.out _ HT.out).mono ?_
  rintro e w1 ⟨rfl,hq⟩
  replace HB:=Lib.hid (HB.out.go hq)
  have hzw1:=hq.size
  replace HT:=Lib.hid (HT.out.below hq)
  replace k0:=k0.next hq
  replace kc:=kc.next hq
  replace kr:=kr.next hq
  clear hq
  clear HF
  clear qk0 rk0 lk0 qkc rkc lkc
  have qk0:=k0.cell
  have rk0:=k0.frozen
  have lk0:=k0.lt
  have qkc:=kc.cell
  have rkc:=kc.frozen
  have lkc:=kc.lt
  cases F with
  | none=>
   have e1:Hid (R=none):=Lib.hid (by rw[hR0.out];rfl)
   simp only[Option.getD_none,Option.isSome_none,fct0,Fct.val]
   clear hs
   go_wp2_with fail
   obtain ⟨zc,zf⟩:=set3 kc (.bool false) (.int .i64 0) (.int .i64 0)
   have z:=set10 (k0.fr zf (by omega)) (.int .i64 0) (.int .i64 0) (.int .i64 0) (.bool false) (.int .i64 0) (.int .i64 0) (.slice none 0 0) (.slice none 0 0) (.slice none 0 0) (.slice none 0 0)
   refine bodyPost_ret (v:=.tuple #[basV 0 0 0,.bool false]) (by simp[results,Tryz.results57,go_sem,z.1.cell,basV]) rfl ⟨_,by rw[e1.out];rfl,_,by rw[e1.out];exact CmAns.no (HB.out.ext zf (by omega)) z.2 (Nat.le_refl _) (kr.fr zf (by omega)) hrl⟩
  | some f=>
   obtain ⟨fe,fa,fb⟩:=f
   simp only[Option.getD_some,Option.isSome_some,Fct.val]
   go_upto_region 9 with fail
   clear qk0 rk0 lk0 qkc rkc lkc
   obtain ⟨zc,zf⟩:=set3 kc (.bool fe) (.int .i64 fa) (.int .i64 fb)
   generalize ((w1.setCell ⟨c,3,none⟩ (.bool fe)).setCell ⟨c,4,none⟩ (.int .i64 fa)).setCell ⟨c,5,none⟩ (.int .i64 fb)=U at zc zf ⊢
   replace k0:=k0.fr zf (by omega)
   replace kr:=kr.fr zf (by omega)
   replace HB:=Lib.hid (HB.out.ext zf (by omega))
   replace HT:=Lib.hid (HT.out.fr zf (by omega))
   have hzU:=zf.size
   replace kc:=zc
   go_wp2_with fail
   refine (HA.out _ HT.out).mono ?_
   rintro e w3 ⟨r,rfl,oA,hq⟩
   obtain ⟨AF,cF,AA,cA,rfl⟩:=oA.I.form
   have oI:=Lib.hid oA.I
   clear oA
   replace HB:=Lib.hid (HB.out.go hq)
   have hzw3:=hq.size
   replace HT:=Lib.hid (HT.out.below hq)
   replace k0:=k0.next hq
   replace kc:=kc.next hq
   replace kr:=kr.next hq
   clear hq
   clear HA
   have qk0:=k0.cell
   have rk0:=k0.frozen
   have lk0:=k0.lt
   have qkc:=kc.cell
   have rkc:=kc.frozen
   have lkc:=kc.lt
   obtain ⟨zc,zf⟩:=set2 kc (.slice AF (A.getD ⟨[],[]⟩).facts.length cF) (.slice AA (A.getD ⟨[],[]⟩).atoms.length cA)
   replace zc:=Lib.hid zc
   replace zf:=Lib.hid zf
   cases A with
   | none=>
    have e1:Hid (R=none):=Lib.hid (by rw[hR0.out];rfl)
    simp only[Option.getD_none,Option.isSome_none,List.length_nil] at zc zf ⊢
    replace zf:=Lib.hid zf.out
    clear hs oI
    go_wp2_with fail
    have z:=set10 (k0.fr zf.out (by omega)) (.int .i64 0) (.int .i64 0) (.int .i64 0) (.bool false) (.int .i64 0) (.int .i64 0) (.slice none 0 0) (.slice none 0 0) (.slice none 0 0) (.slice none 0 0)
    refine bodyPost_ret (v:=.tuple #[basV 0 0 0,.bool false]) (by simp[results,Tryz.results57,go_sem,z.1.cell,basV]) rfl ⟨_,by rw[e1.out];rfl,_,by rw[e1.out];exact CmAns.no (HB.out.ext zf.out (by omega)) z.2 (Nat.le_refl _) (kr.fr zf.out (by omega)) hrl⟩
   | some i=>
    simp only[Option.getD_some,Option.isSome_some] at zc zf oI ⊢
    go_upto_region 12 with fail
    replace zc:=zc.out
    replace zf:=zf.out
    generalize (w3.setCell ⟨c,6,none⟩ (.slice AF i.facts.length cF)).setCell ⟨c,7,none⟩ (.slice AA i.atoms.length cA)=U2 at zc zf ⊢
    replace oI:=Lib.hid (oI.out.fr zf (by omega))
    clear qk0 rk0 lk0 qkc rkc lkc
    replace k0:=k0.fr zf (by omega)
    replace kr:=kr.fr zf (by omega)
    replace HB:=Lib.hid (HB.out.ext zf (by omega))
    replace HT:=Lib.hid (HT.out.fr zf (by omega))
    have hzU2:=zf.size
    replace kc:=zc
    clear zf
    go_wp2_with fail
    refine (HS.out U2 rest HT.out kr hl).mono ?_
    rintro e w2 ⟨vw2,rfl,tw2,⟨AB,nB,cB,rfl⟩,hFw2,krw2,hXw2⟩
    have hzw2:=hFw2.size
    replace HB:=Lib.hid (HB.out.trans hFw2)
    replace k0:=k0.fr hFw2 (by omega)
    replace kc:=kc.fr hFw2 (by omega)
    replace kr:=krw2
    replace HT:=Lib.hid (HT.out.fr hFw2 hrb)
    have hslw2:=Lib.hid (hs.out rest)
    replace hXw2:=Lib.hid hXw2
    clear krw2
    replace oI:=Lib.hid (oI.out.fr hFw2 (by omega))
    have qk0:=k0.cell
    have rk0:=k0.frozen
    have lk0:=k0.lt
    have qkc:=kc.cell
    have rkc:=kc.frozen
    have lkc:=kc.lt
    have hR2:R=match sub rest with|none=>none|some (body,r)=>endI ⟨7,0,0,⟨fe,fa,fb⟩,i⟩ body .nil r:=by rw[hR0.out];rfl
    obtain ⟨S,hS⟩:∃ S,S=sub rest:=⟨_,rfl⟩
    rw[←hS] at hR2 ⊢
    have hX:=hXw2.out
    have hsl:=hslw2.out
    rw[←hS] at hX hsl
    clear hXw2 hslw2 hS hR0
    replace hR2:=Lib.hid hR2
    cases S with
    | none=>
     have e1:Hid (R=none):=Lib.hid hR2.out
     clear hX hsl
     go_wp2_with fail
     obtain ⟨zc,zf⟩:=setc (cs:=[.int .i64 7,.int .i64 0,.int .i64 0,.bool fe,.int .i64 fa,.int .i64 fb,.slice AF i.facts.length cF,.slice AA i.atoms.length cA,.slice none 0 0,.slice none 0 0]) kc 8 (.slice AB nB cB)
     have z:=set10 (k0.fr zf (by omega)) (.int .i64 0) (.int .i64 0) (.int .i64 0) (.bool false) (.int .i64 0) (.int .i64 0) (.slice none 0 0) (.slice none 0 0) (.slice none 0 0) (.slice none 0 0)
     refine bodyPost_ret (v:=.tuple #[basV 0 0 0,.bool false]) (by simp[results,Tryz.results57,go_sem,z.1.cell,basV]) rfl ⟨_,by rw[e1.out];rfl,_,by rw[e1.out];exact CmAns.no (HB.out.ext zf (by omega)) z.2 (Nat.le_refl _) (kr.fr zf (by omega)) hrl⟩
    | some S0=>
     obtain ⟨body,q⟩:=S0
     obtain ⟨rfl,hQ⟩:=hX _ _ rfl
     have hrr:=hsl _ _ rfl
     obtain ⟨A',c',e',-⟩:=hQ.reads
     injection e' with e1 e2 e3
     subst e1 e2 e3
     clear hX hsl
     replace hQ:=Lib.hid hQ
     obtain ⟨q,rfl⟩:∃ q,q=tw2:=⟨_,rfl⟩
     replace hR2:=Lib.hid (show R=endI ⟨7,0,0,⟨fe,fa,fb⟩,i⟩ body .nil q from hR2.out)
     go_upto_region 15 with fail
     obtain ⟨zc,zf⟩:=setc (cs:=[.int .i64 7,.int .i64 0,.int .i64 0,.bool fe,.int .i64 fa,.int .i64 fb,.slice AF i.facts.length cF,.slice AA i.atoms.length cA,.slice none 0 0,.slice none 0 0]) kc 8 (.slice AB body.len cB)
     simp only[List.set_cons_zero,List.set_cons_succ] at zc
     generalize w2.setCell ⟨c,8,none⟩ (.slice AB body.len cB)=V at zc zf ⊢
     replace hQ:=Lib.hid (hQ.out.fr zf (by omega))
     replace oI:=Lib.hid (oI.out.fr zf (by omega))
     clear qk0 rk0 lk0 qkc rkc lkc
     replace k0:=k0.fr zf (by omega)
     replace kr:=kr.fr zf (by omega)
     replace HB:=Lib.hid (HB.out.ext zf (by omega))
     replace HT:=Lib.hid (HT.out.fr zf (by omega))
     have hzV:=zf.size
     replace kc:=zc
     have qk0:=k0.cell
     have rk0:=k0.frozen
     have lk0:=k0.lt
     have qkc:=kc.cell
     have rkc:=kc.frozen
     have lkc:=kc.lt
     clear zf
     have hlq:q.length≤2000000:=by omega
     refine wp_region_noPanic ?_
     refine wp_region_held_drew (S:=(fun w'=>∀ j:Nat,w'.cell? ⟨c,j,none⟩=#[.int .i64 7,.int .i64 0,.int .i64 0,.bool fe,.int .i64 fa,.int .i64 fb,.slice AF i.facts.length cF,.slice AA i.atoms.length cA,.slice AB body.len cB,.slice none 0 0][j]?)) (by kernel_rfl) (kc.drew.cell) (fun hHeld=>?_)
     refine tk 0 ?_ rfl (fun w hSw=>?_) hHeld ?_
     rotate_left
     ·((try dsimp only at hSw);go_split_ands;go_simp;(try with_reducible rfl))
     try simp only[Act.put,zA,zB,zC,zD,zE,zF]
     refine tk 1 ?_ rfl (fun w hSw=>?_) hHeld ?_
     rotate_left
     ·((try dsimp only at hSw);go_split_ands;go_simp;(try with_reducible rfl))
     try simp only[Act.put,zA,zB,zC,zD,zE,zF]
     refine rdc 2 rfl fun K hK=>?_
     try simp only[zA,zB,zC]
     (go_simp;refine (c_expect (s:=endL) _ (HT.out.below (Below.refl _ _).drew) hrb kr.drew hlq).mono ?_;rintro e w8 ⟨rfl,kr8,hF8⟩;have kc8:=kc.drew.fr hF8 (by omega);have k08:=k0.drew.fr hF8 (by omega);have q08:=k08.cell;have r08:=k08.frozen;have l08:=k08.lt)
     refine hK.out _ _ (kc8.cell) ?_
     clear hHeld hK K
     intro hHeld
     try simp only[Act.put,zA,zB,zC,zD,zE,zF]
     refine rdc 3 rfl fun K hK=>?_
     try simp only[zA,zB,zC]
     (go_simp;have z:=set10 k08 (.int .i64 7) (.int .i64 0) (.int .i64 0) (.bool fe) (.int .i64 fa) (.int .i64 fb) (.slice AF i.facts.length cF) (.slice AA i.atoms.length cA) (.slice AB body.len cB) (.slice none 0 0))
     refine hK.out _ _ ((kc8.fr z.2 (by omega)).cell) ?_
     clear hHeld hK K
     intro hHeld
     try simp only[Act.put,zA,zB,zC,zD,zE,zF]
     refine tk 4 ?_ rfl (fun w hSw=>?_) hHeld ?_
     rotate_left
     ·((try dsimp only at hSw);go_split_ands;go_simp;(try with_reducible rfl))
     try simp only[Act.put,zA,zB,zC,zD,zE,zF]
     refine wpAnyH_done (by kernel_rfl) ?_ _
     refine NoPanic.normal ?_
     go_wp2_with fail
     obtain ⟨E,hE⟩:∃ E,E=expI endL q:=⟨_,rfl⟩
     rw[←hE] at kr8 ⊢
     have hRE:R=E.map fun r=>(⟨7,0,0,⟨fe,fa,fb⟩,i⟩,body,.nil,r):=by
      have:=hR2.out
      unfold endI at this
      rw[←hE] at this
      rw[this]
      cases E<;>rfl
     refine bodyPost_ret (v:=.tuple #[.agg #[.int .i64 7,.int .i64 0,.int .i64 0,.bool fe,.int .i64 fa,.int .i64 fb,.slice AF i.facts.length cF,.slice AA i.atoms.length cA,.slice AB body.len cB,.slice none 0 0],.bool E.isSome]) (by simp[results,Tryz.results57,go_sem,z.1.cell]) rfl ⟨_,by rw[hRE];cases E<;>rfl,E.getD q,⟨⟨_,_,_,_,_,_,_,_,_,_,_,_,_,_,_,_,_,_,rfl⟩,(HB.out.drew.trans hF8).ext z.2 (Nat.le_refl _),kr8.fr z.2 (by omega),fun cc hcc=>?_⟩⟩
     have hz8:=hF8.size
     have hzz:=z.2.size
     simp only[World.size_drew] at hz8
     rw[hRE] at hcc
     obtain ⟨r,hr,hcc⟩:=Option.map_eq_some_iff.mp hcc
     subst hcc
     refine ⟨by rw[hr];rfl,_,_,_,_,w3.heap.size,w2.heap.size,rfl,⟨by omega,by omega,by omega⟩,((oI.out.fr ((Fr.refl rb _).drew.trans hF8) (by omega)).fr z.2 (by omega)).low (by omega),(((hQ.out.fr ((Fr.refl rb _).drew.trans hF8) (by omega)).fr z.2 (by omega)).mono (by omega) (Nat.le_refl _)),QR.nil _ (by omega)⟩
end Go.Proofs.YtjbboklnegfohaaGreatDoor

/- Contracts: commands and blocks from texts (impl): command, block. -/
namespace Go.Proofs.YtjbboklnegfohaaGreatDoor
open Go Go.RowKit Go.Proofs
theorem C1Q.low {w:World} {lo lo' hi hi':Nat} {v:Value} {h:Hd} {body els:Cms} (hc:C1Q w lo hi v h body els) (e:lo'≤lo) (e2:hi≤hi'):C1Q w lo' hi' v h body els:=by
 obtain ⟨vF,vA,vB,vE,m1,m2,e1,⟨o1,o2,o3⟩,h1,h2,h3⟩:=hc
 exact ⟨vF,vA,vB,vE,m1,m2,e1,⟨by omega,o2,by omega⟩,h1.low e,h2,h3.mono (Nat.le_refl _) e2⟩
theorem C1Q.fr {w w':World} {lo hi g:Nat} {v:Value} {h:Hd} {body els:Cms} (hc:C1Q w lo hi v h body els) (hf:Fr g w w') (hg:g<lo):C1Q w' lo hi v h body els:=hc.keep fun b h1 _ h3=>hf.block b h3 (by omega)
theorem CmAns.up {rb g:Nat} {w W a b:World} {v:Value} {t:Bs} {R:Option Cr} (hf:Fr rb w W) (h:CmAns rb W a v t R) (hz:Fr g a b) (hg:w.heap.size≤g) (hgW:g<W.heap.size) (hr:rb<w.heap.size):CmAns rb w b v t R:=by
 obtain ⟨h1,h2,h3,h4⟩:=h
 refine ⟨h1,(hf.trans h2).ext hz hg,h3.fr hz (by omega),fun c hc=>?_⟩
 obtain ⟨e,h5⟩:=h4 c hc
 exact ⟨e,(h5.fr hz hgW).low hf.size hz.size⟩
theorem C1Q.bas {w:World} {lo hi:Nat} (hle:lo≤hi) {h:Hd} (e1:h.t=fctZ) (e2:h.i=⟨[],[]⟩):C1Q w lo hi (basV h.k h.a h.b) h .nil .nil:=by
 refine ⟨_,_,_,_,lo,lo,?_,⟨Nat.le_refl _,Nat.le_refl _,hle⟩,by rw[e2];exact AsnI.nil _ _ _,QR.nil _ (Nat.le_refl _),QR.nil _ hle⟩
 rw[e1];rfl
set_option maxRecDepth 100000 in
set_option maxHeartbeats 12800000 in
theorem c_cmd {rb M:Nat} {sub:Bs→Option (Cms×Bs)} (d:Nat) (HS:SubOk rb ((d:Int)+1) M sub) (hs:SubLe sub) (hM:M≤1100000) (x rest:Bs) (w:World) (hT:TM w) (hrb:1<rb) (h:Blk w rb tLR #[sv rest]) (hl:rest.length<M) (hx:x.length≤1049000) (hd:d≤4) :
  Calls Tryz.prog 34 #[.pointer (some ⟨rb,0,none⟩),sv x,.int .i64 d] w fun e w'=>∃ v,e=.returned (.tuple #[v,.bool (cmI sub x rest).isSome])∧∃ t,CmAns rb w w' v t (cmI sub x rest):=by
 obtain ⟨R,hR⟩:∃ R,R=cmI sub x rest:=⟨_,rfl⟩
 rw[←hR]
 unfold cmI at hR
 have P1:=Lib.hid (c_CutPre x ifP)
 have P2:=Lib.hid (c_CutPre x whP)
 have hl1:=trimP_len x ifP
 have hl2:=trimP_len x whP
 have K1:=Lib.hid fun (W:World) (hT:TM W) (h:Blk W rb tLR #[sv rest])=>c_brs d HS hs hM (Lib.trimPrefix x ifP) rest W hT hrb h hl (by omega) hd
 have K2:=Lib.hid fun (W:World) (hT:TM W) (h:Blk W rb tLR #[sv rest])=>c_lps d HS hs hM (Lib.trimPrefix x whP) rest W hT hrb h hl (by omega) hd
 have K3:=Lib.hid fun (W:World) (hT:TM W)=>c_bscI x W hT (by omega)
 obtain ⟨t1,ht1⟩:∃ t,t=Lib.trimPrefix x ifP:=⟨_,rfl⟩
 obtain ⟨t2,ht2⟩:∃ t,t=Lib.trimPrefix x whP:=⟨_,rfl⟩
 obtain ⟨p1,hp1⟩:∃ t,t=Lib.hasPrefix x ifP:=⟨_,rfl⟩
 obtain ⟨p2,hp2⟩:∃ t,t=Lib.hasPrefix x whP:=⟨_,rfl⟩
 rw[←ht1] at K1
 rw[←ht2] at K2
 rw[←ht1,←hp1] at P1
 rw[←ht2,←hp2] at P2
 rw[←ht1,←ht2,←hp1,←hp2] at hR
 have HT:=Lib.hid hT
 have hrl:=h.lt
 replace hR:=Lib.hid hR
 clear ht1 ht2 hp1 hp2 hl1 hl2 hT HS hs
 go_enter Tryz.func34,Tryz.ntmps34
 go_upto_region 1 with fail
 refine bx1 (w:=w) (F:=Code.wp _ _ _ _) ?_
 rintro W k0 hB hWs
 replace HT:=Lib.hid (HT.out.below hB)
 have kr:=h.next hB
 have HB:=Lib.hid (Fr.ofBelow (g:=rb) hB)
 have hgW:w.heap.size<W.heap.size:=by omega
 clear hB hWs h
 go_wp2_with fail
 refine (P1.out _).mono ?_
 rintro e w1 ⟨rfl,rfl⟩
 have q0:=k0.cell
 have r0:=k0.frozen
 have l0:=k0.lt
 cases p1 with
 | true=>
  have hR1:R=ifI sub t1 rest:=by rw[hR.out];rfl
  clear P2 K2 K3 hR
  go_wp2_with fail
  refine (K1.out W HT.out kr).mono ?_
  rintro e w2 ⟨v,rfl,t,hC⟩
  rw[←hR1] at hC ⊢
  have hk0:=k0.fr hC.2.1 (by omega)
  obtain ⟨ck,ca,cb,ct,cx,cy,A6,A7,A8,A9,n6,c6,n7,c7,n8,c8,n9,c9,rfl⟩:=hC.1
  replace hC:=Lib.hid hC
  have q2:=hk0.cell
  have r2:=hk0.frozen
  have l2:=hk0.lt
  clear K1 q0 r0 l0 hR1
  go_wp2_with fail
  have z:=set10 hk0 (.int .i64 ck) (.int .i64 ca) (.int .i64 cb) (.bool ct) (.int .i64 cx) (.int .i64 cy) (.slice A6 n6 c6) (.slice A7 n7 c7) (.slice A8 n8 c8) (.slice A9 n9 c9)
  refine bodyPost_ret (v:=.tuple #[.agg #[.int .i64 ck,.int .i64 ca,.int .i64 cb,.bool ct,.int .i64 cx,.int .i64 cy,.slice A6 n6 c6,.slice A7 n7 c7,.slice A8 n8 c8,.slice A9 n9 c9],.bool R.isSome]) (by simp[results,Tryz.results34,go_sem,z.1.cell]) rfl ⟨_,rfl,_,CmAns.up HB.out hC.out z.2 (Nat.le_refl _) hgW hrl⟩
 | false=>
  go_wp2_with fail
  refine (P2.out _).mono ?_
  rintro e w1 ⟨rfl,rfl⟩
  cases p2 with
  | true=>
   have hR1:R=whI sub t2 rest:=by rw[hR.out];rfl
   clear P1 K1 K3 hR
   go_wp2_with fail
   refine (K2.out W HT.out kr).mono ?_
   rintro e w2 ⟨v,rfl,t,hC⟩
   rw[←hR1] at hC ⊢
   have hk0:=k0.fr hC.2.1 (by omega)
   obtain ⟨ck,ca,cb,ct,cx,cy,A6,A7,A8,A9,n6,c6,n7,c7,n8,c8,n9,c9,rfl⟩:=hC.1
   replace hC:=Lib.hid hC
   have q2:=hk0.cell
   have r2:=hk0.frozen
   have l2:=hk0.lt
   clear K2 q0 r0 l0 hR1
   go_wp2_with fail
   have z:=set10 hk0 (.int .i64 ck) (.int .i64 ca) (.int .i64 cb) (.bool ct) (.int .i64 cx) (.int .i64 cy) (.slice A6 n6 c6) (.slice A7 n7 c7) (.slice A8 n8 c8) (.slice A9 n9 c9)
   refine bodyPost_ret (v:=.tuple #[.agg #[.int .i64 ck,.int .i64 ca,.int .i64 cb,.bool ct,.int .i64 cx,.int .i64 cy,.slice A6 n6 c6,.slice A7 n7 c7,.slice A8 n8 c8,.slice A9 n9 c9],.bool R.isSome]) (by simp[results,Tryz.results34,go_sem,z.1.cell]) rfl ⟨_,rfl,_,CmAns.up HB.out hC.out z.2 (Nat.le_refl _) hgW hrl⟩
  | false=>
   have hR1:R=(bscI x).map fun h=>(h,.nil,.nil,rest):=by rw[hR.out];rfl
   clear P1 K1 K2 hR
   go_wp2_with fail
   refine (K3.out W HT.out).mono ?_
   rintro e w2 ⟨k,a,b,rfl,hX,hB⟩
   obtain ⟨B,hB0⟩:∃ B,B=bscI x:=⟨_,rfl⟩
   rw[←hB0] at hR1 hX ⊢
   clear hB0
   have hC:CmAns rb W w2 (basV k a b) rest R:=by
    refine ⟨.bas k a b,.ofBelow hB,kr.next hB,fun c hc=>?_⟩
    rw[hR1] at hc
    obtain ⟨h,hh,rfl⟩:=Option.map_eq_some_iff.mp hc
    obtain ⟨rfl,rfl,rfl,e1,e2⟩:=hX h hh
    exact ⟨rfl,C1Q.bas hB.size e1 e2⟩
   have hs:B.isSome=R.isSome:=by rw[hR1];cases B<;>rfl
   rw[hs]
   have hk0:=k0.fr hC.2.1 (by omega)
   replace hC:=Lib.hid hC
   have q2:=hk0.cell
   have r2:=hk0.frozen
   have l2:=hk0.lt
   clear K3 q0 r0 l0 hX hR1 hs
   unfold basV
   go_wp2_with fail
   have z:=set10 hk0 (.int .i64 k) (.int .i64 a) (.int .i64 b) (.bool false) (.int .i64 0) (.int .i64 0) (.slice none 0 0) (.slice none 0 0) (.slice none 0 0) (.slice none 0 0)
   refine bodyPost_ret (v:=.tuple #[basV k a b,.bool R.isSome]) (by simp[results,Tryz.results34,go_sem,z.1.cell,basV]) rfl ⟨_,rfl,_,CmAns.up HB.out hC.out z.2 (Nat.le_refl _) hgW hrl⟩
end Go.Proofs.YtjbboklnegfohaaGreatDoor
