/- impl.RunBasic at a valid state and a valid command. -/
import Derived.Test.YtmcgbeladjlcpaaGreatMDrawSy
set_option linter.unusedSimpArgs false
set_option linter.unusedVariables false
set_option maxRecDepth 100000
set_option maxHeartbeats 25600000
namespace Go.Proofs.YtmcgbeladjlcpaaGreat
section
open Go Go.RowKit Go.Proofs
attribute [local go_sem ↓] Go.wp_at_zero Go.wp_at_succ
theorem fieldsB_of {k a b:Int} {t:Fct} {i:Asn} {body els:Cms} (hk:basicB k=true) (h:fvalB k a b t i body els=true):fieldsB k a b=true:=by
 have h1:=of_decide_eq_true hk
 unfold fvalB at h
 rw[if_neg (by omega),if_neg (by omega),Bool.and_eq_true] at h
 exact h.2
theorem c_RunBasic {lo hi lo1 hi1:Nat} (v v1:Value) (s:Ste) (x:Cm1) (w:World) (h:StateV w lo hi v s) (hs:s.valid=true) (h1:C1V w lo1 hi1 v1 x) (hb:basicB x.k=true) (hf:fvalB x.k x.a x.b x.t x.i x.body x.els=true) :
  Calls Tryz.prog 16 #[v,v1] w fun e w'=>∃ r,e=.returned (.tuple #[r,.int .i64 (basicF s x.k x.a x.b).2])∧StateO w' w.heap.size r (if (basicF s x.k x.a x.b).2=0 then (basicF s x.k x.a x.b).1 else ⟨[],[]⟩)∧Below w.heap.size w w':=by
 have hS:=Lib.hid h
 obtain ⟨V1,e1,V2,e2,rfl,-,-⟩:=h
 obtain ⟨A1,d1,A2,d2,A3,d3,A4,d4,rfl,q1,q2,q3⟩:=h1
 have HI:=Lib.hid q1
 have h3:=q2.len
 have h4:=q3.len
 have hfb:=fieldsB_of hb hf
 have HBB:=Lib.hid hb
 have HFV:=Lib.hid hf
 have HSV:=Lib.hid hs
 have hZ:∀ W:World,StateO W w.heap.size (.agg #[.slice none 0 0,.slice none 0 0]) ⟨[],[]⟩:=fun W=>⟨_,_,rfl,IntsO.nil _ _,IntsO.nil _ _,fun g hg=>by cases hg⟩
 replace hZ:=Lib.hid hZ
 obtain ⟨P,hP⟩:∃ P,P=basicF s x.k x.a x.b:=⟨_,rfl⟩
 have HCB:Hid (∀ (W:World) (B g:Nat),Mach W B g s 0→Calls Tryz.prog 78 #[.pointer (some ⟨g,0,none⟩),.agg #[.int .i64 x.k,.int .i64 x.a,.int .i64 x.b,.bool x.t.eq,.int .i64 x.t.a,.int .i64 x.t.b,.slice A1 x.i.facts.length d1,.slice A2 x.i.atoms.length d2,.slice A3 x.body.len d3,.slice A4 x.els.len d4]] W fun e w'=>e=.returned (.int .i64 P.2)∧Mach w' B g P.1 0∧Rf B W w'):=Lib.hid (by
  intro W B g hM
  rw[hP]
  exact c_impl_basic W B g s 0 x.k x.a x.b x.t _ _ _ _ hM hs hfb)
 rw[←hP]
 obtain ⟨s2,cd⟩:=P
 simp only at HCB ⊢
 clear hs hb hf hfb q1 q2 q3 hP
 have k2:Blk (((w.alloc (.cells #[.slice V1 s.values.length e1,.slice V2 s.heap.length e2] 40)).alloc (.cells #[.int .i64 x.k,.int .i64 x.a,.int .i64 x.b,.bool x.t.eq,.int .i64 x.t.a,.int .i64 x.t.b,.slice A1 x.i.facts.length d1,.slice A2 x.i.atoms.length d2,.slice A3 x.body.len d3,.slice A4 x.els.len d4] tC)).alloc (.cells #[.slice none 0 0,.slice none 0 0] 40)) w.heap.size 40 #[.slice V1 s.values.length e1,.slice V2 s.heap.length e2]:=blks
 have k3:Blk (((w.alloc (.cells #[.slice V1 s.values.length e1,.slice V2 s.heap.length e2] 40)).alloc (.cells #[.int .i64 x.k,.int .i64 x.a,.int .i64 x.b,.bool x.t.eq,.int .i64 x.t.a,.int .i64 x.t.b,.slice A1 x.i.facts.length d1,.slice A2 x.i.atoms.length d2,.slice A3 x.body.len d3,.slice A4 x.els.len d4] tC)).alloc (.cells #[.slice none 0 0,.slice none 0 0] 40)) (w.heap.size+1) tC #[.int .i64 x.k,.int .i64 x.a,.int .i64 x.b,.bool x.t.eq,.int .i64 x.t.a,.int .i64 x.t.b,.slice A1 x.i.facts.length d1,.slice A2 x.i.atoms.length d2,.slice A3 x.body.len d3,.slice A4 x.els.len d4]:=blks
 have k4:Blk (((w.alloc (.cells #[.slice V1 s.values.length e1,.slice V2 s.heap.length e2] 40)).alloc (.cells #[.int .i64 x.k,.int .i64 x.a,.int .i64 x.b,.bool x.t.eq,.int .i64 x.t.a,.int .i64 x.t.b,.slice A1 x.i.facts.length d1,.slice A2 x.i.atoms.length d2,.slice A3 x.body.len d3,.slice A4 x.els.len d4] tC)).alloc (.cells #[.slice none 0 0,.slice none 0 0] 40)) (w.heap.size+1+1) 40 #[.slice none 0 0,.slice none 0 0]:=blks
 have hB:Below w.heap.size w (((w.alloc (.cells #[.slice V1 s.values.length e1,.slice V2 s.heap.length e2] 40)).alloc (.cells #[.int .i64 x.k,.int .i64 x.a,.int .i64 x.b,.bool x.t.eq,.int .i64 x.t.a,.int .i64 x.t.b,.slice A1 x.i.facts.length d1,.slice A2 x.i.atoms.length d2,.slice A3 x.body.len d3,.slice A4 x.els.len d4] tC)).alloc (.cells #[.slice none 0 0,.slice none 0 0] 40)):=bel
 go_enter Tryz.func16,Tryz.ntmps16
 go_upto_region 1 with fail
 generalize (((w.alloc (.cells #[.slice V1 s.values.length e1,.slice V2 s.heap.length e2] 40)).alloc (.cells #[.int .i64 x.k,.int .i64 x.a,.int .i64 x.b,.bool x.t.eq,.int .i64 x.t.a,.int .i64 x.t.b,.slice A1 x.i.facts.length d1,.slice A2 x.i.atoms.length d2,.slice A3 x.body.len d3,.slice A4 x.els.len d4] tC)).alloc (.cells #[.slice none 0 0,.slice none 0 0] 40))=W at k2 k3 k4 hB ⊢
 (replace qk2:=k2.cell;replace rk2:=k2.frozen;replace lk2:=k2.lt;replace qk3:=k3.cell;replace rk3:=k3.frozen;replace lk3:=k3.lt;replace qk4:=k4.cell;replace rk4:=k4.frozen;replace lk4:=k4.lt)
 go_wp2_with fail
 refine (c_impl_StateValid _ s _ (hS.out.below hB)).mono ?_
 rintro e w1 ⟨rfl,hB1⟩
 rw[HSV.out]
 (replace hB:=bgo hB hB1;replace k2:=k2.next hB1;replace qk2:=k2.cell;replace rk2:=k2.frozen;replace lk2:=k2.lt;replace k3:=k3.next hB1;replace qk3:=k3.cell;replace rk3:=k3.frozen;replace lk3:=k3.lt;replace k4:=k4.next hB1;replace qk4:=k4.cell;replace rk4:=k4.frozen;replace lk4:=k4.lt)
 clear hB1
 go_wp2_with fail
 refine (c_impl_isBasic x.k x.a x.b x.t _ _ _ _ _).mono ?_
 rintro e w2 ⟨rfl,hB2⟩
 rw[HBB.out]
 (replace hB:=bgo hB hB2;replace k2:=k2.next hB2;replace qk2:=k2.cell;replace rk2:=k2.frozen;replace lk2:=k2.lt;replace k3:=k3.next hB2;replace qk3:=k3.cell;replace rk3:=k3.frozen;replace lk3:=k3.lt;replace k4:=k4.next hB2;replace qk4:=k4.cell;replace rk4:=k4.frozen;replace lk4:=k4.lt)
 clear hB2
 go_wp2_with fail
 refine (c_impl_fieldsValid x.k x.a x.b x.t x.i A1 A2 A3 A4 d1 d2 d3 d4 x.body x.els _ (HI.out.below hB) h3 h4).mono ?_
 rintro e w3 ⟨rfl,hB3⟩
 rw[HFV.out]
 (replace hB:=bgo hB hB3;replace k2:=k2.next hB3;replace qk2:=k2.cell;replace rk2:=k2.frozen;replace lk2:=k2.lt;replace k3:=k3.next hB3;replace qk3:=k3.cell;replace rk3:=k3.frozen;replace lk3:=k3.lt;replace k4:=k4.next hB3;replace qk4:=k4.cell;replace rk4:=k4.frozen;replace lk4:=k4.lt)
 clear hB3
 go_wp2_with fail
 refine (c_impl_copyState _ s _ (hS.out.below hB)).mono ?_
 rintro e w4 ⟨r,rfl,o,hB4⟩
 have hz3:=hB.size
 have l4:=k4.lt
 have hs4:=hB4.size
 (replace hB:=bgo hB hB4;replace k2:=k2.next hB4;replace qk2:=k2.cell;replace rk2:=k2.frozen;replace lk2:=k2.lt;replace k3:=k3.next hB4;replace qk3:=k3.cell;replace rk3:=k3.frozen;replace lk3:=k3.lt;replace k4:=k4.next hB4;replace qk4:=k4.cell;replace rk4:=k4.frozen;replace lk4:=k4.lt)
 clear hB4
 obtain ⟨fv,hv,rfl,o1,o2,dj⟩:=o
 obtain ⟨F,f1,rfl,-⟩:=o1.reads
 obtain ⟨G,g1,rfl,-⟩:=o2.reads
 have hbx:=bbox (Below.refl _ w4) (.cells #[.slice F s.values.length f1,.slice G s.heap.length g1,.int .i64 0] tM)
 have HM:Hid (Mach (w4.alloc (.cells #[.slice F s.values.length f1,.slice G s.heap.length g1,.int .i64 0] tM)) w3.heap.size w4.heap.size s 0):=Lib.hid ⟨hs4,_,_,Blk.new w4 tM #[.slice F s.values.length f1,.slice G s.heap.length g1,.int .i64 0],_,_,rfl,o1.below hbx,o2.below hbx,dj⟩
 have hBx:=bgo hB hbx
 have k2x:=k2.next hbx
 have k3x:=k3.next hbx
 have k4x:=k4.next hbx
 clear o1 o2 dj hbx
 go_upto_region 4 with fail
 generalize (w4.alloc (.cells #[.slice F s.values.length f1,.slice G s.heap.length g1,.int .i64 0] tM))=WM at *
 clear k2 k3 k4 qk2 rk2 lk2 qk3 rk3 lk3 qk4 rk4 lk4 hB
 (replace qk2x:=k2x.cell;replace rk2x:=k2x.frozen;replace lk2x:=k2x.lt;replace qk3x:=k3x.cell;replace rk3x:=k3x.frozen;replace lk3x:=k3x.lt;replace qk4x:=k4x.cell;replace rk4x:=k4x.frozen;replace lk4x:=k4x.lt)
 go_wp2_with fail
 refine (HCB.out _ _ _ HM.out).mono ?_
 rintro e w5 ⟨rfl,hM5,hR5⟩
 obtain ⟨Fz,fz,Gz,gz,hBg,kM,i1,i2,dj⟩:=hM5.form
 have k4y:=k4x.below hR5.below (by omega)
 have hB5:=hBx.trans (hR5.below.mono (by omega))
 replace i1:=Lib.hid (i1.lower (base':=w.heap.size) (by omega))
 replace i2:=Lib.hid (i2.lower (base':=w.heap.size) (by omega))
 replace dj:=Lib.hid dj
 have KB:=Lib.hid k4y
 have qkM:=kM.cell
 have rkM:=kM.frozen
 have lkM:=kM.lt
 clear hM5 HM HCB hR5 k2x k3x k4x qk2x rk2x lk2x qk3x rk3x lk3x qk4x rk4x lk4x hBx
 (replace qk4y:=k4y.cell;replace rk4y:=k4y.frozen;replace lk4y:=k4y.lt)
 by_cases hc:cd=0
 ·subst hc
  go_wp2_with fail
  refine bodyPost_ret (v:=.tuple #[.agg #[.slice Fz s2.values.length fz,.slice Gz s2.heap.length gz],.int .i64 0]) (by simp[results,Tryz.results16,go_sem,qk4y,lk4y]) rfl ⟨_,rfl,?_,?_⟩
  ·first|rw[if_pos rfl]|skip
   exact ⟨_,_,rfl,(i1.out.setT KB.out (by decide) 0 _).setT (KB.out.set_ 0 _) (by decide) 1 _,(i2.out.setT KB.out (by decide) 0 _).setT (KB.out.set_ 0 _) (by decide) 1 _,dj.out⟩
  ·exact (hB5.setCell (p:=⟨w.heap.size+1+1,0,none⟩) (by simp only;omega) _).setCell (p:=⟨w.heap.size+1+1,1,none⟩) (by simp only;omega) _
 ·have hcb:(cd != 0)=true:=by simpa using hc
  go_wp2_with fail
  refine bodyPost_ret (v:=.tuple #[.agg #[.slice none 0 0,.slice none 0 0],.int .i64 cd]) (by simp[results,Tryz.results16,go_sem,qk4y,lk4y]) rfl ⟨_,rfl,?_,?_⟩
  ·first|rw[if_neg hc]|skip
   exact hZ.out _
  ·exact (hB5.setCell (p:=⟨w.heap.size+1+1,0,none⟩) (by simp only;omega) _).setCell (p:=⟨w.heap.size+1+1,1,none⟩) (by simp only;omega) _
end

end Go.Proofs.YtmcgbeladjlcpaaGreat
