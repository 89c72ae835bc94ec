/- Programs: validity, impl's way. -/
import Derived.Test.YtjbboklnegfohaaGreatDoorMAlloc
import Derived.Test.YtjbboklnegfohaaGreatDoorMPrgM
set_option linter.unusedSimpArgs false
set_option linter.unusedVariables false
namespace Go.Proofs.YtjbboklnegfohaaGreatDoor
open Go Go.RowKit Go.Proofs
theorem noFct_cases (t:Fct):t=⟨false,0,0⟩∨(t.eq=true∧noFct t=false)∨(t.eq=false∧t.a≠0∧noFct t=false)∨(t.eq=false∧t.a=0∧t.b≠0∧noFct t=false):=by
 obtain ⟨q,a,b⟩:=t
 simp only[noFct,Fct.mk.injEq]
 cases q
 ·by_cases ha:a=0
  ·by_cases hb:b=0
   ·simp[ha,hb]
   ·simp[ha,hb]
  ·simp[ha]
 ·simp
/- a basic command that is not plain -/
set_option maxRecDepth 100000 in
set_option maxHeartbeats 3200000 in
theorem fields_no {lo hi:Nat} (k a b:Int) (t:Fct) (i:Asn) (A1 A2 A3 A4:Option Addr) (c1 c2 c3 c4:Nat) (body els:Cms) (w:World) (hA:AsnV w lo hi (.agg #[.slice A1 i.facts.length c1,.slice A2 i.atoms.length c2]) i) (h3:body.len≤1049600) (h4:els.len≤1049600) (hk:1≤k∧k≤5) (hn:plainB t i body els=false) :
  Calls Tryz.prog 36 #[.agg #[.int .i64 k,.int .i64 a,.int .i64 b,.bool t.eq,.int .i64 t.a,.int .i64 t.b,.slice A1 i.facts.length c1,.slice A2 i.atoms.length c2,.slice A3 body.len c3,.slice A4 els.len c4]] w fun e w'=>e=.returned (.bool false)∧Below w.heap.size w w':=by
 have h1:i.facts.length≤1049600:=by obtain ⟨_,_,_,_,e,g1,g2⟩:=hA;exact g1.le
 have h2:i.atoms.length≤1049600:=by obtain ⟨_,_,_,_,e,g1,g2⟩:=hA;exact g2.le
 have hkb:basicB k=true:=by simp[basicB,hk]
 replace hkb:=Lib.hid hkb
 clear hA hk
 obtain ⟨y,hy⟩:∃ y,y=noAsn i:=⟨_,rfl⟩
 replace hy:=Lib.hid hy
 obtain rfl|⟨u1,-⟩|⟨u1,u2,-⟩|⟨u1,u2,u3,-⟩:=noFct_cases t
 case' inr.inl=>rw[u1];clear u1
 case' inr.inr.inl=>rw[u1];clear u1
 case' inr.inr.inr=>rw[u1,u2];clear u1 u2
 case inl=>
  have hn':(y&&(decide (body.len=0)&&decide (els.len=0)))=false:=by rw[hy.out];simpa[plainB,noFct] using hn
  clear hn
  replace hn':=Lib.hid hn'
  go_enter Tryz.func36,Tryz.ntmps36
  go_wp2_with fail
  refine (c_impl_isBasic k a b ⟨false,0,0⟩ _ _ _ _ _).mono ?_
  rintro e w1 ⟨rfl,hB1⟩
  rw[hkb.out]
  have hB:=bgo (w:=w) bel hB1
  have K0:=(Blk.next (g:=w.heap.size) (Blk.new w _ _) hB1)
  have q0:=K0.cell
  have l0:=K0.lt
  clear hB1
  go_wp2_with fail
  refine (c_impl_noAssertion A1 A2 c1 c2 i _ h1 h2).mono ?_
  rintro e w2 ⟨rfl,hB2⟩
  rw[←hy.out]
  have hBB:=bgo hB hB2
  have K1:=K0.next hB2
  clear q0 l0 hB2
  have q0:=K1.cell
  have l0:=K1.lt
  cases y
  ·go_wp2_with fail
   go_ret
   exact ⟨ret_bool rfl,hBB⟩
  by_cases z1:body.len=0
  case neg=>
   have z1':0<body.len:=by omega
   go_wp2_with fail
   go_ret
   exact ⟨ret_bool rfl,hBB⟩
  by_cases z2:els.len=0
  case neg=>
   have z2':0<els.len:=by omega
   go_wp2_with fail
   go_ret
   exact ⟨ret_bool rfl,hBB⟩
  exact absurd hn'.out (by simp[z1,z2])
 case inr.inl=>
  clear hn
  go_enter Tryz.func36,Tryz.ntmps36
  go_wp2_with fail
  refine (c_impl_isBasic k a b ⟨true,t.a,t.b⟩ _ _ _ _ _).mono ?_
  rintro e w1 ⟨rfl,hB1⟩
  rw[hkb.out]
  have hB:=bgo (w:=w) bel hB1
  have K0:=(Blk.next (g:=w.heap.size) (Blk.new w _ _) hB1)
  have q0:=K0.cell
  have l0:=K0.lt
  clear hB1
  go_wp2_with fail
  go_ret
  exact ⟨ret_bool rfl,hB⟩
 case inr.inr.inl=>
  clear hn
  go_enter Tryz.func36,Tryz.ntmps36
  go_wp2_with fail
  refine (c_impl_isBasic k a b ⟨false,t.a,t.b⟩ _ _ _ _ _).mono ?_
  rintro e w1 ⟨rfl,hB1⟩
  rw[hkb.out]
  have hB:=bgo (w:=w) bel hB1
  have K0:=(Blk.next (g:=w.heap.size) (Blk.new w _ _) hB1)
  have q0:=K0.cell
  have l0:=K0.lt
  clear hB1
  go_wp2_with fail
  go_ret
  exact ⟨ret_bool rfl,hB⟩
 case inr.inr.inr=>
  clear hn
  go_enter Tryz.func36,Tryz.ntmps36
  go_wp2_with fail
  refine (c_impl_isBasic k a b ⟨false,0,t.b⟩ _ _ _ _ _).mono ?_
  rintro e w1 ⟨rfl,hB1⟩
  rw[hkb.out]
  have hB:=bgo (w:=w) bel hB1
  have K0:=(Blk.next (g:=w.heap.size) (Blk.new w _ _) hB1)
  have q0:=K0.cell
  have l0:=K0.lt
  clear hB1
  go_wp2_with fail
  go_ret
  exact ⟨ret_bool rfl,hB⟩
set_option maxRecDepth 100000 in
set_option maxHeartbeats 3200000 in
theorem fields_yes {lo hi:Nat} (k a b:Int) (t:Fct) (i:Asn) (A1 A2 A3 A4:Option Addr) (c1 c2 c3 c4:Nat) (body els:Cms) (w:World) (hA:AsnV w lo hi (.agg #[.slice A1 i.facts.length c1,.slice A2 i.atoms.length c2]) i) (h3:body.len≤1049600) (h4:els.len≤1049600) (hk:1≤k∧k≤5) (hn:plainB t i body els=true) :
  Calls Tryz.prog 36 #[.agg #[.int .i64 k,.int .i64 a,.int .i64 b,.bool t.eq,.int .i64 t.a,.int .i64 t.b,.slice A1 i.facts.length c1,.slice A2 i.atoms.length c2,.slice A3 body.len c3,.slice A4 els.len c4]] w fun e w'=>e=.returned (.bool (fieldsB k a b))∧Below w.heap.size w w':=by
 have h1:i.facts.length≤1049600:=by obtain ⟨_,_,_,_,e,g1,g2⟩:=hA;exact g1.le
 have h2:i.atoms.length≤1049600:=by obtain ⟨_,_,_,_,e,g1,g2⟩:=hA;exact g2.le
 have hkb:basicB k=true:=by simp[basicB,hk]
 replace hkb:=Lib.hid hkb
 replace hk:=Lib.hid hk
 clear hA
 have hn':noFct t=true∧noAsn i=true∧body.len=0∧els.len=0:=by simpa[plainB] using hn
 obtain ⟨e1,e2,e3,e4⟩:=hn'
 rw[e3,e4]
 clear hn e3 e4
 obtain rfl:t=⟨false,0,0⟩:=by simpa[noFct] using e1
 clear e1
 replace e2:=Lib.hid e2
 obtain ⟨R,hR⟩:∃ R,R=fieldsB k a b:=⟨_,rfl⟩
 rw[←hR]
 unfold fieldsB at hR
 obtain ⟨pa,hpa⟩:∃ pa,pa=isProgB a:=⟨_,rfl⟩
 obtain ⟨ta,hta⟩:∃ ta,ta=isTermB a:=⟨_,rfl⟩
 obtain ⟨tb,htb⟩:∃ tb,tb=isTermB b:=⟨_,rfl⟩
 rw[←hpa,←hta,←htb] at hR
 replace hpa:=Lib.hid hpa
 replace hta:=Lib.hid hta
 replace htb:=Lib.hid htb
 replace hR:=Lib.hid hR
 go_enter Tryz.func36,Tryz.ntmps36
 go_wp2_with fail
 refine (c_impl_isBasic k a b ⟨false,0,0⟩ _ _ _ _ _).mono ?_
 rintro e w1 ⟨rfl,hB1⟩
 rw[hkb.out]
 have hB:=bgo (w:=w) bel hB1
 have K0:=(Blk.next (g:=w.heap.size) (Blk.new w _ _) hB1)
 have q0:=K0.cell
 have l0:=K0.lt
 go_wp2_with fail
 refine (c_impl_noAssertion A1 A2 c1 c2 i _ h1 h2).mono ?_
 rintro e w2 ⟨rfl,hB2⟩
 rw[e2.out]
 have hBB:=bgo hB hB2
 have K1:=K0.next hB2
 clear q0 l0
 have q0:=K1.cell
 have l0:=K1.lt
 by_cases k1:k=1∨k=2
 ·have hR2:=Lib.hid (show R=(pa&&tb) from by rw[hR.out,if_pos k1])
  clear hR
  rcases k1 with rfl|rfl
  all_goals
   cases pa
   all_goals
    cases tb
    all_goals
     go_wp2_with (first|(go_at_call 64;refine (c_impl_isProgramVar a _).mono ?_;rintro e w' ⟨rfl,rfl⟩;rw[←hpa.out])|(go_at_call 65;refine (c_impl_isTerm b _).mono ?_;rintro e w' ⟨rfl,rfl⟩;rw[←htb.out]))
     go_ret
     exact ⟨ret_bool (by rw[hR2.out];rfl),hBB⟩
 by_cases k3:k=3
 ·have hR2:=Lib.hid (show R=(ta&&tb) from by rw[hR.out,if_neg k1,if_pos k3])
  clear hR
  subst k3
  clear k1
  cases ta
  all_goals
   cases tb
   all_goals
    go_wp2_with (first|(go_at_call 65;refine (c_impl_isTerm a _).mono ?_;rintro e w' ⟨rfl,rfl⟩;rw[←hta.out])|(go_at_call 65;refine (c_impl_isTerm b _).mono ?_;rintro e w' ⟨rfl,rfl⟩;rw[←htb.out]))
    go_ret
    exact ⟨ret_bool (by rw[hR2.out];rfl),hBB⟩
 by_cases k4:k=4
 ·have hR2:=Lib.hid (show R=(pa&&decide (b=0)) from by rw[hR.out,if_neg k1,if_neg k3,if_pos k4])
  clear hR
  subst k4
  clear k1 k3
  cases pa
  all_goals
   by_cases b0:b=0
   all_goals
    have hb0:=Lib.hid b0
    go_wp2_with (go_at_call 64;refine (c_impl_isProgramVar a _).mono ?_;rintro e w' ⟨rfl,rfl⟩;rw[←hpa.out])
    go_ret
    exact ⟨ret_bool (by rw[hR2.out];first|rfl|(simp_all)),hBB⟩
 obtain rfl:k=5:=by have:=hk.out;omega
 have hR2:=Lib.hid (show R=(ta&&decide (b=0)) from by rw[hR.out,if_neg k1,if_neg k3,if_neg k4,if_pos rfl])
 clear hR k1 k3 k4
 cases ta
 all_goals
  by_cases b0:b=0
  all_goals
   have hb0:=Lib.hid b0
   go_wp2_with (go_at_call 65;refine (c_impl_isTerm a _).mono ?_;rintro e w' ⟨rfl,rfl⟩;rw[←hta.out])
   go_ret
   exact ⟨ret_bool (by rw[hR2.out];first|rfl|(simp_all)),hBB⟩
set_option maxRecDepth 100000 in
set_option maxHeartbeats 3200000 in
theorem fields_far {lo hi:Nat} (k a b:Int) (t:Fct) (i:Asn) (A1 A2 A3 A4:Option Addr) (c1 c2 c3 c4:Nat) (body els:Cms) (w:World) (hA:AsnV w lo hi (.agg #[.slice A1 i.facts.length c1,.slice A2 i.atoms.length c2]) i) (h3:body.len≤1049600) (h4:els.len≤1049600) (hk:¬(1≤k∧k≤5)) :
  Calls Tryz.prog 36 #[.agg #[.int .i64 k,.int .i64 a,.int .i64 b,.bool t.eq,.int .i64 t.a,.int .i64 t.b,.slice A1 i.facts.length c1,.slice A2 i.atoms.length c2,.slice A3 body.len c3,.slice A4 els.len c4]] w fun e w'=>e=.returned (.bool (fvalB k a b t i body els))∧Below w.heap.size w w':=by
 have h1:i.facts.length≤1049600:=by obtain ⟨_,_,_,_,e,g1,g2⟩:=hA;exact g1.le
 have h2:i.atoms.length≤1049600:=by obtain ⟨_,_,_,_,e,g1,g2⟩:=hA;exact g2.le
 have hkb:basicB k=false:=by simp[basicB];omega
 replace hkb:=Lib.hid hkb
 obtain ⟨F,hF⟩:∃ F,F=fvalB k a b t i body els:=⟨_,rfl⟩
 rw[←hF]
 obtain ⟨tv,htv⟩:∃ x,x=t.valid:=⟨_,rfl⟩
 obtain ⟨ni,hni⟩:∃ x,x=noAsn i:=⟨_,rfl⟩
 obtain ⟨iv,hiv⟩:∃ x,x=i.valid:=⟨_,rfl⟩
 replace htv:=Lib.hid htv
 replace hni:=Lib.hid hni
 replace hiv:=Lib.hid hiv
 replace hF:=Lib.hid hF
 replace hA:=Lib.hid hA
 go_enter Tryz.func36,Tryz.ntmps36
 go_wp2_with fail
 refine (c_impl_isBasic k a b t _ _ _ _ _).mono ?_
 rintro e w1 ⟨rfl,hB1⟩
 rw[hkb.out]
 have hB:=bgo (w:=w) bel hB1
 have K0:=(Blk.next (g:=w.heap.size) (Blk.new w _ _) hB1)
 have q0:=K0.cell
 have l0:=K0.lt
 clear hB1
 by_cases k6:k=6
 ·subst k6
  clear hk
  by_cases a0:a=0
  case neg=>
   go_wp2_with fail
   go_ret
   exact ⟨ret_bool (hF.out.trans (by unfold fvalB;rw[if_pos rfl];simp[a0])).symm,hB⟩
  subst a0
  by_cases b0:b=0
  case neg=>
   go_wp2_with fail
   go_ret
   exact ⟨ret_bool (hF.out.trans (by unfold fvalB;rw[if_pos rfl];simp[b0])).symm,hB⟩
  subst b0
  go_wp2_with fail
  refine (c_impl_FactValid t _).mono ?_
  rintro e w2 ⟨rfl,hBx⟩
  rw[←htv.out]
  replace hB:=bgo hB hBx
  replace K0:=K0.next hBx
  replace q0:=K0.cell
  replace l0:=K0.lt
  clear hBx
  cases tv
  case false=>
   go_wp2_with fail
   go_ret
   exact ⟨ret_bool (hF.out.trans (by unfold fvalB;rw[if_pos rfl];simp[←htv.out])).symm,hB⟩
  go_wp2_with fail
  refine (c_impl_noAssertion A1 A2 c1 c2 i _ h1 h2).mono ?_
  rintro e w3 ⟨rfl,hBx⟩
  rw[←hni.out]
  replace hB:=bgo hB hBx
  replace K0:=K0.next hBx
  replace q0:=K0.cell
  replace l0:=K0.lt
  clear hBx
  have HFF:=Lib.hid (show F=ni from hF.out.trans (by unfold fvalB;rw[if_pos rfl];simp[←htv.out,←hni.out]))
  go_wp2_with fail
  go_ret
  exact ⟨ret_bool HFF.out.symm,hB⟩
 by_cases k7:k=7
 ·subst k7
  clear hk
  by_cases a0:a=0
  case neg=>
   go_wp2_with fail
   go_ret
   exact ⟨ret_bool (hF.out.trans (by unfold fvalB;rw[if_neg (by decide),if_pos rfl];simp[a0])).symm,hB⟩
  subst a0
  by_cases b0:b=0
  case neg=>
   go_wp2_with fail
   go_ret
   exact ⟨ret_bool (hF.out.trans (by unfold fvalB;rw[if_neg (by decide),if_pos rfl];simp[b0])).symm,hB⟩
  subst b0
  go_wp2_with fail
  refine (c_impl_FactValid t _).mono ?_
  rintro e w2 ⟨rfl,hBx⟩
  rw[←htv.out]
  replace hB:=bgo hB hBx
  replace K0:=K0.next hBx
  replace q0:=K0.cell
  replace l0:=K0.lt
  clear hBx
  cases tv
  case false=>
   go_wp2_with fail
   go_ret
   exact ⟨ret_bool (hF.out.trans (by unfold fvalB;rw[if_neg (by decide),if_pos rfl];simp[←htv.out])).symm,hB⟩
  go_wp2_with fail
  refine (c_impl_AssertionValid _ i _ (hA.out.below hB)).mono ?_
  rintro e w3 ⟨rfl,hBx⟩
  rw[←hiv.out]
  replace hB:=bgo hB hBx
  replace K0:=K0.next hBx
  replace q0:=K0.cell
  replace l0:=K0.lt
  clear hBx
  cases iv
  case false=>
   go_wp2_with fail
   go_ret
   exact ⟨ret_bool (hF.out.trans (by unfold fvalB;rw[if_neg (by decide),if_pos rfl];simp[←hiv.out])).symm,hB⟩
  have HFF:=Lib.hid (show F=decide (els.len=0) from hF.out.trans (by unfold fvalB;rw[if_neg (by decide),if_pos rfl];simp[←htv.out,←hiv.out]))
  by_cases e0:els.len=0
  all_goals
   have He0:=Lib.hid e0
   go_wp2_with fail
   go_ret
   exact ⟨ret_bool (by rw[HFF.out];first|rfl|(simp_all)),hB⟩
 have HFF:Hid (F=false):=by
  rw[Hid,hF.out,fvalB_basic k6 k7]
  have:fieldsB k a b=false:=by
   cases h:fieldsB k a b
   ·rfl
   ·exact absurd (fieldsB_basic h) hk
  rw[this,Bool.and_false]
 have kk1:k≠1:=fun e=>hk (by omega)
 have kk2:k≠2:=fun e=>hk (by omega)
 have kk3:k≠3:=fun e=>hk (by omega)
 have kk4:k≠4:=fun e=>hk (by omega)
 have kk5:k≠5:=fun e=>hk (by omega)
 clear hk
 go_wp2_with fail
 go_ret
 exact ⟨ret_bool HFF.out.symm,hB⟩
theorem c_impl_fieldsValid {lo hi:Nat} (k a b:Int) (t:Fct) (i:Asn) (A1 A2 A3 A4:Option Addr) (c1 c2 c3 c4:Nat) (body els:Cms) (w:World) (hA:AsnV w lo hi (.agg #[.slice A1 i.facts.length c1,.slice A2 i.atoms.length c2]) i) (h3:body.len≤1049600) (h4:els.len≤1049600) :
  Calls Tryz.prog 36 #[.agg #[.int .i64 k,.int .i64 a,.int .i64 b,.bool t.eq,.int .i64 t.a,.int .i64 t.b,.slice A1 i.facts.length c1,.slice A2 i.atoms.length c2,.slice A3 body.len c3,.slice A4 els.len c4]] w fun e w'=>e=.returned (.bool (fvalB k a b t i body els))∧Below w.heap.size w w':=by
 by_cases hk:1≤k∧k≤5
 ·rw[fvalB_basic (by omega) (by omega)]
  cases hn:plainB t i body els
  ·exact fields_no k a b t i A1 A2 A3 A4 c1 c2 c3 c4 body els w hA h3 h4 hk hn
  ·exact fields_yes k a b t i A1 A2 A3 A4 c1 c2 c3 c4 body els w hA h3 h4 hk hn
 ·exact fields_far k a b t i A1 A2 A3 A4 c1 c2 c3 c4 body els w hA h3 h4 hk
theorem idx2 (A B:Option Addr) (n m c d:Nat) (w:World):(Instr.index 81 (.agg #[.slice A n c,.slice B m d]) (.int .i64 0)).run Tryz.prog w=.ok (.slice A n c) w∧(Instr.index 81 (.agg #[.slice A n c,.slice B m d]) (.int .i64 1)).run Tryz.prog w=.ok (.slice B m d) w:=by
 have h:=Tryz.underlying81
 constructor<;>simp[Instr.index,run_underlying h,asIntOf,go_sem]
def cvB (L:Cms) (d:Nat) (room:Int):Bool:=L.shape d&&decide ((L.sz:Int)≤room)
def cvN (L:Cms) (d:Nat) (room:Int):Int:=if cvB L d room then L.sz else 0
theorem cvN_true {L:Cms} {d:Nat} {room:Int} (h:cvB L d room=true):cvN L d room=L.sz:=by unfold cvN;rw[if_pos h]
theorem cvN_false {L:Cms} {d:Nat} {room:Int} (h:cvB L d room=false):cvN L d room=0:=by unfold cvN;rw[h];rfl
set_option maxRecDepth 100000 in
set_option maxHeartbeats 3200000 in
theorem countValid_go:∀ (N:Nat) (L:Cms),L.sz<N→∀ (A:Option Addr) (c d lo hi:Nat) (D room:Int) (w:World),CmsV w lo hi A L→L.len≤1049600→L.small 1049600→D+d=5→1≤D→0≤room→room≤16→
  Calls Tryz.prog 17 #[.slice A L.len c,.int .i64 D,.int .i64 room] w fun e w'=>e=.returned (.tuple #[.int .i64 (cvN L d room),.bool (cvB L d room)])∧Below w.heap.size w w':=by
 intro N
 induction N with
 | zero=>intro L h;omega
 | succ N IH=>
  intro L hsz A c d lo hi D room w hV hlen hsm hD hD1 hr0 hr1
  replace IH:=Lib.hid IH
  replace hV:=Lib.hid hV
  replace hsm:=Lib.hid hsm
  replace hsz:=Lib.hid hsz
  obtain ⟨n,hn⟩:∃ n,n=L.len:=⟨_,rfl⟩
  obtain ⟨T,hT⟩:∃ T,T=cvN L d room:=⟨_,rfl⟩
  obtain ⟨R,hR⟩:∃ R,R=cvB L d room:=⟨_,rfl⟩
  have hno:R=false→T=0:=fun h=>by rw[hT];exact cvN_false (by rw[←hR];exact h)
  have hyes:R=true→T=L.sz:=fun h=>by rw[hT];exact cvN_true (by rw[←hR];exact h)
  rw[←hn,←hR,←hT]
  rw[←hn] at hlen
  replace hn:=Lib.hid hn
  replace hR:=Lib.hid hR
  replace hno:=Lib.hid hno
  replace hyes:=Lib.hid hyes
  replace hD:=Lib.hid hD
  clear hT
  by_cases q1:room<n
  ·have e0:R=false:=by
    rw[hR.out,cvB,Bool.and_eq_false_iff];right
    have:=Cms.len_sz L
    have h2:=hn.out
    simp;omega
   rw[e0,hno.out e0]
   go_enter Tryz.func17,Tryz.ntmps17
   go_wp2_with fail
   go_ret2
   exact ⟨rfl,bel⟩
  by_cases q2:0<n
  case' neg=>
   obtain rfl:n=0:=by omega
   have e1:L=.nil:=by
    have:=hn.out
    cases L with
    | nil=>rfl
    | cons=>simp[Cms.len] at this
  case' pos=>
   by_cases q3:4<D
   ·have e0:R=false:=by
     rw[hR.out,cvB,Bool.and_eq_false_iff];left
     obtain ⟨k,a,b,t,i,body,els,r,eL⟩:=Cms.cons_of_len (L:=L) (by rw[←hn.out];exact q2)
     obtain rfl:d=0:=by have:=hD.out;omega
     rw[eL];rfl
    rw[e0,hno.out e0]
    go_enter Tryz.func17,Tryz.ntmps17
    go_wp2_with fail
    go_ret2
    exact ⟨rfl,bel⟩
   have hd1:Hid (1≤d):=by have:=hD.out;show 1≤d;omega
  case neg=>
   have e0:R=true:=by rw[hR.out,e1];simp[cvB,Cms.shape,Cms.sz,hr0]
   have e2:T=0:=by rw[hyes.out e0,e1];rfl
   rw[e0,e2]
   clear e1 e0 e2
   go_enter Tryz.func17,Tryz.ntmps17
   go_wp2_with fail
   go_loopw [8,32] (fun m x wr=>m=.int .i64 0∧x=.int .i64 0∧Below w.heap.size w wr) (fun _ _ _=>0)
   case atStart=>exact ⟨rfl,rfl,bel⟩
   case round=>
    obtain ⟨rfl,rfl,hB⟩:=hrel
    go_wp2_with fail
    go_ret2
    exact ⟨rfl,hB⟩
  go_enter Tryz.func17,Tryz.ntmps17
  go_wp2_with fail
  go_loopw [8,32] (fun y x wr=>∃ j m:Nat,j≤n∧x=.int .i64 j∧y=.int .i64 m∧(m:Int)≤room∧Hid (m+(L.drop j).sz=L.sz+(L.drop j).len)∧Hid (L.shape d=(L.drop j).shape d)∧Below w.heap.size w wr) (fun _ x _=>n - (intOf x).toNat)
  case atStart=>exact ⟨0,n,Nat.zero_le _,rfl,rfl,by omega,Lib.hid (by have:=hn.out;show n+L.sz=L.sz+L.len;omega),Lib.hid rfl,bel⟩
  case round=>
   obtain ⟨j,m,hj,rfl,rfl,hm,HZ,HR,hB⟩:=hrel
   by_cases hlt:j<n
   ·have hpos:0<(L.drop j).len:=by rw[Cms.drop_len,←hn.out];omega
    obtain ⟨k,a,b,t,i,body,els,r,eL⟩:=Cms.cons_of_len hpos
    obtain ⟨bl,o,rfl,-,-,hAt⟩:=(hV.out.below hB) (by rw[←hn.out];omega)
    have hDr:=hAt.drop j
    have hS:=Cms.small_drop j hsm.out
    have hZ:=Cms.sz_drop j L
    have hDs:=Cms.drop_succ j L eL
    have HR':=HR.out
    have HZ':=HZ.out
    rw[eL] at hDr hS hZ HR' HZ'
    obtain ⟨⟨p0,p1,p2,p3,p4,p5⟩,⟨A6,c6,p6,g6⟩,⟨A7,c7,p7,g7⟩,⟨A8,c8,p8,g8⟩,⟨A9,c9,p9,g9⟩,-⟩:=hDr
    obtain ⟨s1,s2,s3,s4,s5,s6,-⟩:=hS
    simp only[Cms.sz] at hZ
    simp only[Cms.sz,Cms.len] at HZ'
    have hbs:body.sz<N:=by have:=hsz.out;omega
    have hes:els.sz<N:=by have:=hsz.out;omega
    have hrl:=Cms.len_sz r
    have gA:AsnV wr lo hi (.agg #[.slice A6 i.facts.length c6,.slice A7 i.atoms.length c7]) i:=⟨_,_,_,_,rfl,⟨g6,s1⟩,⟨g7,s2⟩⟩
    have gB:Hid (CmsV wr lo hi A8 body):=g8
    have gE:Hid (CmsV wr lo hi A9 els):=g9
    obtain ⟨e,rfl⟩:∃ e,d=e+1:=⟨d - 1,by have:=hd1.out;omega⟩
    rw[Cms.shape.eq_2,decide_eq_true (by omega),Bool.true_and,Nat.add_sub_cancel,←hDs] at HR'
    obtain ⟨F,hF⟩:∃ F,F=fvalB k a b t i body els:=⟨_,rfl⟩
    rw[←hF] at HR'
    have f1:F=false→R=false:=fun h=>by rw[hR.out,cvB,HR',h];rfl
    have f2:cvB body e (room - m)=false→R=false:=fun h=>by
     rw[cvB,Bool.and_eq_false_iff] at h
     rw[hR.out,cvB,Bool.and_eq_false_iff]
     rcases h with h|h
     ·left;rw[HR',h];simp
     ·right;simp at h ⊢;omega
    have f3:cvB els e (room - ((m+body.sz:Nat):Int))=false→R=false:=fun h=>by
     rw[cvB,Bool.and_eq_false_iff] at h
     rw[hR.out,cvB,Bool.and_eq_false_iff]
     rcases h with h|h
     ·left;rw[HR',h];simp
     ·right;simp at h ⊢;omega
    have t2:cvB body e (room - m)=true→body.shape e=true∧(body.sz:Int)≤room - m:=fun h=>by simpa[cvB] using h
    have t3:cvB els e (room - ((m+body.sz:Nat):Int))=true→els.shape e=true∧(els.sz:Int)≤room - ((m+body.sz:Nat):Int):=fun h=>by simpa[cvB] using h
    replace f1:=Lib.hid f1
    replace f2:=Lib.hid f2
    replace f3:=Lib.hid f3
    replace t2:=Lib.hid t2
    replace t3:=Lib.hid t3
    replace HR':=Lib.hid HR'
    replace HZ':=Lib.hid HZ'
    replace hbs:=Lib.hid hbs
    replace hes:=Lib.hid hes
    replace s5:=Lib.hid s5
    replace s6:=Lib.hid s6
    replace gA:=Lib.hid gA
    replace hF:=Lib.hid hF
    replace hDs:=Lib.hid hDs
    replace hrl:=Lib.hid hrl
    clear hZ hpos hAt g6 g7 g8 g9 HR HZ eL
    go_wp2_with fail
    refine (c_impl_fieldsValid k a b t i A6 A7 A8 A9 c6 c7 c8 c9 body els _ (gA.out.below bel) s3 s4).mono ?_
    rintro e' w1 ⟨rfl,hBx⟩
    rw[←hF.out]
    have hB2:Below w.heap.size w w1:=bgo (bbox hB _) hBx
    have hW:Below wr.heap.size wr w1:=bgo (bbox (Below.refl _ _) _) hBx
    have k0:Blk w1 wr.heap.size tC #[.int .i64 k,.int .i64 a,.int .i64 b,.bool t.eq,.int .i64 t.a,.int .i64 t.b,.slice A6 i.facts.length c6,.slice A7 i.atoms.length c7,.slice A8 body.len c8,.slice A9 els.len c9]:=Blk.next blks hBx
    have q0:=k0.cell
    have l0:=k0.lt
    clear hBx gA p0 p1 p2 p3 p4 p5 p6 p7 p8 p9 k0
    cases F
    ·have e0:=Lib.hid (f1.out (by simp))
     go_wp2_with fail
     go_ret2
     exact ⟨by rw[e0.out,hno.out e0.out];rfl,hB2⟩
    have gB:=Lib.hid (gB.out.below hW)
    have gE:=Lib.hid (gE.out.below hW)
    clear hW hB
    go_wp2_with fail
    clear q0 l0
    go_loopw [8,44] (fun y x wx=>∃ (q:Int) (m2:Nat),x=.int .i64 q∧y=.int .i64 m2∧(m2:Int)≤room∧Hid ((q=0∧m2=m)∨(q=1∧m2=m+body.sz∧body.shape e=true)∨(q=2∧m2=m+body.sz+els.sz∧body.shape e=true∧els.shape e=true))∧Below w1.heap.size w1 wx) (fun _ x _=>2 - (intOf x).toNat)
    case atStart=>exact ⟨0,m,rfl,rfl,hm,Lib.hid (.inl ⟨rfl,rfl⟩),Below.refl _ _⟩
    case round=>
     obtain ⟨q,m2,rfl,rfl,hm2,HQ,hBi⟩:=hrel
     obtain ⟨hi0,hi1⟩:=idx2 A8 A9 body.len els.len c8 c9 wr
     rcases HQ.out with ⟨rfl,rfl⟩|⟨rfl,rfl,y1⟩|⟨rfl,rfl,y1,y2⟩
     ·clear HQ
      go_wp2_with fail
      refine (IH.out body hbs.out A8 c8 e lo hi (D+1) (room - m2) _ (gB.out.below hBi) s3 s5.out (by have:=hD.out;omega) (by omega) (by omega) (by omega)).mono ?_
      rintro e' w2 ⟨rfl,hBx⟩
      have hB3:=bgo hB2 (bgo hBi hBx)
      have hB4:=bgo hBi hBx
      clear hBx
      obtain ⟨T1,hT1⟩:∃ x,x=cvN body e (room - m2):=⟨_,rfl⟩
      obtain ⟨x1,hx1⟩:∃ x,x=cvB body e (room - m2):=⟨_,rfl⟩
      have g1:x1=true→T1=body.sz:=fun h=>by rw[hT1];exact cvN_true (by rw[←hx1];exact h)
      rw[←hT1,←hx1]
      replace hx1:=Lib.hid hx1
      replace g1:=Lib.hid g1
      clear hT1
      cases x1
      ·have e0:=Lib.hid (f2.out hx1.out.symm)
       go_wp2_with fail
       go_ret2
       exact ⟨by rw[e0.out,hno.out e0.out];rfl,hB3⟩
      ·have T2:=t2.out hx1.out.symm
       obtain rfl:=g1.out (by simp)
       have T2a:=Lib.hid T2.1
       have T2b:=T2.2
       clear T2
       go_wp2_with fail
       go_round
       case rel=>exact ⟨1,m2+body.sz,by go_num,by push_cast;rfl,by push_cast;omega,Lib.hid (.inr (.inl ⟨rfl,rfl,T2a.out⟩)),hB4⟩
       case measure=>simp[intOf]
     ·clear HQ
      replace y1:=Lib.hid y1
      go_wp2_with fail
      refine (IH.out els hes.out A9 c9 e lo hi (D+1) (room - ((m+body.sz:Nat):Int)) _ (gE.out.below hBi) s4 s6.out (by have:=hD.out;omega) (by omega) (by omega) (by omega)).mono ?_
      rintro e' w2 ⟨rfl,hBx⟩
      have hB3:=bgo hB2 (bgo hBi hBx)
      have hB4:=bgo hBi hBx
      clear hBx
      obtain ⟨T1,hT1⟩:∃ x,x=cvN els e (room - ((m+body.sz:Nat):Int)):=⟨_,rfl⟩
      obtain ⟨x1,hx1⟩:∃ x,x=cvB els e (room - ((m+body.sz:Nat):Int)):=⟨_,rfl⟩
      have g1:x1=true→T1=els.sz:=fun h=>by rw[hT1];exact cvN_true (by rw[←hx1];exact h)
      rw[←hT1,←hx1]
      replace hx1:=Lib.hid hx1
      replace g1:=Lib.hid g1
      clear hT1
      cases x1
      ·have e0:=Lib.hid (f3.out hx1.out.symm)
       go_wp2_with fail
       go_ret2
       exact ⟨by rw[e0.out,hno.out e0.out];rfl,hB3⟩
      ·have T2:=t3.out hx1.out.symm
       obtain rfl:=g1.out (by simp)
       have T2a:=Lib.hid T2.1
       have T2b:=T2.2
       clear T2
       go_wp2_with fail
       go_round
       case rel=>exact ⟨2,m+body.sz+els.sz,by go_num,by push_cast;rfl,by push_cast at T2b ⊢;omega,Lib.hid (.inr (.inr ⟨rfl,rfl,y1.out,T2a.out⟩)),hB4⟩
       case measure=>simp[intOf]
     ·clear HQ
      replace y1:=Lib.hid y1
      replace y2:=Lib.hid y2
      have hB3:=bgo hB2 hBi
      go_wp2_with fail
      go_round
      case rel=>
       refine ⟨j+1,m+body.sz+els.sz,by omega,by go_num,rfl,hm2,Lib.hid ?_,Lib.hid ?_,hB3⟩
       ·rw[hDs.out];have:=HZ'.out;omega
       ·rw[HR'.out,y1.out,y2.out];simp
      case measure=>simp[intOf];omega
   ·go_wp2_with fail
    go_ret2
    obtain rfl:j=n:=by omega
    have e1:L.drop j=.nil:=by rw[hn.out];exact Cms.drop_all L
    have h2:=HR.out
    have h3:=HZ.out
    rw[e1] at h2 h3
    simp only[Cms.sz,Cms.len,Nat.add_zero] at h3
    have e0:R=true:=by rw[hR.out,cvB,h2];simp[Cms.shape];omega
    refine ⟨?_,hB⟩
    rw[hyes.out e0,e0,←h3];rfl
theorem c_impl_ProgramValid {lo hi:Nat} (L:Cms) (A:Option Addr) (c:Nat) (w:World) (hV:CmsV w lo hi A L) (hlen:L.len≤1049600) (hsm:L.small 1049600) :
  Calls Tryz.prog 8 #[.slice A L.len c] w fun e w'=>e=.returned (.bool L.prog)∧Below w.heap.size w w':=by
 have hR:cvB L 4 16=L.prog:=by
  unfold cvB Cms.prog
  congr 1
  rw[decide_eq_decide];omega
 replace hR:=Lib.hid hR
 replace hV:=Lib.hid hV
 replace hsm:=Lib.hid hsm
 go_enter Tryz.func8,Tryz.ntmps8
 go_wp2_with fail
 refine (countValid_go _ L (Nat.lt_succ_self _) A c 4 lo hi 1 16 w hV.out hlen hsm.out (by omega) (by omega) (by omega) (by omega)).mono ?_
 rintro e w1 ⟨rfl,hB1⟩
 rw[hR.out]
 go_wp2_with fail
 go_ret
 exact ⟨rfl,hB1⟩
end Go.Proofs.YtjbboklnegfohaaGreatDoor
