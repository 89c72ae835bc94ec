/- Programs: validity, impl's way. -/
import Derived.Test.YtgdfdmjnadnlnaaGreatMRunB
set_option linter.unusedSimpArgs false
set_option linter.unusedVariables false
set_option maxRecDepth 100000
set_option maxHeartbeats 25600000
namespace Go.Proofs.YtgdfdmjnadnlnaaGreat
section
open Go Go.RowKit Go.Proofs
theorem noFct_cases (t:Fct):t=⟨false,0,0⟩∨(t.eq=true∧noFct t=false)∨(t.eq=false∧t.a≠0∧noFct t=false)∨(t.eq=false∧t.a=0∧t.b≠0∧noFct t=false):=by
 obtain ⟨q,a,b⟩:=t;simp only[noFct,Fct.mk.injEq];cases q
 ·by_cases ha:a=0
  ·by_cases hb:b=0
   ·simp[ha,hb]
   ·simp[ha,hb]
  ·simp[ha]
 ·simp
/- a basic command that is not plain -/
theorem fields_no {lo hi:Nat} (k a b:Int) (t:Fct) (i:Asn) (A1 A2 A3 A4:Option Addr) (c1 c2 c3 c4:Nat) (body els:Cms) (w:World) (hA:AsnV w lo hi (.agg #[.slice A1 i.facts.length c1,.slice A2 i.atoms.length c2]) i) (h3:body.len≤1049600) (h4:els.len≤1049600) (hk:1≤k∧k≤5) (hn:plainB t i body els=false) :
  Calls Tryz.prog 95 #[.agg #[.int .i64 k,.int .i64 a,.int .i64 b,.bool t.eq,.int .i64 t.a,.int .i64 t.b,.slice A1 i.facts.length c1,.slice A2 i.atoms.length c2,.slice A3 body.len c3,.slice A4 els.len c4]] w fun e w'=>e=.returned (.bool false)∧Below w.heap.size w w':=by
 have h1:i.facts.length≤1049600:=by obtain ⟨_,_,_,_,e,g1,g2⟩:=hA;exact g1.le
 have h2:i.atoms.length≤1049600:=by obtain ⟨_,_,_,_,e,g1,g2⟩:=hA;exact g2.le
 have hkb:basicB k=true:=by simp[basicB,hk]
 replace hkb:=ax hkb;clear hA hk;obtain ⟨y,hy⟩:∃ y,y=noAsn i:=⟨_,rfl⟩;replace hy:=ax hy;obtain rfl|⟨u1,-⟩|⟨u1,u2,-⟩|⟨u1,u2,u3,-⟩:=noFct_cases t
 case' inr.inl=>rw[u1];clear u1
 case' inr.inr.inl=>rw[u1];clear u1
 case' inr.inr.inr=>rw[u1,u2];clear u1 u2
 case inl=>
  have hn':(y&&(decide (body.len=0)&&decide (els.len=0)))=false:=by rw[hy.o];simpa [plainB,noFct] using hn
  clear hn;replace hn':=ax hn';(go_enter Tryz.func95,Tryz.ntmps95);(go_wp2_with fail);refine (c_impl_isBasic k a b ⟨false,0,0⟩ _ _ _ _ _).mono ?_;rintro e w1 ⟨rfl,hB1⟩;rw[hkb.o];have hB:=bgo (w:=w) bel hB1;have K0:=(Blk.nz (g:=w.heap.size) (Blk.new w _ _) hB1);have q0:=K0.cell;have l0:=K0.lt;clear hB1;(go_wp2_with fail);refine (c_impl_noAssertion A1 A2 c1 c2 i _ h1 h2).mono ?_;rintro e w2 ⟨rfl,hB2⟩;rw[←hy.o];have hBB:=bgo hB hB2;have K1:=K0.nz hB2;clear q0 l0 hB2;have q0:=K1.cell;have l0:=K1.lt;cases y
  ·(go_wp2_with fail);go_ret;exact ⟨ret_bool rfl,hBB⟩
  by_cases z1:body.len=0
  case neg=>
   have z1':0<body.len:=by omega
   (go_wp2_with fail);go_ret;exact ⟨ret_bool rfl,hBB⟩
  by_cases z2:els.len=0
  case neg=>
   have z2':0<els.len:=by omega
   (go_wp2_with fail);go_ret;exact ⟨ret_bool rfl,hBB⟩
  exact absurd hn'.o (by simp[z1,z2])
 case inr.inl=>
  clear hn;(go_enter Tryz.func95,Tryz.ntmps95);(go_wp2_with fail);refine (c_impl_isBasic k a b ⟨true,t.a,t.b⟩ _ _ _ _ _).mono ?_;rintro e w1 ⟨rfl,hB1⟩;rw[hkb.o];have hB:=bgo (w:=w) bel hB1;have K0:=(Blk.nz (g:=w.heap.size) (Blk.new w _ _) hB1);have q0:=K0.cell;have l0:=K0.lt;clear hB1;(go_wp2_with fail);go_ret;exact ⟨ret_bool rfl,hB⟩
 case inr.inr.inl=>
  clear hn;(go_enter Tryz.func95,Tryz.ntmps95);(go_wp2_with fail);refine (c_impl_isBasic k a b ⟨false,t.a,t.b⟩ _ _ _ _ _).mono ?_;rintro e w1 ⟨rfl,hB1⟩;rw[hkb.o];have hB:=bgo (w:=w) bel hB1;have K0:=(Blk.nz (g:=w.heap.size) (Blk.new w _ _) hB1);have q0:=K0.cell;have l0:=K0.lt;clear hB1;(go_wp2_with fail);go_ret;exact ⟨ret_bool rfl,hB⟩
 case inr.inr.inr=>
  clear hn;(go_enter Tryz.func95,Tryz.ntmps95);(go_wp2_with fail);refine (c_impl_isBasic k a b ⟨false,0,t.b⟩ _ _ _ _ _).mono ?_;rintro e w1 ⟨rfl,hB1⟩;rw[hkb.o];have hB:=bgo (w:=w) bel hB1;have K0:=(Blk.nz (g:=w.heap.size) (Blk.new w _ _) hB1);have q0:=K0.cell;have l0:=K0.lt;clear hB1;(go_wp2_with fail);go_ret;exact ⟨ret_bool rfl,hB⟩
theorem fields_yes {lo hi:Nat} (k a b:Int) (t:Fct) (i:Asn) (A1 A2 A3 A4:Option Addr) (c1 c2 c3 c4:Nat) (body els:Cms) (w:World) (hA:AsnV w lo hi (.agg #[.slice A1 i.facts.length c1,.slice A2 i.atoms.length c2]) i) (h3:body.len≤1049600) (h4:els.len≤1049600) (hk:1≤k∧k≤5) (hn:plainB t i body els=true) :
  Calls Tryz.prog 95 #[.agg #[.int .i64 k,.int .i64 a,.int .i64 b,.bool t.eq,.int .i64 t.a,.int .i64 t.b,.slice A1 i.facts.length c1,.slice A2 i.atoms.length c2,.slice A3 body.len c3,.slice A4 els.len c4]] w fun e w'=>e=.returned (.bool (fieldsB k a b))∧Below w.heap.size w w':=by
 have h1:i.facts.length≤1049600:=by obtain ⟨_,_,_,_,e,g1,g2⟩:=hA;exact g1.le
 have h2:i.atoms.length≤1049600:=by obtain ⟨_,_,_,_,e,g1,g2⟩:=hA;exact g2.le
 have hkb:basicB k=true:=by simp[basicB,hk]
 replace hkb:=ax hkb;replace hk:=ax hk;clear hA;have hn':noFct t=true∧noAsn i=true∧body.len=0∧els.len=0:=by simpa [plainB] using hn
 obtain ⟨e1,e2,e3,e4⟩:=hn';rw[e3,e4];clear hn e3 e4;obtain rfl:t=⟨false,0,0⟩:=by simpa [noFct] using e1
 clear e1;replace e2:=ax e2;obtain ⟨R,hR⟩:∃ R,R=fieldsB k a b:=⟨_,rfl⟩;rw[←hR];unfold fieldsB at hR;obtain ⟨pa,hpa⟩:∃ pa,pa=isProgB a:=⟨_,rfl⟩;obtain ⟨ta,hta⟩:∃ ta,ta=isTermB a:=⟨_,rfl⟩;obtain ⟨tb,htb⟩:∃ tb,tb=isTermB b:=⟨_,rfl⟩;rw[←hpa,←hta,←htb] at hR;replace hpa:=ax hpa;replace hta:=ax hta;replace htb:=ax htb;replace hR:=ax hR;(go_enter Tryz.func95,Tryz.ntmps95);(go_wp2_with fail);refine (c_impl_isBasic k a b ⟨false,0,0⟩ _ _ _ _ _).mono ?_;rintro e w1 ⟨rfl,hB1⟩;rw[hkb.o];have hB:=bgo (w:=w) bel hB1;have K0:=(Blk.nz (g:=w.heap.size) (Blk.new w _ _) hB1);have q0:=K0.cell;have l0:=K0.lt;(go_wp2_with fail);refine (c_impl_noAssertion A1 A2 c1 c2 i _ h1 h2).mono ?_;rintro e w2 ⟨rfl,hB2⟩;rw[e2.o];have hBB:=bgo hB hB2;have K1:=K0.nz hB2;clear q0 l0;have q0:=K1.cell;have l0:=K1.lt;by_cases k1:k=1∨k=2
 ·have hR2:=ax (show R=(pa&&tb) from by rw[hR.o,if_pos k1]);clear hR;rcases k1 with rfl|rfl
  all_goals
   cases pa
   all_goals
    cases tb
    all_goals
     (go_wp2_with (first|(go_at_call 152;refine (c_impl_isProgramVar a _).mono ?_;rintro e w' ⟨rfl,rfl⟩;rw[←hpa.o])|(go_at_call 153;refine (c_impl_isTerm b _).mono ?_;rintro e w' ⟨rfl,rfl⟩;rw[←htb.o])));go_ret;exact ⟨ret_bool (by rw[hR2.o];rfl),hBB⟩
 by_cases k3:k=3
 ·have hR2:=ax (show R=(ta&&tb) from by rw[hR.o,if_neg k1,if_pos k3]);clear hR;subst k3;clear k1;cases ta
  all_goals
   cases tb
   all_goals
    (go_wp2_with (first|(go_at_call 153;refine (c_impl_isTerm a _).mono ?_;rintro e w' ⟨rfl,rfl⟩;rw[←hta.o])|(go_at_call 153;refine (c_impl_isTerm b _).mono ?_;rintro e w' ⟨rfl,rfl⟩;rw[←htb.o])));go_ret;exact ⟨ret_bool (by rw[hR2.o];rfl),hBB⟩
 by_cases k4:k=4
 ·have hR2:=ax (show R=(pa&&decide (b=0)) from by rw[hR.o,if_neg k1,if_neg k3,if_pos k4]);clear hR;subst k4;clear k1 k3;cases pa
  all_goals
   by_cases b0:b=0
   all_goals
    have hb0:=ax b0;(go_wp2_with (go_at_call 152;refine (c_impl_isProgramVar a _).mono ?_;rintro e w' ⟨rfl,rfl⟩;rw[←hpa.o]));go_ret;exact ⟨ret_bool (by rw[hR2.o];first|rfl|(simp_all)),hBB⟩
 obtain rfl:k=5:=by have:=hk.o;omega
 have hR2:=ax (show R=(ta&&decide (b=0)) from by rw[hR.o,if_neg k1,if_neg k3,if_neg k4,if_pos rfl]);clear hR k1 k3 k4;cases ta
 all_goals
  by_cases b0:b=0
  all_goals
   have hb0:=ax b0;(go_wp2_with (go_at_call 153;refine (c_impl_isTerm a _).mono ?_;rintro e w' ⟨rfl,rfl⟩;rw[←hta.o]));go_ret;exact ⟨ret_bool (by rw[hR2.o];first|rfl|(simp_all)),hBB⟩
theorem fields_far {lo hi:Nat} (k a b:Int) (t:Fct) (i:Asn) (A1 A2 A3 A4:Option Addr) (c1 c2 c3 c4:Nat) (body els:Cms) (w:World) (hA:AsnV w lo hi (.agg #[.slice A1 i.facts.length c1,.slice A2 i.atoms.length c2]) i) (h3:body.len≤1049600) (h4:els.len≤1049600) (hk:¬(1≤k∧k≤5)) :
  Calls Tryz.prog 95 #[.agg #[.int .i64 k,.int .i64 a,.int .i64 b,.bool t.eq,.int .i64 t.a,.int .i64 t.b,.slice A1 i.facts.length c1,.slice A2 i.atoms.length c2,.slice A3 body.len c3,.slice A4 els.len c4]] w fun e w'=>e=.returned (.bool (fvalB k a b t i body els))∧Below w.heap.size w w':=by
 have h1:i.facts.length≤1049600:=by obtain ⟨_,_,_,_,e,g1,g2⟩:=hA;exact g1.le
 have h2:i.atoms.length≤1049600:=by obtain ⟨_,_,_,_,e,g1,g2⟩:=hA;exact g2.le
 have hkb:basicB k=false:=by simp[basicB];omega
 replace hkb:=ax hkb;obtain ⟨F,hF⟩:∃ F,F=fvalB k a b t i body els:=⟨_,rfl⟩;rw[←hF];obtain ⟨tv,htv⟩:∃ x,x=t.valid:=⟨_,rfl⟩;obtain ⟨ni,hni⟩:∃ x,x=noAsn i:=⟨_,rfl⟩;obtain ⟨iv,hiv⟩:∃ x,x=i.valid:=⟨_,rfl⟩;replace htv:=ax htv;replace hni:=ax hni;replace hiv:=ax hiv;replace hF:=ax hF;replace hA:=ax hA;(go_enter Tryz.func95,Tryz.ntmps95);(go_wp2_with fail);refine (c_impl_isBasic k a b t _ _ _ _ _).mono ?_;rintro e w1 ⟨rfl,hB1⟩;rw[hkb.o];have hB:=bgo (w:=w) bel hB1;have K0:=(Blk.nz (g:=w.heap.size) (Blk.new w _ _) hB1);have q0:=K0.cell;have l0:=K0.lt;clear hB1;by_cases k6:k=6
 ·subst k6;clear hk;by_cases a0:a=0
  case neg=>
   (go_wp2_with fail);go_ret;exact ⟨ret_bool (hF.o.trans (by unfold fvalB;rw[if_pos rfl];simp[a0])).symm,hB⟩
  subst a0;by_cases b0:b=0
  case neg=>
   (go_wp2_with fail);go_ret;exact ⟨ret_bool (hF.o.trans (by unfold fvalB;rw[if_pos rfl];simp[b0])).symm,hB⟩
  subst b0;(go_wp2_with fail);refine (c_impl_FactValid t _).mono ?_;rintro e w2 ⟨rfl,hBx⟩;rw[←htv.o];replace hB:=bgo hB hBx;replace K0:=K0.nz hBx;replace q0:=K0.cell;replace l0:=K0.lt;clear hBx;cases tv
  case false=>
   (go_wp2_with fail);go_ret;exact ⟨ret_bool (hF.o.trans (by unfold fvalB;rw[if_pos rfl];simp[←htv.o])).symm,hB⟩
  (go_wp2_with fail);refine (c_impl_noAssertion A1 A2 c1 c2 i _ h1 h2).mono ?_;rintro e w3 ⟨rfl,hBx⟩;rw[←hni.o];replace hB:=bgo hB hBx;replace K0:=K0.nz hBx;replace q0:=K0.cell;replace l0:=K0.lt;clear hBx;have HFF:=ax (show F=ni from hF.o.trans (by unfold fvalB;rw[if_pos rfl];simp[←htv.o,←hni.o]));(go_wp2_with fail);go_ret;exact ⟨ret_bool HFF.o.symm,hB⟩
 by_cases k7:k=7
 ·subst k7;clear hk;by_cases a0:a=0
  case neg=>
   (go_wp2_with fail);go_ret;exact ⟨ret_bool (hF.o.trans (by unfold fvalB;rw[if_neg (by decide),if_pos rfl];simp[a0])).symm,hB⟩
  subst a0;by_cases b0:b=0
  case neg=>
   (go_wp2_with fail);go_ret;exact ⟨ret_bool (hF.o.trans (by unfold fvalB;rw[if_neg (by decide),if_pos rfl];simp[b0])).symm,hB⟩
  subst b0;(go_wp2_with fail);refine (c_impl_FactValid t _).mono ?_;rintro e w2 ⟨rfl,hBx⟩;rw[←htv.o];replace hB:=bgo hB hBx;replace K0:=K0.nz hBx;replace q0:=K0.cell;replace l0:=K0.lt;clear hBx;cases tv
  case false=>
   (go_wp2_with fail);go_ret;exact ⟨ret_bool (hF.o.trans (by unfold fvalB;rw[if_neg (by decide),if_pos rfl];simp[←htv.o])).symm,hB⟩
  (go_wp2_with fail);refine (c_impl_AssertionValid _ i _ (hA.o.bz hB)).mono ?_;rintro e w3 ⟨rfl,hBx⟩;rw[←hiv.o];replace hB:=bgo hB hBx;replace K0:=K0.nz hBx;replace q0:=K0.cell;replace l0:=K0.lt;clear hBx;cases iv
  case false=>
   (go_wp2_with fail);go_ret;exact ⟨ret_bool (hF.o.trans (by unfold fvalB;rw[if_neg (by decide),if_pos rfl];simp[←hiv.o])).symm,hB⟩
  have HFF:=ax (show F=decide (els.len=0) from hF.o.trans (by unfold fvalB;rw[if_neg (by decide),if_pos rfl];simp[←htv.o,←hiv.o]));by_cases e0:els.len=0
  all_goals
   have He0:=ax e0;(go_wp2_with fail);go_ret;exact ⟨ret_bool (by rw[HFF.o];first|rfl|(simp_all)),hB⟩
 have HFF:aJ (F=false):=by
  rw[aJ,hF.o,fvalB_basic k6 k7]
  have:fieldsB k a b=false:=by
   cases h:fieldsB k a b
   ·rfl
   ·exact absurd (fieldsB_basic h) hk
  rw[this,Bool.and_false]
 have kk1:k≠1:=fun e=>hk (by omega);have kk2:k≠2:=fun e=>hk (by omega);have kk3:k≠3:=fun e=>hk (by omega);have kk4:k≠4:=fun e=>hk (by omega);have kk5:k≠5:=fun e=>hk (by omega);clear hk;(go_wp2_with fail);go_ret;exact ⟨ret_bool HFF.o.symm,hB⟩
theorem c_impl_fieldsValid {lo hi:Nat} (k a b:Int) (t:Fct) (i:Asn) (A1 A2 A3 A4:Option Addr) (c1 c2 c3 c4:Nat) (body els:Cms) (w:World) (hA:AsnV w lo hi (.agg #[.slice A1 i.facts.length c1,.slice A2 i.atoms.length c2]) i) (h3:body.len≤1049600) (h4:els.len≤1049600) :
  Calls Tryz.prog 95 #[.agg #[.int .i64 k,.int .i64 a,.int .i64 b,.bool t.eq,.int .i64 t.a,.int .i64 t.b,.slice A1 i.facts.length c1,.slice A2 i.atoms.length c2,.slice A3 body.len c3,.slice A4 els.len c4]] w fun e w'=>e=.returned (.bool (fvalB k a b t i body els))∧Below w.heap.size w w':=by
 by_cases hk:1≤k∧k≤5
 ·rw[fvalB_basic (by omega) (by omega)];cases hn:plainB t i body els
  ·exact fields_no k a b t i A1 A2 A3 A4 c1 c2 c3 c4 body els w hA h3 h4 hk hn
  ·exact fields_yes k a b t i A1 A2 A3 A4 c1 c2 c3 c4 body els w hA h3 h4 hk hn
 ·exact fields_far k a b t i A1 A2 A3 A4 c1 c2 c3 c4 body els w hA h3 h4 hk
end
end Go.Proofs.YtgdfdmjnadnlnaaGreat
