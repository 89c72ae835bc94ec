/- Contracts: commands without blocks from texts (impl). -/
import Derived.Test.YtjbboklnegfohaaDoorMPgA
import Derived.Test.YtjbboklnegfohaaDoorMPrsC
import Derived.Test.YtjbboklnegfohaaDoorCmdJ
import Derived.Deep.DeepCutAuto
import Derived.Test.YtjbboklnegfohaaDoorMPrgC
import Derived.Test.YtjbboklnegfohaaDoorMPrsU
import Derived.Test.YtjbboklnegfohaaDoorMAlloc
import Derived.Test.YtjbboklnegfohaaDoorMPrgV
set_option linter.unusedSimpArgs false
set_option linter.unusedVariables false
namespace Go.Proofs.YtjbboklnegfohaaDoor
open Go Go.RowKit Go.Proofs
set_option maxRecDepth 100000 in
set_option maxHeartbeats 3200000 in
theorem c_brI (l:Bs) (w:World) (hl:l.length≤2000000):Calls Tryd.prog 127 #[sv l] w fun e w'=>e=.returned (.tuple #[sv (brI l).1,.bool (brI l).2])∧w=w':=by
 obtain ⟨x,hx⟩:∃ x,x=brI l:=⟨_,rfl⟩
 rw[←hx]
 unfold brI at hx
 have C1:=Lib.hid (c_CutPre l [91] w)
 have C2:=Lib.hid (c_CutSuf (Lib.trimPrefix l [91]) [93] w (Nat.le_trans (trimP_len _ _) hl))
 obtain ⟨p,hp⟩:∃ p,p=Lib.hasPrefix l [91]:=⟨_,rfl⟩
 obtain ⟨t,ht⟩:∃ p,p=Lib.trimPrefix l [91]:=⟨_,rfl⟩
 rw[←ht] at C2
 obtain ⟨q,hq⟩:∃ p,p=Lib.hasSuffix t [93]:=⟨_,rfl⟩
 obtain ⟨u,hu⟩:∃ p,p=Lib.trimSuffix t [93]:=⟨_,rfl⟩
 rw[←hp,←ht] at C1
 rw[←hq,←hu] at C2
 rw[←hp,←ht,←hq,←hu] at hx
 clear hp ht hq hu hl
 replace hx:=Lib.hid hx
 go_enter Tryd.func127,Tryd.ntmps127
 go_wp2_with fail
 refine C1.out.mono ?_
 rintro e w1 ⟨rfl,rfl⟩
 go_wp2_with fail
 refine C2.out.mono ?_
 rintro e w1 ⟨rfl,rfl⟩
 clear C1 C2
 cases p
 ·have e1:x=(l,false):=by have:=hx.out;simpa using this
  subst e1
  go_wp2_with fail
  go_ret2
  exact ⟨rfl,rfl⟩
 ·cases q
  ·have e1:x=(l,false):=by have:=hx.out;simpa using this
   subst e1
   go_wp2_with fail
   go_ret2
   exact ⟨rfl,rfl⟩
  ·have e1:x=(u,true):=by have:=hx.out;simpa using this
   subst e1
   go_wp2_with fail
   go_ret2
   exact ⟨rfl,rfl⟩
theorem set10 {w:World} {g:Nat} {a0 a1 a2 a3 a4 a5 a6 a7 a8 a9:Value} (h:Blk w g tC #[a0,a1,a2,a3,a4,a5,a6,a7,a8,a9]) (u0 u1 u2 u3 u4 u5 u6 u7 u8 u9:Value):Blk ((((((((((w.setCell ⟨g,0,none⟩ u0).setCell ⟨g,1,none⟩ u1).setCell ⟨g,2,none⟩ u2).setCell ⟨g,3,none⟩ u3).setCell ⟨g,4,none⟩ u4).setCell ⟨g,5,none⟩ u5).setCell ⟨g,6,none⟩ u6).setCell ⟨g,7,none⟩ u7).setCell ⟨g,8,none⟩ u8).setCell ⟨g,9,none⟩ u9) g tC #[u0,u1,u2,u3,u4,u5,u6,u7,u8,u9]∧Fr g w ((((((((((w.setCell ⟨g,0,none⟩ u0).setCell ⟨g,1,none⟩ u1).setCell ⟨g,2,none⟩ u2).setCell ⟨g,3,none⟩ u3).setCell ⟨g,4,none⟩ u4).setCell ⟨g,5,none⟩ u5).setCell ⟨g,6,none⟩ u6).setCell ⟨g,7,none⟩ u7).setCell ⟨g,8,none⟩ u8).setCell ⟨g,9,none⟩ u9):=by
 have k:=(((((((((h.set_ 0 u0).set_ 1 u1).set_ 2 u2).set_ 3 u3).set_ 4 u4).set_ 5 u5).set_ 6 u6).set_ 7 u7).set_ 8 u8).set_ 9 u9
 simp only[List.setIfInBounds_toArray,List.set_cons_zero,List.set_cons_succ] at k
 exact ⟨k,(((((((((((Fr.refl g w).set_ (p:=⟨g,0,none⟩) (Or.inl rfl) u0).set_ (p:=⟨g,1,none⟩) (Or.inl rfl) u1).set_ (p:=⟨g,2,none⟩) (Or.inl rfl) u2).set_ (p:=⟨g,3,none⟩) (Or.inl rfl) u3).set_ (p:=⟨g,4,none⟩) (Or.inl rfl) u4).set_ (p:=⟨g,5,none⟩) (Or.inl rfl) u5).set_ (p:=⟨g,6,none⟩) (Or.inl rfl) u6).set_ (p:=⟨g,7,none⟩) (Or.inl rfl) u7).set_ (p:=⟨g,8,none⟩) (Or.inl rfl) u8).set_ (p:=⟨g,9,none⟩) (Or.inl rfl) u9)⟩
theorem AsnI.nil (w:World) (lo hi:Nat):AsnI w lo hi (.agg #[.slice none 0 0,.slice none 0 0]) ⟨[],[]⟩:=⟨_,_,rfl,⟨⟨World.ownsRow_nil _ _ _ _,by simp[Lim]⟩,fun g h=>by cases h⟩,⟨⟨World.ownsRow_nil _ _ _ _,by simp[Lim]⟩,fun g h=>by cases h⟩⟩
def basV (k a b:Int):Value:=.agg #[.int .i64 k,.int .i64 a,.int .i64 b,.bool false,.int .i64 0,.int .i64 0,.slice none 0 0,.slice none 0 0,.slice none 0 0,.slice none 0 0]
theorem finP_none1 (k:Int) (y:Option Nat):finP k none y=none:=rfl
theorem finP_none2 (k:Int) (x:Option Nat):finP k x none=none:=by cases x<;>rfl
set_option maxRecDepth 100000 in
set_option maxHeartbeats 12800000 in
theorem c_bscI (l:Bs) (w:World) (hT:TM w) (hl:l.length≤2000000):Calls Tryd.prog 116 #[sv l] w fun e w'=>∃ k a b,e=.returned (.tuple #[basV k a b,.bool (bscI l).isSome])∧(∀ h,bscI l=some h→h.k=k∧h.a=a∧h.b=b∧h.t=fctZ∧h.i=⟨[],[]⟩)∧Below w.heap.size w w':=by
 obtain ⟨P,hP⟩:∃ P,P=bscI l:=⟨_,rfl⟩
 rw[←hP]
 unfold bscI at hP
 have HT:=Lib.hid hT
 have hw1:=hT.2.1
 have CC:=Lib.hid fun W (h:TM W)=>c_Cut l [58,61] W h hl
 have N1:=Lib.hid (c_CutPre l newP)
 have N2:=Lib.hid (c_CutPre l freeP)
 have hcl:=cut_len l [58,61]
 have B1:=Lib.hid fun W=>c_brI (Lib.cut l [58,61]).1 W (by omega)
 have B2:=Lib.hid fun W=>c_brI (Lib.cut l [58,61]).2.1 W (by omega)
 obtain ⟨a,ha⟩:∃ a,a=(Lib.cut l [58,61]).1:=⟨_,rfl⟩
 obtain ⟨b,hb⟩:∃ b,b=(Lib.cut l [58,61]).2.1:=⟨_,rfl⟩
 obtain ⟨fd,hfd⟩:∃ fd,fd=(Lib.cut l [58,61]).2.2:=⟨_,rfl⟩
 obtain ⟨p4,hp4⟩:∃ p,p=Lib.hasPrefix l newP:=⟨_,rfl⟩
 obtain ⟨t4,ht4⟩:∃ p,p=Lib.trimPrefix l newP:=⟨_,rfl⟩
 obtain ⟨p5,hp5⟩:∃ p,p=Lib.hasPrefix l freeP:=⟨_,rfl⟩
 obtain ⟨t5,ht5⟩:∃ p,p=Lib.trimPrefix l freeP:=⟨_,rfl⟩
 rw[←ha] at B1
 rw[←hb] at B2
 rw[←ha,←hb,←hfd] at CC
 rw[←hp4,←ht4] at N1
 rw[←hp5,←ht5] at N2
 rw[←ha,←hb,←hfd,←hp4,←ht4,←hp5,←ht5] at hP
 obtain ⟨⟨x,bx⟩,hx⟩:∃ x,x=brI a:=⟨_,rfl⟩
 obtain ⟨⟨y,by_⟩,hy⟩:∃ x,x=brI b:=⟨_,rfl⟩
 rw[←hx] at B1 hP
 rw[←hy] at B2 hP
 simp only at B1 B2
 clear ha hb hfd hp4 ht4 hp5 ht5 hx hy hT hl hcl
 replace hP:=Lib.hid hP
 go_enter Tryd.func116,Tryd.ntmps116
 go_upto_region 2 with fail
 refine bx2 (w:=w) (F:=Code.wp _ _ _ _) ?_
 rintro W k0 kc hB -
 replace HT:=Lib.hid (HT.out.below hB)
 replace hB:=Lib.hid hB
 go_wp2_with fail
 refine (CC.out _ HT.out).mono ?_
 rintro e w1 ⟨rfl,hq⟩
 have HB:=Lib.hid (bgo hB.out hq)
 replace HT:=Lib.hid (HT.out.below hq)
 replace k0:=k0.next hq
 replace kc:=kc.next hq
 obtain ⟨c,hc⟩:∃ y,y=w.heap.size+1:=⟨_,rfl⟩
 have hyw:w.heap.size<c:=by omega
 rw[←hc] at kc ⊢
 clear CC hB hq hc
 (replace qk0:=k0.cell;replace rk0:=k0.frozen;replace lk0:=k0.lt;replace qkc:=kc.cell;replace rkc:=kc.frozen;replace lkc:=kc.lt)
 go_upto_if 18 with fail
 go_cut [5,6] (fun s5 s6 wc=>∃ (x y:Bs) (k:Int),s5=sv x∧s6=sv y∧Hid (P=finI k x y)∧(1≤k∧k≤5)∧TM wc∧Blk wc c tC #[.int .i64 k,.int .i64 0,.int .i64 0,.bool false,.int .i64 0,.int .i64 0,.slice none 0 0,.slice none 0 0,.slice none 0 0,.slice none 0 0]∧
  Blk wc w.heap.size tC #[.int .i64 0,.int .i64 0,.int .i64 0,.bool false,.int .i64 0,.int .i64 0,.slice none 0 0,.slice none 0 0,.slice none 0 0,.slice none 0 0]∧Below w.heap.size w wc)
 case first=>
  cases fd
  case false=>
   go_wp2_with fail
   refine (N1.out _).mono ?_
   rintro e w2 ⟨rfl,rfl⟩
   cases p4
   case true=>
    have e1:Hid (P=finI 4 t4 nilN):=Lib.hid (by have:=hP.out;simpa using this)
    go_wp2_with fail
    go_meet
    case rel=>exact ⟨_,_,4,rfl,rfl,e1,by omega,HT.out.set0 (by omega) trivial _,kc.set_ 0 (.int .i64 4),k0.far (p:=⟨c,0,none⟩) (by simp only;omega) _,HB.out.setCell (p:=⟨c,0,none⟩) (by simp only;omega) _⟩
   case false=>
    go_wp2_with fail
    refine (N2.out _).mono ?_
    rintro e w2 ⟨rfl,rfl⟩
    cases p5
    case true=>
     have e1:Hid (P=finI 5 t5 nilN):=Lib.hid (by have:=hP.out;simpa using this)
     go_wp2_with fail
     go_meet
     case rel=>exact ⟨_,_,5,rfl,rfl,e1,by omega,HT.out.set0 (by omega) trivial _,kc.set_ 0 (.int .i64 5),k0.far (p:=⟨c,0,none⟩) (by simp only;omega) _,HB.out.setCell (p:=⟨c,0,none⟩) (by simp only;omega) _⟩
    case false=>
     have e1:Hid (P=none):=Lib.hid (by have:=hP.out;simpa using this)
     go_wp2_with fail
     have z:=set10 k0 (.int .i64 0) (.int .i64 0) (.int .i64 0) (.bool false) (.int .i64 0) (.int .i64 0) (.slice none 0 0) (.slice none 0 0) (.slice none 0 0) (.slice none 0 0)
     refine bodyPost_ret (v:=.tuple #[basV 0 0 0,.bool false]) (by simp[results,Tryd.results116,go_sem,z.1.cell,basV]) rfl ⟨0,0,0,by rw[e1.out];rfl,fun h hh=>(by rw[e1.out] at hh;cases hh),Below.trans HB.out (z.2.below (Nat.le_refl _) (by have:=k0.lt;omega))⟩
  case true=>
   go_wp2_with fail
   refine (B1.out _).mono ?_
   rintro e w2 ⟨rfl,rfl⟩
   go_wp2_with fail
   refine (B2.out _).mono ?_
   rintro e w2 ⟨rfl,rfl⟩
   cases bx
   case true=>
    cases by_
    case true=>
     have e1:Hid (P=none):=Lib.hid (by have:=hP.out;simpa[asgI] using this)
     go_wp2_with fail
     have z:=set10 k0 (.int .i64 0) (.int .i64 0) (.int .i64 0) (.bool false) (.int .i64 0) (.int .i64 0) (.slice none 0 0) (.slice none 0 0) (.slice none 0 0) (.slice none 0 0)
     refine bodyPost_ret (v:=.tuple #[basV 0 0 0,.bool false]) (by simp[results,Tryd.results116,go_sem,z.1.cell,basV]) rfl ⟨0,0,0,by rw[e1.out];rfl,fun h hh=>(by rw[e1.out] at hh;cases hh),Below.trans HB.out (z.2.below (Nat.le_refl _) (by have:=k0.lt;omega))⟩
    case false=>
     have e1:Hid (P=finI 3 x y):=Lib.hid (by have:=hP.out;simpa[asgI] using this)
     go_wp2_with fail
     go_meet
     case rel=>exact ⟨_,_,3,rfl,rfl,e1,by omega,HT.out.set0 (by omega) trivial _,kc.set_ 0 (.int .i64 3),k0.far (p:=⟨c,0,none⟩) (by simp only;omega) _,HB.out.setCell (p:=⟨c,0,none⟩) (by simp only;omega) _⟩
   case false=>
    cases by_
    case true=>
     have e1:Hid (P=finI 2 x y):=Lib.hid (by have:=hP.out;simpa[asgI] using this)
     go_wp2_with fail
     go_meet
     case rel=>exact ⟨_,_,2,rfl,rfl,e1,by omega,HT.out.set0 (by omega) trivial _,kc.set_ 0 (.int .i64 2),k0.far (p:=⟨c,0,none⟩) (by simp only;omega) _,HB.out.setCell (p:=⟨c,0,none⟩) (by simp only;omega) _⟩
    case false=>
     have e1:Hid (P=finI 1 x y):=Lib.hid (by have:=hP.out;simpa[asgI] using this)
     go_wp2_with fail
     go_meet
     case rel=>exact ⟨_,_,1,rfl,rfl,e1,by omega,HT.out.set0 (by omega) trivial _,kc.set_ 0 (.int .i64 1),k0.far (p:=⟨c,0,none⟩) (by simp only;omega) _,HB.out.setCell (p:=⟨c,0,none⟩) (by simp only;omega) _⟩
 case rest=>
  clear k0 kc qk0 rk0 lk0 qkc rkc lkc HT HB hP B1 B2 N1 N2
  obtain ⟨x',y',k,rfl,rfl,hP,hk,HT,kc,k0,HB⟩:=hcut
  obtain ⟨V,rfl⟩:∃ z,z=wc:=⟨_,rfl⟩
  replace hP:=hP.out
  unfold finI at hP
  have T1:=Lib.hid (c_iPT x' V HT.1)
  have T2:=Lib.hid fun W (h:TN W)=>c_iPT y' W h
  obtain ⟨A,hA⟩:∃ A,A=parseT x':=⟨_,rfl⟩
  obtain ⟨B,hB⟩:∃ A,A=parseT y':=⟨_,rfl⟩
  rw[←hA] at T1
  rw[←hB] at T2
  rw[←hA,←hB] at hP
  clear hA hB
  replace hP:=Lib.hid hP
  replace HT:=Lib.hid HT
  replace HB:=Lib.hid HB
  go_wp2_with fail
  refine T1.out.mono ?_
  rintro e w2 ⟨rfl,rfl⟩
  have qc:=kc.cell
  have rc:=kc.frozen
  have q0:=k0.cell
  have r0:=k0.frozen
  have l0:=k0.lt
  cases A with
  | none=>
   have e1:Hid (P=none):=Lib.hid (by rw[hP.out,finP_none1])
   go_wp2_with fail
   have k0c:=k0.far (p:=⟨c,1,none⟩) (by simp only;omega) (.int .i64 0)
   have HBc:=HB.out.setCell (p:=⟨c,1,none⟩) (by simp only;omega) (.int .i64 0)
   have z:=set10 k0c (.int .i64 0) (.int .i64 0) (.int .i64 0) (.bool false) (.int .i64 0) (.int .i64 0) (.slice none 0 0) (.slice none 0 0) (.slice none 0 0) (.slice none 0 0)
   refine bodyPost_ret (v:=.tuple #[basV 0 0 0,.bool false]) (by simp[results,Tryd.results116,go_sem,z.1.cell,basV]) rfl ⟨0,0,0,by rw[e1.out];rfl,fun h hh=>(by rw[e1.out] at hh;cases hh),Below.trans HBc (z.2.below (Nat.le_refl _) (by have:=k0c.lt;omega))⟩
  | some na=>
   have T3:=Lib.hid (T2.out (V.setCell ⟨c,1,none⟩ (.int .i64 na)) (HT.out.1.set0 (by omega) _))
   clear T2 T1
   go_wp2_with fail
   refine T3.out.mono ?_
   rintro e w2 ⟨rfl,rfl⟩
   have kd:=kc.set_ 1 (.int .i64 na)
   have HT1:=Lib.hid (HT.out.set0 (y:=c) (i:=1) (by omega) trivial (.int .i64 na))
   have HB1:=Lib.hid (HB.out.setCell (p:=⟨c,1,none⟩) (by simp only;omega) (.int .i64 na))
   have k0d:=k0.far (p:=⟨c,1,none⟩) (by simp only;omega) (.int .i64 na)
   simp only[List.setIfInBounds_toArray,List.set_cons_zero,List.set_cons_succ] at kd
   clear kc k0 qc rc q0 r0 l0 HT HB T3
   obtain ⟨V1,hV1⟩:∃ z,z=V.setCell ⟨c,1,none⟩ (.int .i64 na):=⟨_,rfl⟩
   rw[←hV1] at kd k0d HT1 HB1 ⊢
   clear hV1
   have qc:=kd.cell
   have rc:=kd.frozen
   have q0:=k0d.cell
   have r0:=k0d.frozen
   have l0:=k0d.lt
   cases B with
   | none=>
    have e1:Hid (P=none):=Lib.hid (by rw[hP.out,finP_none2])
    go_wp2_with fail
    have k0c:=k0d.far (p:=⟨c,2,none⟩) (by simp only;omega) (.int .i64 0)
    have HBc:=HB1.out.setCell (p:=⟨c,2,none⟩) (by simp only;omega) (.int .i64 0)
    have z:=set10 k0c (.int .i64 0) (.int .i64 0) (.int .i64 0) (.bool false) (.int .i64 0) (.int .i64 0) (.slice none 0 0) (.slice none 0 0) (.slice none 0 0) (.slice none 0 0)
    refine bodyPost_ret (v:=.tuple #[basV 0 0 0,.bool false]) (by simp[results,Tryd.results116,go_sem,z.1.cell,basV]) rfl ⟨0,0,0,by rw[e1.out];rfl,fun h hh=>(by rw[e1.out] at hh;cases hh),Below.trans HBc (z.2.below (Nat.le_refl _) (by have:=k0c.lt;omega))⟩
   | some nb=>
    go_upto_region 29 with fail
    have ke:=kd.set_ 2 (.int .i64 nb)
    have HT2:=Lib.hid (HT1.out.set0 (y:=c) (i:=2) (by omega) trivial (.int .i64 nb))
    have HB2:=Lib.hid (HB1.out.setCell (p:=⟨c,2,none⟩) (by simp only;omega) (.int .i64 nb))
    have k0e:=k0d.far (p:=⟨c,2,none⟩) (by simp only;omega) (.int .i64 nb)
    simp only[List.setIfInBounds_toArray,List.set_cons_zero,List.set_cons_succ] at ke
    clear kd k0d qc rc q0 r0 l0 HT1 HB1
    obtain ⟨V2,hV2⟩:∃ z,z=V1.setCell ⟨c,2,none⟩ (.int .i64 nb):=⟨_,rfl⟩
    rw[←hV2] at ke k0e HT2 HB2 ⊢
    clear hV2
    have qc:=ke.drew.cell
    have rc:=ke.drew.frozen
    have q0:=k0e.drew.cell
    have r0:=k0e.drew.frozen
    have l0:=k0e.drew.lt
    have CF:=Lib.hid fun W=>c_impl_fieldsValid (lo:=0) (hi:=W.heap.size) k na nb fctZ ⟨[],[]⟩ none none none none 0 0 0 0 .nil .nil W (AsnI.nil W 0 0).reads (by simp[Cms.len]) (by simp[Cms.len])
    obtain ⟨bv,hbv⟩:∃ z,z=fvalB k na nb fctZ ⟨[],[]⟩ .nil .nil:=⟨_,rfl⟩
    rw[←hbv] at CF
    replace hbv:=Lib.hid hbv
    go_wp2_with fail
    refine wp_region_noPanic ?_
    refine wp_region_held_drew (S:=(fun w'=>∀ i,w'.cell? ⟨c,i,none⟩=#[.int .i64 k,.int .i64 na,.int .i64 nb,.bool false,.int .i64 0,.int .i64 0,.slice none 0 0,.slice none 0 0,.slice none 0 0,.slice none 0 0][i]?)) (by kernel_rfl) (ke.drew.cell) (fun hHeld=>?_)
    refine tk 0 ?_ rfl (fun w hSw=>?_) hHeld ?_
    rotate_left
    ·((try dsimp only at hSw);go_split_ands;go_simp;(try with_reducible rfl))
    try simp only[Act.put,zA,zB,zC,zD,zE,zF]
    refine tk 1 ?_ rfl (fun w hSw=>?_) hHeld ?_
    rotate_left
    ·((try dsimp only at hSw);go_split_ands;go_simp;(try with_reducible rfl))
    try simp only[Act.put,zA,zB,zC,zD,zE,zF]
    refine rdc 2 rfl fun K hK=>?_
    try simp only[zA,zB,zC]
    (go_simp;refine (CF.out _).mono ?_;rintro e w3 ⟨rfl,hB3⟩;have kf:=ke.drew.next hB3;have k0f:=k0e.drew.next hB3;have q0f:=k0f.cell;have r0f:=k0f.frozen;have l0f:=k0f.lt;have HB3:=bgo HB2.out.drew hB3)
    refine hK.out _ _ (kf.cell) ?_
    clear hHeld hK K
    intro hHeld
    try simp only[Act.put,zA,zB,zC,zD,zE,zF]
    refine rdc 3 rfl fun K hK=>?_
    try simp only[zA,zB,zC]
    (go_simp;have z:=set10 k0f (.int .i64 k) (.int .i64 na) (.int .i64 nb) (.bool false) (.int .i64 0) (.int .i64 0) (.slice none 0 0) (.slice none 0 0) (.slice none 0 0) (.slice none 0 0))
    refine hK.out _ _ ((kf.fr z.2 (by omega)).cell) ?_
    clear hHeld hK K
    intro hHeld
    try simp only[Act.put,zA,zB,zC,zD,zE,zF]
    refine tk 4 ?_ rfl (fun w hSw=>?_) hHeld ?_
    rotate_left
    ·((try dsimp only at hSw);go_split_ands;go_simp;(try with_reducible rfl))
    try simp only[Act.put,zA,zB,zC,zD,zE,zF]
    refine wpAnyH_done (by kernel_rfl) ?_ _
    refine NoPanic.normal ?_
    go_wp2_with fail
    have HV:Hid (P=if bv=true then some ⟨k,(na:Int),(nb:Int),fctZ,⟨[],[]⟩⟩ else none):=Lib.hid (by rw[hP.out,hbv.out];rfl)
    refine bodyPost_ret (v:=.tuple #[basV k na nb,.bool bv]) (by simp[results,Tryd.results116,go_sem,z.1.cell,basV]) rfl ⟨k,na,nb,by rw[HV.out];cases bv<;>rfl,fun h hh=>?_,HB3.trans (z.2.below (Nat.le_refl _) (by omega))⟩
    rw[HV.out] at hh
    cases bv
    ·simp at hh
    ·simp only[if_true,Option.some.injEq] at hh
     subst hh
     exact ⟨rfl,rfl,rfl,rfl,rfl⟩
end Go.Proofs.YtjbboklnegfohaaDoor

/- Contracts: commands with blocks from texts (impl): branches, loop. -/
namespace Go.Proofs.YtjbboklnegfohaaDoor
open Go Go.RowKit Go.Proofs
def CmLike (v:Value):Prop:=∃ (k a b:Int) (t:Bool) (x y:Int) (A6 A7 A8 A9:Option Addr) (n6 c6 n7 c7 n8 c8 n9 c9:Nat),v=.agg #[.int .i64 k,.int .i64 a,.int .i64 b,.bool t,.int .i64 x,.int .i64 y,.slice A6 n6 c6,.slice A7 n7 c7,.slice A8 n8 c8,.slice A9 n9 c9]
def CmAns (rb:Nat) (w w':World) (v:Value) (t:Bs) (R:Option Cr):Prop:=CmLike v∧Fr rb w w'∧Blk w' rb tLR #[sv t]∧∀ c,R=some c→t=c.2.2.2∧C1Q w' w.heap.size w'.heap.size v c.1 c.2.1 c.2.2.1
def BkAns (rb:Nat) (w w':World) (v:Value) (t:Bs) (R:Option (Cms×Bs)):Prop:=(∃ A n c,v=.slice A n c)∧Fr rb w w'∧Blk w' rb tLR #[sv t]∧∀ L r,R=some (L,r)→t=r∧QR w' w.heap.size w'.heap.size v L
theorem CmLike.zero:CmLike (basV 0 0 0):=⟨0,0,0,false,0,0,none,none,none,none,0,0,0,0,0,0,0,0,rfl⟩
theorem CmLike.bas (k a b:Int):CmLike (basV k a b):=⟨k,a,b,false,0,0,none,none,none,none,0,0,0,0,0,0,0,0,rfl⟩
theorem QR.far {w:World} {lo hi:Nat} {v:Value} {L:Cms} (h:QR w lo hi v L) {p:Addr} (hp:p.block<lo) (u:Value):QR (w.setCell p u) lo hi v L:=h.keep fun b h1 _ _=>Below.heap_setCell w p u b (by omega)
theorem QR.fr {w w':World} {lo hi g:Nat} {v:Value} {L:Cms} (h:QR w lo hi v L) (hf:Fr g w w') (hg:g<lo):QR w' lo hi v L:=h.keep fun b h1 _ h3=>hf.block b h3 (by omega)
theorem TM.put {w:World} (h:TM w) {p:Addr} (hp:1<p.block) (v:Value):TM (w.setCell p v):=h.fr (g:=p.block) ((Fr.refl _ _).set_ (Or.inl rfl) v) hp
theorem set3 {w:World} {g:Nat} {a0 a1 a2 a3 a4 a5 a6 a7 a8 a9:Value} (h:Blk w g tC #[a0,a1,a2,a3,a4,a5,a6,a7,a8,a9]) (u0 u1 u2:Value):Blk (((w.setCell ⟨g,3,none⟩ u0).setCell ⟨g,4,none⟩ u1).setCell ⟨g,5,none⟩ u2) g tC #[a0,a1,a2,u0,u1,u2,a6,a7,a8,a9]∧Fr g w (((w.setCell ⟨g,3,none⟩ u0).setCell ⟨g,4,none⟩ u1).setCell ⟨g,5,none⟩ u2):=by
 have k:=((h.set_ 3 u0).set_ 4 u1).set_ 5 u2
 simp only[List.setIfInBounds_toArray,List.set_cons_zero,List.set_cons_succ] at k
 exact ⟨k,(((Fr.refl g w).set_ (p:=⟨g,3,none⟩) (Or.inl rfl) u0).set_ (p:=⟨g,4,none⟩) (Or.inl rfl) u1).set_ (p:=⟨g,5,none⟩) (Or.inl rfl) u2⟩
theorem setc {w:World} {g:Nat} {cs:List Value} (h:Blk w g tC cs.toArray) (i:Nat) (u:Value):Blk (w.setCell ⟨g,i,none⟩ u) g tC (cs.set i u).toArray∧Fr g w (w.setCell ⟨g,i,none⟩ u):=by
 have k:=h.set_ i u
 simp only[List.setIfInBounds_toArray] at k
 exact ⟨k,(Fr.refl g w).set_ (p:=⟨g,i,none⟩) (Or.inl rfl) u⟩
theorem Fr.ext {w a b:World} {rb g:Nat} (h:Fr rb w a) (k:Fr g a b) (hg:w.heap.size≤g):Fr rb w b:=⟨k.os.trans h.os,k.tape.trans h.tape,k.output.trans h.output,Nat.le_trans h.size k.size,fun i h1 h2=>(k.block i (Nat.lt_of_lt_of_le h1 h.size) (by omega)).trans (h.block i h1 h2)⟩
theorem CmAns.no {rb g:Nat} {w W W2:World} {t:Bs} (hf:Fr rb w W) (hz:Fr g W W2) (hg:w.heap.size≤g) (kr:Blk W rb tLR #[sv t]) (hr:rb<w.heap.size):CmAns rb w W2 (basV 0 0 0) t none:=⟨.zero,hf.ext hz hg,kr.fr hz (by omega),fun c h=>by cases h⟩
theorem AsnI.fr {w w':World} {lo hi g:Nat} {v:Value} {x:Asn} (h:AsnI w lo hi v x) (hf:Fr g w w') (hg:g<lo):AsnI w' lo hi v x:=h.kp fun k h1 h2 h3=>hf.block k h3 (by omega)
theorem AsnI.low {w:World} {lo lo' hi:Nat} {v:Value} {x:Asn} (h:AsnI w lo hi v x) (e:lo'≤lo):AsnI w lo' hi v x:=by
 obtain ⟨fv,av,e1,h1,h2⟩:=h
 exact ⟨fv,av,e1,⟨⟨own_lower h1.1.1 e,h1.1.2⟩,h1.2⟩,⟨⟨own_lower h2.1.1 e,h2.1.2⟩,h2.2⟩⟩
theorem set2 {w:World} {g:Nat} {a0 a1 a2 a3 a4 a5 a6 a7 a8 a9:Value} (h:Blk w g tC #[a0,a1,a2,a3,a4,a5,a6,a7,a8,a9]) (u0 u1:Value):Blk ((w.setCell ⟨g,6,none⟩ u0).setCell ⟨g,7,none⟩ u1) g tC #[a0,a1,a2,a3,a4,a5,u0,u1,a8,a9]∧Fr g w ((w.setCell ⟨g,6,none⟩ u0).setCell ⟨g,7,none⟩ u1):=by
 have k:=(h.set_ 6 u0).set_ 7 u1
 simp only[List.setIfInBounds_toArray,List.set_cons_zero,List.set_cons_succ] at k
 exact ⟨k,((Fr.refl g w).set_ (p:=⟨g,6,none⟩) (Or.inl rfl) u0).set_ (p:=⟨g,7,none⟩) (Or.inl rfl) u1⟩
def SubOk (rb:Nat) (D:Int) (M:Nat) (sub:Bs→Option (Cms×Bs)):Prop:=∀ (W:World) (l:Bs),TM W→Blk W rb tLR #[sv l]→l.length<M→Calls Tryd.prog 49 #[.pointer (some ⟨rb,0,none⟩),.int .i64 D] W fun e w'=>∃ v,e=.returned (.tuple #[v,.bool (sub l).isSome])∧∃ t,BkAns rb W w' v t (sub l)
set_option maxRecDepth 100000 in
set_option maxHeartbeats 25600000 in
theorem c_brs {rb M:Nat} {sub:Bs→Option (Cms×Bs)} (d:Nat) (HS:SubOk rb ((d:Int)+1) M sub) (hs:SubLe sub) (hM:M≤1100000) (x rest:Bs) (w:World) (hT:TM w) (hrb:1<rb) (h:Blk w rb tLR #[sv rest]) (hl:rest.length<M) (hx:x.length≤1049000) (hd:d≤4) :
  Calls Tryd.prog 114 #[.pointer (some ⟨rb,0,none⟩),sv x,.int .i64 d] w fun e w'=>∃ v,e=.returned (.tuple #[v,.bool (ifI sub x rest).isSome])∧∃ t,CmAns rb w w' v t (ifI sub x rest):=by
 obtain ⟨R,hR⟩:∃ R,R=ifI sub x rest:=⟨_,rfl⟩
 rw[←hR]
 unfold ifI at hR
 have HF:=Lib.hid fun W (h:TM W)=>c_iPF x W h (by omega)
 obtain ⟨F,hF⟩:∃ F,F=pFactI x:=⟨_,rfl⟩
 rw[←hF] at hR HF
 clear hF
 replace hR:=Lib.hid hR
 have HT:=Lib.hid hT
 replace HS:=Lib.hid HS
 have hrl:=h.lt
 clear hT
 go_enter Tryd.func114,Tryd.ntmps114
 go_upto_region 2 with fail
 refine bx2 (w:=w) (F:=Code.wp _ _ _ _) ?_
 rintro W k0 kc hB hWs
 replace HT:=Lib.hid (HT.out.below hB)
 have kr:=h.next hB
 obtain ⟨c,hc⟩:∃ y,y=w.heap.size+1:=⟨_,rfl⟩
 have hyw:w.heap.size<c∧c<W.heap.size:=by omega
 obtain ⟨hyw,hcW⟩:=hyw
 rw[←hc] at kc ⊢
 have HB:=Lib.hid (Fr.ofBelow (g:=rb) hB)
 clear hc hWs hB h
 go_wp2_with fail
 refine (HF.out _ HT.out).mono ?_
 rintro e w1 ⟨rfl,hq⟩
 replace HB:=Lib.hid (HB.out.go hq)
 have hzw1:=hq.size
 replace HT:=Lib.hid (HT.out.below hq)
 replace k0:=k0.next hq
 replace kc:=kc.next hq
 replace kr:=kr.next hq
 clear hq
 clear HF
 have qk0:=k0.cell
 have rk0:=k0.frozen
 have lk0:=k0.lt
 have qkc:=kc.cell
 have rkc:=kc.frozen
 have lkc:=kc.lt
 cases F with
 | none=>
  have e1:Hid (R=none):=Lib.hid (by rw[hR.out])
  simp only[Option.getD_none,Option.isSome_none,fct0,Fct.val]
  clear hs
  go_wp2_with fail
  obtain ⟨zc,zf⟩:=set3 kc (.bool false) (.int .i64 0) (.int .i64 0)
  have z:=set10 (k0.fr zf (by omega)) (.int .i64 0) (.int .i64 0) (.int .i64 0) (.bool false) (.int .i64 0) (.int .i64 0) (.slice none 0 0) (.slice none 0 0) (.slice none 0 0) (.slice none 0 0)
  refine bodyPost_ret (v:=.tuple #[basV 0 0 0,.bool false]) (by simp[results,Tryd.results114,go_sem,z.1.cell,basV]) rfl ⟨_,by rw[e1.out];rfl,_,by rw[e1.out];exact CmAns.no (HB.out.ext zf (by omega)) z.2 (Nat.le_refl _) (kr.fr zf (by omega)) hrl⟩
 | some f=>
  obtain ⟨fe,fa,fb⟩:=f
  have hR1:=Lib.hid hR.out
  simp only[Option.getD_some,Option.isSome_some,Fct.val]
  replace hs:=Lib.hid hs
  go_upto_region 6 with fail
  clear hR
  replace hs:=hs.out
  clear qk0 rk0 lk0 qkc rkc lkc
  obtain ⟨zc,zf⟩:=set3 kc (.bool fe) (.int .i64 fa) (.int .i64 fb)
  generalize ((w1.setCell ⟨c,3,none⟩ (.bool fe)).setCell ⟨c,4,none⟩ (.int .i64 fa)).setCell ⟨c,5,none⟩ (.int .i64 fb)=U at zc zf ⊢
  replace k0:=k0.fr zf (by omega)
  replace kr:=kr.fr zf (by omega)
  replace HB:=Lib.hid (HB.out.ext zf (by omega))
  replace HT:=Lib.hid (HT.out.fr zf (by omega))
  have hzU:=zf.size
  replace kc:=zc
  have qk0:=k0.cell
  have rk0:=k0.frozen
  have lk0:=k0.lt
  have qkc:=kc.cell
  have rkc:=kc.frozen
  have lkc:=kc.lt
  replace hs:=Lib.hid hs
  go_wp2_with fail
  refine (HS.out U rest HT.out kr hl).mono ?_
  rintro e w2 ⟨vw2,rfl,tw2,⟨AB,nB,cB,rfl⟩,hFw2,krw2,hXw2⟩
  have hzw2:=hFw2.size
  replace HB:=Lib.hid (HB.out.trans hFw2)
  replace k0:=k0.fr hFw2 (by omega)
  replace kc:=kc.fr hFw2 (by omega)
  replace kr:=krw2
  replace HT:=Lib.hid (HT.out.fr hFw2 hrb)
  have hslw2:=Lib.hid (hs.out rest)
  replace hXw2:=Lib.hid hXw2
  clear krw2
  clear qk0 rk0 lk0 qkc rkc lkc
  have qk0:=k0.cell
  have rk0:=k0.frozen
  have lk0:=k0.lt
  have qkc:=kc.cell
  have rkc:=kc.frozen
  have lkc:=kc.lt
  obtain ⟨S,hS⟩:∃ S,S=sub rest:=⟨_,rfl⟩
  have hR2:=hR1.out
  try simp only at hR2
  rw[←hS] at hR2 ⊢
  have hX:=hXw2.out
  have hsl:=hslw2.out
  rw[←hS] at hX hsl
  clear hXw2 hslw2 hS hR1
  replace hR2:=Lib.hid hR2
  cases S with
  | none=>
   have e1:Hid (R=none):=Lib.hid (by rw[hR2.out])
   clear hX hsl
   go_wp2_with fail
   obtain ⟨zc,zf⟩:=setc (cs:=[.int .i64 6,.int .i64 0,.int .i64 0,.bool fe,.int .i64 fa,.int .i64 fb,.slice none 0 0,.slice none 0 0,.slice none 0 0,.slice none 0 0]) kc 8 (.slice AB nB cB)
   have z:=set10 (k0.fr zf (by omega)) (.int .i64 0) (.int .i64 0) (.int .i64 0) (.bool false) (.int .i64 0) (.int .i64 0) (.slice none 0 0) (.slice none 0 0) (.slice none 0 0) (.slice none 0 0)
   refine bodyPost_ret (v:=.tuple #[basV 0 0 0,.bool false]) (by simp[results,Tryd.results114,go_sem,z.1.cell,basV]) rfl ⟨_,by rw[e1.out];rfl,_,by rw[e1.out];exact CmAns.no (HB.out.ext zf (by omega)) z.2 (Nat.le_refl _) (kr.fr zf (by omega)) hrl⟩
  | some S0=>
   obtain ⟨body,r⟩:=S0
   obtain ⟨rfl,hQ⟩:=hX _ _ rfl
   have hrr:=hsl _ _ rfl
   obtain ⟨A',c',e',-⟩:=hQ.reads
   injection e' with e1 e2 e3
   subst e1 e2 e3
   clear hX hsl
   replace hQ:=Lib.hid hQ
   have hR3:=Lib.hid (show R=elsI sub ⟨6,0,0,⟨fe,fa,fb⟩,⟨[],[]⟩⟩ body tw2 from hR2.out)
   clear hR2
   go_upto_region 9 with fail
   clear qk0 rk0 lk0 qkc rkc lkc
   obtain ⟨zc,zf⟩:=setc (cs:=[.int .i64 6,.int .i64 0,.int .i64 0,.bool fe,.int .i64 fa,.int .i64 fb,.slice none 0 0,.slice none 0 0,.slice none 0 0,.slice none 0 0]) kc 8 (.slice AB body.len cB)
   simp only[List.set_cons_zero,List.set_cons_succ] at zc
   replace hQ:=Lib.hid (hQ.out.fr zf (by omega))
   generalize w2.setCell ⟨c,8,none⟩ (.slice AB body.len cB)=U2 at zc zf hQ ⊢
   have hzs2:w2.heap.size≤U2.heap.size:=zf.size
   replace k0:=k0.fr zf (by omega)
   replace kr:=kr.fr zf (by omega)
   replace HB:=Lib.hid (HB.out.ext zf (by omega))
   replace HT:=Lib.hid (HT.out.fr zf (by omega))
   have hzU2:=zf.size
   replace kc:=zc
   have hQ0:=Lib.hid (show QR U2 U.heap.size w2.heap.size (.slice AB body.len cB) body from hQ.out)
   clear hQ zf
   have HX:=Lib.hid (c_expect (s:=elseL) U2 HT.out hrb kr (by omega))
   obtain ⟨X,hX⟩:∃ X,X=expI elseL tw2:=⟨_,rfl⟩
   have hR4:=hR3.out
   unfold elsI at hR4
   rw[←hX] at HX hR4
   have hXl:=Lib.hid (fun r1 (h:X=some r1)=>expI_len (s:=elseL) (l:=tw2) (hX.symm.trans h))
   replace hR4:=Lib.hid hR4
   clear hR3 hX
   have qk0:=k0.cell
   have rk0:=k0.frozen
   have lk0:=k0.lt
   have qkc:=kc.cell
   have rkc:=kc.frozen
   have lkc:=kc.lt
   go_wp2_with fail
   refine HX.out.mono ?_
   rintro e w3 ⟨rfl,kr3,hF3⟩
   have hz3:=hF3.size
   replace HB:=Lib.hid (HB.out.trans hF3)
   replace k0:=k0.fr hF3 (by omega)
   replace kc:=kc.fr hF3 (by omega)
   replace kr:=kr3
   replace HT:=Lib.hid (HT.out.fr hF3 hrb)
   replace hQ0:=Lib.hid (hQ0.out.fr hF3 (by omega))
   clear HX kr3
   clear qk0 rk0 lk0 qkc rkc lkc
   have qk0:=k0.cell
   have rk0:=k0.frozen
   have lk0:=k0.lt
   have qkc:=kc.cell
   have rkc:=kc.frozen
   have lkc:=kc.lt
   go_upto_if 32 with fail
   go_cut [9] (fun s9 wc=>∃ (els:Cms) (q:Bs) (AE:Option Addr) (cE:Nat),Hid (R=endI ⟨6,0,0,⟨fe,fa,fb⟩,⟨[],[]⟩⟩ body els q)∧q.length<M∧Hid (TM wc)∧Blk wc c tC #[.int .i64 6,.int .i64 0,.int .i64 0,.bool fe,.int .i64 fa,.int .i64 fb,.slice none 0 0,.slice none 0 0,.slice AB body.len cB,.slice AE els.len cE]∧Blk wc w.heap.size tC #[.int .i64 0,.int .i64 0,.int .i64 0,.bool false,.int .i64 0,.int .i64 0,.slice none 0 0,.slice none 0 0,.slice none 0 0,.slice none 0 0]∧Blk wc rb tLR #[sv q]∧Hid (Fr rb w wc)∧Hid (QR wc U.heap.size w2.heap.size (.slice AB body.len cB) body)∧Hid (QR wc w2.heap.size wc.heap.size (.slice AE els.len cE) els)∧w2.heap.size≤wc.heap.size)
   case first=>
    cases X with
    | none=>
     clear hXl
     simp only[Option.isSome_none,Option.getD_none] at kr ⊢
     go_wp2_with fail
     go_meet
     case rel=>exact ⟨.nil,tw2,none,0,Lib.hid hR4.out,by omega,HT,kc,k0,kr,HB,hQ0,Lib.hid (QR.nil _ (by omega)),by omega⟩
    | some r1=>
     have hr1:=hXl.out _ rfl
     simp only[Option.isSome_some,Option.getD_some] at kr ⊢
     clear hXl
     go_wp2_with fail
     refine (HS.out w3 r1 HT.out kr (by omega)).mono ?_
     rintro e w4 ⟨vw4,rfl,tw4,⟨AE,nE,cE,rfl⟩,hFw4,krw4,hXw4⟩
     have hzw4:=hFw4.size
     replace HB:=Lib.hid (HB.out.trans hFw4)
     replace k0:=k0.fr hFw4 (by omega)
     replace kc:=kc.fr hFw4 (by omega)
     replace kr:=krw4
     replace HT:=Lib.hid (HT.out.fr hFw4 hrb)
     have hslw4:=Lib.hid (hs.out r1)
     replace hXw4:=Lib.hid hXw4
     clear krw4
     clear qk0 rk0 lk0 qkc rkc lkc
     have qk0:=k0.cell
     have rk0:=k0.frozen
     have lk0:=k0.lt
     have qkc:=kc.cell
     have rkc:=kc.frozen
     have lkc:=kc.lt
     replace hQ0:=Lib.hid (hQ0.out.fr hFw4 (by omega))
     obtain ⟨S,hS⟩:∃ S,S=sub r1:=⟨_,rfl⟩
     have hR5:=hR4.out
     try simp only at hR5
     rw[←hS] at hR5 ⊢
     have hX:=hXw4.out
     have hsl:=hslw4.out
     rw[←hS] at hX hsl
     clear hXw4 hslw4 hS hR4
     replace hR5:=Lib.hid hR5
     cases S with
     | none=>
      have e1:Hid (R=none):=Lib.hid (by rw[hR5.out])
      clear hX hsl
      go_wp2_with fail
      obtain ⟨zc,zf⟩:=setc (cs:=[.int .i64 6,.int .i64 0,.int .i64 0,.bool fe,.int .i64 fa,.int .i64 fb,.slice none 0 0,.slice none 0 0,.slice AB body.len cB,.slice none 0 0]) kc 9 (.slice AE nE cE)
      have z:=set10 (k0.fr zf (by omega)) (.int .i64 0) (.int .i64 0) (.int .i64 0) (.bool false) (.int .i64 0) (.int .i64 0) (.slice none 0 0) (.slice none 0 0) (.slice none 0 0) (.slice none 0 0)
      refine bodyPost_ret (v:=.tuple #[basV 0 0 0,.bool false]) (by simp[results,Tryd.results114,go_sem,z.1.cell,basV]) rfl ⟨_,by rw[e1.out];rfl,_,by rw[e1.out];exact CmAns.no (HB.out.ext zf (by omega)) z.2 (Nat.le_refl _) (kr.fr zf (by omega)) hrl⟩
     | some S0=>
      obtain ⟨els,r2⟩:=S0
      obtain ⟨rfl,hQ⟩:=hX _ _ rfl
      have hrr2:=hsl _ _ rfl
      obtain ⟨A',c',e',-⟩:=hQ.reads
      injection e' with e1 e2 e3
      subst e1 e2 e3
      clear hX hsl
      replace hQ:=Lib.hid hQ
      have hR6:=Lib.hid (show R=if els.len=0 then none else endI ⟨6,0,0,⟨fe,fa,fb⟩,⟨[],[]⟩⟩ body els tw4 from hR5.out)
      clear hR5
      obtain ⟨zc,zf⟩:=setc (cs:=[.int .i64 6,.int .i64 0,.int .i64 0,.bool fe,.int .i64 fa,.int .i64 fb,.slice none 0 0,.slice none 0 0,.slice AB body.len cB,.slice none 0 0]) kc 9 (.slice AE els.len cE)
      simp only[List.set_cons_zero,List.set_cons_succ] at zc
      by_cases h0:els.len=0
      ·have e1:Hid (R=none):=Lib.hid (by rw[hR6.out,if_pos h0])
       have h0i:((els.len:Nat):Int)=0:=by omega
       have qz:=zc.cell
       replace h0:=Lib.hid h0
       replace zf:=Lib.hid zf
       go_wp2_with fail
       have z:=set10 (k0.fr zf.out (by omega)) (.int .i64 0) (.int .i64 0) (.int .i64 0) (.bool false) (.int .i64 0) (.int .i64 0) (.slice none 0 0) (.slice none 0 0) (.slice none 0 0) (.slice none 0 0)
       refine bodyPost_ret (v:=.tuple #[basV 0 0 0,.bool false]) (by simp[results,Tryd.results114,go_sem,z.1.cell,basV]) rfl ⟨_,by rw[e1.out];rfl,_,by rw[e1.out];exact CmAns.no (HB.out.ext zf.out (by omega)) z.2 (Nat.le_refl _) (kr.fr zf.out (by omega)) hrl⟩
      ·have hR7:Hid (R=endI ⟨6,0,0,⟨fe,fa,fb⟩,⟨[],[]⟩⟩ body els tw4):=Lib.hid (by rw[hR6.out,if_neg h0])
       have h0i:¬((els.len:Nat):Int)=0:=by omega
       have qz:=zc.cell
       replace zf:=Lib.hid zf
       replace zc:=Lib.hid zc
       go_wp2_with fail
       go_meet
       case rel=>exact ⟨els,tw4,AE,cE,hR7,by omega,Lib.hid (HT.out.fr zf.out (by omega)),zc.out,k0.fr zf.out (by omega),kr.fr zf.out (by omega),Lib.hid (HB.out.ext zf.out (by omega)),Lib.hid (hQ0.out.fr zf.out (by omega)),Lib.hid ((hQ.out.fr zf.out (by omega)).mono (by omega) zf.out.size),by have:=zf.out.size;omega⟩
   case rest=>
    clear k0 kc kr qk0 rk0 lk0 qkc rkc lkc HT HB hQ0 hXl hR4
    obtain ⟨els,q,AE,cE,hR2,hlq0,HT,kc,k0,kr,HB,hQ0,hQ1,hzw⟩:=hcut
    obtain ⟨V,rfl⟩:∃ z,z=wc:=⟨_,rfl⟩
    have hlq:q.length≤2000000:=by omega
    go_upto_region 13 with fail
    refine wp_region_noPanic ?_
    refine wp_region_held_drew (S:=(fun w'=>∀ j:Nat,w'.cell? ⟨c,j,none⟩=#[.int .i64 6,.int .i64 0,.int .i64 0,.bool fe,.int .i64 fa,.int .i64 fb,.slice none 0 0,.slice none 0 0,.slice AB body.len cB,.slice AE els.len cE][j]?)) (by kernel_rfl) (kc.drew.cell) (fun hHeld=>?_)
    refine tk 0 ?_ rfl (fun w hSw=>?_) hHeld ?_
    rotate_left
    ·((try dsimp only at hSw);go_split_ands;go_simp;(try with_reducible rfl))
    try simp only[Act.put,zA,zB,zC,zD,zE,zF]
    refine tk 1 ?_ rfl (fun w hSw=>?_) hHeld ?_
    rotate_left
    ·((try dsimp only at hSw);go_split_ands;go_simp;(try with_reducible rfl))
    try simp only[Act.put,zA,zB,zC,zD,zE,zF]
    refine rdc 2 rfl fun K hK=>?_
    try simp only[zA,zB,zC]
    (go_simp;refine (c_expect (s:=endL) _ (HT.out.below (Below.refl _ _).drew) hrb kr.drew hlq).mono ?_;rintro e w8 ⟨rfl,kr8,hF8⟩;have kc8:=kc.drew.fr hF8 (by omega);have k08:=k0.drew.fr hF8 (by omega);have q08:=k08.cell;have r08:=k08.frozen;have l08:=k08.lt)
    refine hK.out _ _ (kc8.cell) ?_
    clear hHeld hK K
    intro hHeld
    try simp only[Act.put,zA,zB,zC,zD,zE,zF]
    refine rdc 3 rfl fun K hK=>?_
    try simp only[zA,zB,zC]
    (go_simp;have z:=set10 k08 (.int .i64 6) (.int .i64 0) (.int .i64 0) (.bool fe) (.int .i64 fa) (.int .i64 fb) (.slice none 0 0) (.slice none 0 0) (.slice AB body.len cB) (.slice AE els.len cE))
    refine hK.out _ _ ((kc8.fr z.2 (by omega)).cell) ?_
    clear hHeld hK K
    intro hHeld
    try simp only[Act.put,zA,zB,zC,zD,zE,zF]
    refine tk 4 ?_ rfl (fun w hSw=>?_) hHeld ?_
    rotate_left
    ·((try dsimp only at hSw);go_split_ands;go_simp;(try with_reducible rfl))
    try simp only[Act.put,zA,zB,zC,zD,zE,zF]
    refine wpAnyH_done (by kernel_rfl) ?_ _
    refine NoPanic.normal ?_
    go_wp2_with fail
    obtain ⟨E,hE⟩:∃ E,E=expI endL q:=⟨_,rfl⟩
    rw[←hE] at kr8 ⊢
    have hRE:R=E.map fun r=>(⟨6,0,0,⟨fe,fa,fb⟩,⟨[],[]⟩⟩,body,els,r):=by
     have:=hR2.out
     unfold endI at this
     rw[←hE] at this
     rw[this]
     cases E<;>rfl
    refine bodyPost_ret (v:=.tuple #[.agg #[.int .i64 6,.int .i64 0,.int .i64 0,.bool fe,.int .i64 fa,.int .i64 fb,.slice none 0 0,.slice none 0 0,.slice AB body.len cB,.slice AE els.len cE],.bool E.isSome]) (by simp[results,Tryd.results114,go_sem,z.1.cell]) rfl ⟨_,by rw[hRE];cases E<;>rfl,E.getD q,⟨⟨_,_,_,_,_,_,_,_,_,_,_,_,_,_,_,_,_,_,rfl⟩,(HB.out.drew.trans hF8).ext z.2 (Nat.le_refl _),kr8.fr z.2 (by omega),fun cc hcc=>?_⟩⟩
    have hz8:=hF8.size
    have hzz:=z.2.size
    simp only[World.size_drew] at hz8
    rw[hRE] at hcc
    obtain ⟨r,hr,hcc⟩:=Option.map_eq_some_iff.mp hcc
    subst hcc
    refine ⟨by rw[hr];rfl,_,_,_,_,U.heap.size,w2.heap.size,rfl,⟨by omega,by omega,by omega⟩,AsnI.nil _ _ _,((hQ0.out.fr ((Fr.refl rb _).drew.trans hF8) (by omega)).fr z.2 (by omega)),(((hQ1.out.fr ((Fr.refl rb _).drew.trans hF8) (by omega)).fr z.2 (by omega)).mono (Nat.le_refl _) (by omega))⟩
set_option maxRecDepth 100000 in
set_option maxHeartbeats 25600000 in
theorem c_lps {rb M:Nat} {sub:Bs→Option (Cms×Bs)} (d:Nat) (HS:SubOk rb ((d:Int)+1) M sub) (hs:SubLe sub) (hM:M≤1100000) (x rest:Bs) (w:World) (hT:TM w) (hrb:1<rb) (h:Blk w rb tLR #[sv rest]) (hl:rest.length<M) (hx:x.length≤1049000) (hd:d≤4) :
  Calls Tryd.prog 115 #[.pointer (some ⟨rb,0,none⟩),sv x,.int .i64 d] w fun e w'=>∃ v,e=.returned (.tuple #[v,.bool (whI sub x rest).isSome])∧∃ t,CmAns rb w w' v t (whI sub x rest):=by
 obtain ⟨R,hR⟩:∃ R,R=whI sub x rest:=⟨_,rfl⟩
 rw[←hR]
 unfold whI at hR
 have CC:=Lib.hid fun W (h:TM W)=>c_Cut x withP W h (by omega)
 have hcl:=cut_len x withP
 obtain ⟨a,ha⟩:∃ a,a=(Lib.cut x withP).1:=⟨_,rfl⟩
 obtain ⟨b,hb⟩:∃ a,a=(Lib.cut x withP).2.1:=⟨_,rfl⟩
 obtain ⟨fd,hfd⟩:∃ a,a=(Lib.cut x withP).2.2:=⟨_,rfl⟩
 rw[←ha,←hb,←hfd] at CC hR
 rw[←ha,←hb] at hcl
 have HF:=Lib.hid fun W (h:TM W)=>c_iPF a W h (by omega)
 have HA:=Lib.hid fun W (h:TM W)=>c_iPA b W h (by omega)
 obtain ⟨F,hF⟩:∃ F,F=pFactI a:=⟨_,rfl⟩
 obtain ⟨A,hA⟩:∃ F,F=pAI b:=⟨_,rfl⟩
 rw[←hF] at hR HF
 rw[←hA] at hR HA
 clear hF hA ha hb hfd hcl
 replace hR:=Lib.hid hR
 have HT:=Lib.hid hT
 replace HS:=Lib.hid HS
 have hrl:=h.lt
 clear hT
 go_enter Tryd.func115,Tryd.ntmps115
 go_upto_region 2 with fail
 refine bx2 (w:=w) (F:=Code.wp _ _ _ _) ?_
 rintro W k0 kc hB hWs
 replace HT:=Lib.hid (HT.out.below hB)
 have kr:=h.next hB
 obtain ⟨c,hc⟩:∃ y,y=w.heap.size+1:=⟨_,rfl⟩
 have hyw:w.heap.size<c∧c<W.heap.size:=by omega
 obtain ⟨hyw,hcW⟩:=hyw
 rw[←hc] at kc ⊢
 have HB:=Lib.hid (Fr.ofBelow (g:=rb) hB)
 clear hc hWs hB h
 go_wp2_with fail
 refine (CC.out _ HT.out).mono ?_
 rintro e w0 ⟨rfl,hq⟩
 replace HB:=Lib.hid (HB.out.go hq)
 have hzw0:=hq.size
 replace HT:=Lib.hid (HT.out.below hq)
 replace k0:=k0.next hq
 replace kc:=kc.next hq
 replace kr:=kr.next hq
 clear hq
 clear CC
 have qk0:=k0.cell
 have rk0:=k0.frozen
 have lk0:=k0.lt
 have qkc:=kc.cell
 have rkc:=kc.frozen
 have lkc:=kc.lt
 cases fd with
 | false=>
  have e1:Hid (R=none):=Lib.hid (by rw[hR.out];rfl)
  clear hs
  go_wp2_with fail
  have z:=set10 k0 (.int .i64 0) (.int .i64 0) (.int .i64 0) (.bool false) (.int .i64 0) (.int .i64 0) (.slice none 0 0) (.slice none 0 0) (.slice none 0 0) (.slice none 0 0)
  refine bodyPost_ret (v:=.tuple #[basV 0 0 0,.bool false]) (by simp[results,Tryd.results115,go_sem,z.1.cell,basV]) rfl ⟨_,by rw[e1.out];rfl,_,by rw[e1.out];exact CmAns.no HB.out z.2 (Nat.le_refl _) kr hrl⟩
 | true=>
  have hR0:Hid (R=wh2 sub rest F A):=Lib.hid (by rw[hR.out];rfl)
  replace hs:=Lib.hid hs
  clear hR
  go_wp2_with fail
  refine (HF.out _ HT.out).mono ?_
  rintro e w1 ⟨rfl,hq⟩
  replace HB:=Lib.hid (HB.out.go hq)
  have hzw1:=hq.size
  replace HT:=Lib.hid (HT.out.below hq)
  replace k0:=k0.next hq
  replace kc:=kc.next hq
  replace kr:=kr.next hq
  clear hq
  clear HF
  clear qk0 rk0 lk0 qkc rkc lkc
  have qk0:=k0.cell
  have rk0:=k0.frozen
  have lk0:=k0.lt
  have qkc:=kc.cell
  have rkc:=kc.frozen
  have lkc:=kc.lt
  cases F with
  | none=>
   have e1:Hid (R=none):=Lib.hid (by rw[hR0.out];rfl)
   simp only[Option.getD_none,Option.isSome_none,fct0,Fct.val]
   clear hs
   go_wp2_with fail
   obtain ⟨zc,zf⟩:=set3 kc (.bool false) (.int .i64 0) (.int .i64 0)
   have z:=set10 (k0.fr zf (by omega)) (.int .i64 0) (.int .i64 0) (.int .i64 0) (.bool false) (.int .i64 0) (.int .i64 0) (.slice none 0 0) (.slice none 0 0) (.slice none 0 0) (.slice none 0 0)
   refine bodyPost_ret (v:=.tuple #[basV 0 0 0,.bool false]) (by simp[results,Tryd.results115,go_sem,z.1.cell,basV]) rfl ⟨_,by rw[e1.out];rfl,_,by rw[e1.out];exact CmAns.no (HB.out.ext zf (by omega)) z.2 (Nat.le_refl _) (kr.fr zf (by omega)) hrl⟩
  | some f=>
   obtain ⟨fe,fa,fb⟩:=f
   simp only[Option.getD_some,Option.isSome_some,Fct.val]
   go_upto_region 9 with fail
   clear qk0 rk0 lk0 qkc rkc lkc
   obtain ⟨zc,zf⟩:=set3 kc (.bool fe) (.int .i64 fa) (.int .i64 fb)
   generalize ((w1.setCell ⟨c,3,none⟩ (.bool fe)).setCell ⟨c,4,none⟩ (.int .i64 fa)).setCell ⟨c,5,none⟩ (.int .i64 fb)=U at zc zf ⊢
   replace k0:=k0.fr zf (by omega)
   replace kr:=kr.fr zf (by omega)
   replace HB:=Lib.hid (HB.out.ext zf (by omega))
   replace HT:=Lib.hid (HT.out.fr zf (by omega))
   have hzU:=zf.size
   replace kc:=zc
   go_wp2_with fail
   refine (HA.out _ HT.out).mono ?_
   rintro e w3 ⟨r,rfl,oA,hq⟩
   obtain ⟨AF,cF,AA,cA,rfl⟩:=oA.I.form
   have oI:=Lib.hid oA.I
   clear oA
   replace HB:=Lib.hid (HB.out.go hq)
   have hzw3:=hq.size
   replace HT:=Lib.hid (HT.out.below hq)
   replace k0:=k0.next hq
   replace kc:=kc.next hq
   replace kr:=kr.next hq
   clear hq
   clear HA
   have qk0:=k0.cell
   have rk0:=k0.frozen
   have lk0:=k0.lt
   have qkc:=kc.cell
   have rkc:=kc.frozen
   have lkc:=kc.lt
   obtain ⟨zc,zf⟩:=set2 kc (.slice AF (A.getD ⟨[],[]⟩).facts.length cF) (.slice AA (A.getD ⟨[],[]⟩).atoms.length cA)
   replace zc:=Lib.hid zc
   replace zf:=Lib.hid zf
   cases A with
   | none=>
    have e1:Hid (R=none):=Lib.hid (by rw[hR0.out];rfl)
    simp only[Option.getD_none,Option.isSome_none,List.length_nil] at zc zf ⊢
    replace zf:=Lib.hid zf.out
    clear hs oI
    go_wp2_with fail
    have z:=set10 (k0.fr zf.out (by omega)) (.int .i64 0) (.int .i64 0) (.int .i64 0) (.bool false) (.int .i64 0) (.int .i64 0) (.slice none 0 0) (.slice none 0 0) (.slice none 0 0) (.slice none 0 0)
    refine bodyPost_ret (v:=.tuple #[basV 0 0 0,.bool false]) (by simp[results,Tryd.results115,go_sem,z.1.cell,basV]) rfl ⟨_,by rw[e1.out];rfl,_,by rw[e1.out];exact CmAns.no (HB.out.ext zf.out (by omega)) z.2 (Nat.le_refl _) (kr.fr zf.out (by omega)) hrl⟩
   | some i=>
    simp only[Option.getD_some,Option.isSome_some] at zc zf oI ⊢
    go_upto_region 12 with fail
    replace zc:=zc.out
    replace zf:=zf.out
    generalize (w3.setCell ⟨c,6,none⟩ (.slice AF i.facts.length cF)).setCell ⟨c,7,none⟩ (.slice AA i.atoms.length cA)=U2 at zc zf ⊢
    replace oI:=Lib.hid (oI.out.fr zf (by omega))
    clear qk0 rk0 lk0 qkc rkc lkc
    replace k0:=k0.fr zf (by omega)
    replace kr:=kr.fr zf (by omega)
    replace HB:=Lib.hid (HB.out.ext zf (by omega))
    replace HT:=Lib.hid (HT.out.fr zf (by omega))
    have hzU2:=zf.size
    replace kc:=zc
    clear zf
    go_wp2_with fail
    refine (HS.out U2 rest HT.out kr hl).mono ?_
    rintro e w2 ⟨vw2,rfl,tw2,⟨AB,nB,cB,rfl⟩,hFw2,krw2,hXw2⟩
    have hzw2:=hFw2.size
    replace HB:=Lib.hid (HB.out.trans hFw2)
    replace k0:=k0.fr hFw2 (by omega)
    replace kc:=kc.fr hFw2 (by omega)
    replace kr:=krw2
    replace HT:=Lib.hid (HT.out.fr hFw2 hrb)
    have hslw2:=Lib.hid (hs.out rest)
    replace hXw2:=Lib.hid hXw2
    clear krw2
    replace oI:=Lib.hid (oI.out.fr hFw2 (by omega))
    have qk0:=k0.cell
    have rk0:=k0.frozen
    have lk0:=k0.lt
    have qkc:=kc.cell
    have rkc:=kc.frozen
    have lkc:=kc.lt
    have hR2:R=match sub rest with|none=>none|some (body,r)=>endI ⟨7,0,0,⟨fe,fa,fb⟩,i⟩ body .nil r:=by rw[hR0.out];rfl
    obtain ⟨S,hS⟩:∃ S,S=sub rest:=⟨_,rfl⟩
    rw[←hS] at hR2 ⊢
    have hX:=hXw2.out
    have hsl:=hslw2.out
    rw[←hS] at hX hsl
    clear hXw2 hslw2 hS hR0
    replace hR2:=Lib.hid hR2
    cases S with
    | none=>
     have e1:Hid (R=none):=Lib.hid hR2.out
     clear hX hsl
     go_wp2_with fail
     obtain ⟨zc,zf⟩:=setc (cs:=[.int .i64 7,.int .i64 0,.int .i64 0,.bool fe,.int .i64 fa,.int .i64 fb,.slice AF i.facts.length cF,.slice AA i.atoms.length cA,.slice none 0 0,.slice none 0 0]) kc 8 (.slice AB nB cB)
     have z:=set10 (k0.fr zf (by omega)) (.int .i64 0) (.int .i64 0) (.int .i64 0) (.bool false) (.int .i64 0) (.int .i64 0) (.slice none 0 0) (.slice none 0 0) (.slice none 0 0) (.slice none 0 0)
     refine bodyPost_ret (v:=.tuple #[basV 0 0 0,.bool false]) (by simp[results,Tryd.results115,go_sem,z.1.cell,basV]) rfl ⟨_,by rw[e1.out];rfl,_,by rw[e1.out];exact CmAns.no (HB.out.ext zf (by omega)) z.2 (Nat.le_refl _) (kr.fr zf (by omega)) hrl⟩
    | some S0=>
     obtain ⟨body,q⟩:=S0
     obtain ⟨rfl,hQ⟩:=hX _ _ rfl
     have hrr:=hsl _ _ rfl
     obtain ⟨A',c',e',-⟩:=hQ.reads
     injection e' with e1 e2 e3
     subst e1 e2 e3
     clear hX hsl
     replace hQ:=Lib.hid hQ
     obtain ⟨q,rfl⟩:∃ q,q=tw2:=⟨_,rfl⟩
     replace hR2:=Lib.hid (show R=endI ⟨7,0,0,⟨fe,fa,fb⟩,i⟩ body .nil q from hR2.out)
     go_upto_region 15 with fail
     obtain ⟨zc,zf⟩:=setc (cs:=[.int .i64 7,.int .i64 0,.int .i64 0,.bool fe,.int .i64 fa,.int .i64 fb,.slice AF i.facts.length cF,.slice AA i.atoms.length cA,.slice none 0 0,.slice none 0 0]) kc 8 (.slice AB body.len cB)
     simp only[List.set_cons_zero,List.set_cons_succ] at zc
     generalize w2.setCell ⟨c,8,none⟩ (.slice AB body.len cB)=V at zc zf ⊢
     replace hQ:=Lib.hid (hQ.out.fr zf (by omega))
     replace oI:=Lib.hid (oI.out.fr zf (by omega))
     clear qk0 rk0 lk0 qkc rkc lkc
     replace k0:=k0.fr zf (by omega)
     replace kr:=kr.fr zf (by omega)
     replace HB:=Lib.hid (HB.out.ext zf (by omega))
     replace HT:=Lib.hid (HT.out.fr zf (by omega))
     have hzV:=zf.size
     replace kc:=zc
     have qk0:=k0.cell
     have rk0:=k0.frozen
     have lk0:=k0.lt
     have qkc:=kc.cell
     have rkc:=kc.frozen
     have lkc:=kc.lt
     clear zf
     have hlq:q.length≤2000000:=by omega
     refine wp_region_noPanic ?_
     refine wp_region_held_drew (S:=(fun w'=>∀ j:Nat,w'.cell? ⟨c,j,none⟩=#[.int .i64 7,.int .i64 0,.int .i64 0,.bool fe,.int .i64 fa,.int .i64 fb,.slice AF i.facts.length cF,.slice AA i.atoms.length cA,.slice AB body.len cB,.slice none 0 0][j]?)) (by kernel_rfl) (kc.drew.cell) (fun hHeld=>?_)
     refine tk 0 ?_ rfl (fun w hSw=>?_) hHeld ?_
     rotate_left
     ·((try dsimp only at hSw);go_split_ands;go_simp;(try with_reducible rfl))
     try simp only[Act.put,zA,zB,zC,zD,zE,zF]
     refine tk 1 ?_ rfl (fun w hSw=>?_) hHeld ?_
     rotate_left
     ·((try dsimp only at hSw);go_split_ands;go_simp;(try with_reducible rfl))
     try simp only[Act.put,zA,zB,zC,zD,zE,zF]
     refine rdc 2 rfl fun K hK=>?_
     try simp only[zA,zB,zC]
     (go_simp;refine (c_expect (s:=endL) _ (HT.out.below (Below.refl _ _).drew) hrb kr.drew hlq).mono ?_;rintro e w8 ⟨rfl,kr8,hF8⟩;have kc8:=kc.drew.fr hF8 (by omega);have k08:=k0.drew.fr hF8 (by omega);have q08:=k08.cell;have r08:=k08.frozen;have l08:=k08.lt)
     refine hK.out _ _ (kc8.cell) ?_
     clear hHeld hK K
     intro hHeld
     try simp only[Act.put,zA,zB,zC,zD,zE,zF]
     refine rdc 3 rfl fun K hK=>?_
     try simp only[zA,zB,zC]
     (go_simp;have z:=set10 k08 (.int .i64 7) (.int .i64 0) (.int .i64 0) (.bool fe) (.int .i64 fa) (.int .i64 fb) (.slice AF i.facts.length cF) (.slice AA i.atoms.length cA) (.slice AB body.len cB) (.slice none 0 0))
     refine hK.out _ _ ((kc8.fr z.2 (by omega)).cell) ?_
     clear hHeld hK K
     intro hHeld
     try simp only[Act.put,zA,zB,zC,zD,zE,zF]
     refine tk 4 ?_ rfl (fun w hSw=>?_) hHeld ?_
     rotate_left
     ·((try dsimp only at hSw);go_split_ands;go_simp;(try with_reducible rfl))
     try simp only[Act.put,zA,zB,zC,zD,zE,zF]
     refine wpAnyH_done (by kernel_rfl) ?_ _
     refine NoPanic.normal ?_
     go_wp2_with fail
     obtain ⟨E,hE⟩:∃ E,E=expI endL q:=⟨_,rfl⟩
     rw[←hE] at kr8 ⊢
     have hRE:R=E.map fun r=>(⟨7,0,0,⟨fe,fa,fb⟩,i⟩,body,.nil,r):=by
      have:=hR2.out
      unfold endI at this
      rw[←hE] at this
      rw[this]
      cases E<;>rfl
     refine bodyPost_ret (v:=.tuple #[.agg #[.int .i64 7,.int .i64 0,.int .i64 0,.bool fe,.int .i64 fa,.int .i64 fb,.slice AF i.facts.length cF,.slice AA i.atoms.length cA,.slice AB body.len cB,.slice none 0 0],.bool E.isSome]) (by simp[results,Tryd.results115,go_sem,z.1.cell]) rfl ⟨_,by rw[hRE];cases E<;>rfl,E.getD q,⟨⟨_,_,_,_,_,_,_,_,_,_,_,_,_,_,_,_,_,_,rfl⟩,(HB.out.drew.trans hF8).ext z.2 (Nat.le_refl _),kr8.fr z.2 (by omega),fun cc hcc=>?_⟩⟩
     have hz8:=hF8.size
     have hzz:=z.2.size
     simp only[World.size_drew] at hz8
     rw[hRE] at hcc
     obtain ⟨r,hr,hcc⟩:=Option.map_eq_some_iff.mp hcc
     subst hcc
     refine ⟨by rw[hr];rfl,_,_,_,_,w3.heap.size,w2.heap.size,rfl,⟨by omega,by omega,by omega⟩,((oI.out.fr ((Fr.refl rb _).drew.trans hF8) (by omega)).fr z.2 (by omega)).low (by omega),(((hQ.out.fr ((Fr.refl rb _).drew.trans hF8) (by omega)).fr z.2 (by omega)).mono (by omega) (Nat.le_refl _)),QR.nil _ (by omega)⟩
end Go.Proofs.YtjbboklnegfohaaDoor

/- Contracts: commands and blocks from texts (impl): command, block. -/
namespace Go.Proofs.YtjbboklnegfohaaDoor
open Go Go.RowKit Go.Proofs
theorem C1Q.low {w:World} {lo lo' hi hi':Nat} {v:Value} {h:Hd} {body els:Cms} (hc:C1Q w lo hi v h body els) (e:lo'≤lo) (e2:hi≤hi'):C1Q w lo' hi' v h body els:=by
 obtain ⟨vF,vA,vB,vE,m1,m2,e1,⟨o1,o2,o3⟩,h1,h2,h3⟩:=hc
 exact ⟨vF,vA,vB,vE,m1,m2,e1,⟨by omega,o2,by omega⟩,h1.low e,h2,h3.mono (Nat.le_refl _) e2⟩
theorem C1Q.fr {w w':World} {lo hi g:Nat} {v:Value} {h:Hd} {body els:Cms} (hc:C1Q w lo hi v h body els) (hf:Fr g w w') (hg:g<lo):C1Q w' lo hi v h body els:=hc.keep fun b h1 _ h3=>hf.block b h3 (by omega)
theorem CmAns.up {rb g:Nat} {w W a b:World} {v:Value} {t:Bs} {R:Option Cr} (hf:Fr rb w W) (h:CmAns rb W a v t R) (hz:Fr g a b) (hg:w.heap.size≤g) (hgW:g<W.heap.size) (hr:rb<w.heap.size):CmAns rb w b v t R:=by
 obtain ⟨h1,h2,h3,h4⟩:=h
 refine ⟨h1,(hf.trans h2).ext hz hg,h3.fr hz (by omega),fun c hc=>?_⟩
 obtain ⟨e,h5⟩:=h4 c hc
 exact ⟨e,(h5.fr hz hgW).low hf.size hz.size⟩
theorem C1Q.bas {w:World} {lo hi:Nat} (hle:lo≤hi) {h:Hd} (e1:h.t=fctZ) (e2:h.i=⟨[],[]⟩):C1Q w lo hi (basV h.k h.a h.b) h .nil .nil:=by
 refine ⟨_,_,_,_,lo,lo,?_,⟨Nat.le_refl _,Nat.le_refl _,hle⟩,by rw[e2];exact AsnI.nil _ _ _,QR.nil _ (Nat.le_refl _),QR.nil _ hle⟩
 rw[e1];rfl
set_option maxRecDepth 100000 in
set_option maxHeartbeats 12800000 in
theorem c_cmd {rb M:Nat} {sub:Bs→Option (Cms×Bs)} (d:Nat) (HS:SubOk rb ((d:Int)+1) M sub) (hs:SubLe sub) (hM:M≤1100000) (x rest:Bs) (w:World) (hT:TM w) (hrb:1<rb) (h:Blk w rb tLR #[sv rest]) (hl:rest.length<M) (hx:x.length≤1049000) (hd:d≤4) :
  Calls Tryd.prog 89 #[.pointer (some ⟨rb,0,none⟩),sv x,.int .i64 d] w fun e w'=>∃ v,e=.returned (.tuple #[v,.bool (cmI sub x rest).isSome])∧∃ t,CmAns rb w w' v t (cmI sub x rest):=by
 obtain ⟨R,hR⟩:∃ R,R=cmI sub x rest:=⟨_,rfl⟩
 rw[←hR]
 unfold cmI at hR
 have P1:=Lib.hid (c_CutPre x ifP)
 have P2:=Lib.hid (c_CutPre x whP)
 have hl1:=trimP_len x ifP
 have hl2:=trimP_len x whP
 have K1:=Lib.hid fun (W:World) (hT:TM W) (h:Blk W rb tLR #[sv rest])=>c_brs d HS hs hM (Lib.trimPrefix x ifP) rest W hT hrb h hl (by omega) hd
 have K2:=Lib.hid fun (W:World) (hT:TM W) (h:Blk W rb tLR #[sv rest])=>c_lps d HS hs hM (Lib.trimPrefix x whP) rest W hT hrb h hl (by omega) hd
 have K3:=Lib.hid fun (W:World) (hT:TM W)=>c_bscI x W hT (by omega)
 obtain ⟨t1,ht1⟩:∃ t,t=Lib.trimPrefix x ifP:=⟨_,rfl⟩
 obtain ⟨t2,ht2⟩:∃ t,t=Lib.trimPrefix x whP:=⟨_,rfl⟩
 obtain ⟨p1,hp1⟩:∃ t,t=Lib.hasPrefix x ifP:=⟨_,rfl⟩
 obtain ⟨p2,hp2⟩:∃ t,t=Lib.hasPrefix x whP:=⟨_,rfl⟩
 rw[←ht1] at K1
 rw[←ht2] at K2
 rw[←ht1,←hp1] at P1
 rw[←ht2,←hp2] at P2
 rw[←ht1,←ht2,←hp1,←hp2] at hR
 have HT:=Lib.hid hT
 have hrl:=h.lt
 replace hR:=Lib.hid hR
 clear ht1 ht2 hp1 hp2 hl1 hl2 hT HS hs
 go_enter Tryd.func89,Tryd.ntmps89
 go_upto_region 1 with fail
 refine bx1 (w:=w) (F:=Code.wp _ _ _ _) ?_
 rintro W k0 hB hWs
 replace HT:=Lib.hid (HT.out.below hB)
 have kr:=h.next hB
 have HB:=Lib.hid (Fr.ofBelow (g:=rb) hB)
 have hgW:w.heap.size<W.heap.size:=by omega
 clear hB hWs h
 go_wp2_with fail
 refine (P1.out _).mono ?_
 rintro e w1 ⟨rfl,rfl⟩
 have q0:=k0.cell
 have r0:=k0.frozen
 have l0:=k0.lt
 cases p1 with
 | true=>
  have hR1:R=ifI sub t1 rest:=by rw[hR.out];rfl
  clear P2 K2 K3 hR
  go_wp2_with fail
  refine (K1.out W HT.out kr).mono ?_
  rintro e w2 ⟨v,rfl,t,hC⟩
  rw[←hR1] at hC ⊢
  have hk0:=k0.fr hC.2.1 (by omega)
  obtain ⟨ck,ca,cb,ct,cx,cy,A6,A7,A8,A9,n6,c6,n7,c7,n8,c8,n9,c9,rfl⟩:=hC.1
  replace hC:=Lib.hid hC
  have q2:=hk0.cell
  have r2:=hk0.frozen
  have l2:=hk0.lt
  clear K1 q0 r0 l0 hR1
  go_wp2_with fail
  have z:=set10 hk0 (.int .i64 ck) (.int .i64 ca) (.int .i64 cb) (.bool ct) (.int .i64 cx) (.int .i64 cy) (.slice A6 n6 c6) (.slice A7 n7 c7) (.slice A8 n8 c8) (.slice A9 n9 c9)
  refine bodyPost_ret (v:=.tuple #[.agg #[.int .i64 ck,.int .i64 ca,.int .i64 cb,.bool ct,.int .i64 cx,.int .i64 cy,.slice A6 n6 c6,.slice A7 n7 c7,.slice A8 n8 c8,.slice A9 n9 c9],.bool R.isSome]) (by simp[results,Tryd.results89,go_sem,z.1.cell]) rfl ⟨_,rfl,_,CmAns.up HB.out hC.out z.2 (Nat.le_refl _) hgW hrl⟩
 | false=>
  go_wp2_with fail
  refine (P2.out _).mono ?_
  rintro e w1 ⟨rfl,rfl⟩
  cases p2 with
  | true=>
   have hR1:R=whI sub t2 rest:=by rw[hR.out];rfl
   clear P1 K1 K3 hR
   go_wp2_with fail
   refine (K2.out W HT.out kr).mono ?_
   rintro e w2 ⟨v,rfl,t,hC⟩
   rw[←hR1] at hC ⊢
   have hk0:=k0.fr hC.2.1 (by omega)
   obtain ⟨ck,ca,cb,ct,cx,cy,A6,A7,A8,A9,n6,c6,n7,c7,n8,c8,n9,c9,rfl⟩:=hC.1
   replace hC:=Lib.hid hC
   have q2:=hk0.cell
   have r2:=hk0.frozen
   have l2:=hk0.lt
   clear K2 q0 r0 l0 hR1
   go_wp2_with fail
   have z:=set10 hk0 (.int .i64 ck) (.int .i64 ca) (.int .i64 cb) (.bool ct) (.int .i64 cx) (.int .i64 cy) (.slice A6 n6 c6) (.slice A7 n7 c7) (.slice A8 n8 c8) (.slice A9 n9 c9)
   refine bodyPost_ret (v:=.tuple #[.agg #[.int .i64 ck,.int .i64 ca,.int .i64 cb,.bool ct,.int .i64 cx,.int .i64 cy,.slice A6 n6 c6,.slice A7 n7 c7,.slice A8 n8 c8,.slice A9 n9 c9],.bool R.isSome]) (by simp[results,Tryd.results89,go_sem,z.1.cell]) rfl ⟨_,rfl,_,CmAns.up HB.out hC.out z.2 (Nat.le_refl _) hgW hrl⟩
  | false=>
   have hR1:R=(bscI x).map fun h=>(h,.nil,.nil,rest):=by rw[hR.out];rfl
   clear P1 K1 K2 hR
   go_wp2_with fail
   refine (K3.out W HT.out).mono ?_
   rintro e w2 ⟨k,a,b,rfl,hX,hB⟩
   obtain ⟨B,hB0⟩:∃ B,B=bscI x:=⟨_,rfl⟩
   rw[←hB0] at hR1 hX ⊢
   clear hB0
   have hC:CmAns rb W w2 (basV k a b) rest R:=by
    refine ⟨.bas k a b,.ofBelow hB,kr.next hB,fun c hc=>?_⟩
    rw[hR1] at hc
    obtain ⟨h,hh,rfl⟩:=Option.map_eq_some_iff.mp hc
    obtain ⟨rfl,rfl,rfl,e1,e2⟩:=hX h hh
    exact ⟨rfl,C1Q.bas hB.size e1 e2⟩
   have hs:B.isSome=R.isSome:=by rw[hR1];cases B<;>rfl
   rw[hs]
   have hk0:=k0.fr hC.2.1 (by omega)
   replace hC:=Lib.hid hC
   have q2:=hk0.cell
   have r2:=hk0.frozen
   have l2:=hk0.lt
   clear K3 q0 r0 l0 hX hR1 hs
   unfold basV
   go_wp2_with fail
   have z:=set10 hk0 (.int .i64 k) (.int .i64 a) (.int .i64 b) (.bool false) (.int .i64 0) (.int .i64 0) (.slice none 0 0) (.slice none 0 0) (.slice none 0 0) (.slice none 0 0)
   refine bodyPost_ret (v:=.tuple #[basV k a b,.bool R.isSome]) (by simp[results,Tryd.results89,go_sem,z.1.cell,basV]) rfl ⟨_,rfl,_,CmAns.up HB.out hC.out z.2 (Nat.le_refl _) hgW hrl⟩
end Go.Proofs.YtjbboklnegfohaaDoor

/- Contracts: blocks of commands from texts (impl): block. -/
namespace Go.Proofs.YtjbboklnegfohaaDoor
open Go Go.RowKit Go.Proofs
theorem preC_app (A:Cms) (c:Cr) (x:Option (Cms×Bs)):preC A (consI c x)=preC (A.app (.one1 c.1 c.2.1 c.2.2.1 .nil)) x:=by
 obtain ⟨h,body,els,r⟩:=c
 exact preC_cons A h body els r x
theorem cut_fst_le (l s:Bs):(Lib.cut l s).1.length≤l.length:=(cut_len l s).1
theorem Fr.thenB {w a b:World} {g B:Nat} (h:Fr g w a) (k:Below B a b) (hB:w.heap.size≤B):Fr g w b:=⟨k.os.trans h.os,k.tape.trans h.tape,k.output.trans h.output,Nat.le_trans h.size k.size,fun i h1 h2=>(k.block i (by omega)).trans (h.block i h1 h2)⟩
set_option maxRecDepth 100000 in
set_option maxHeartbeats 25600000 in
theorem c_blk {rb:Nat} (hrb:1<rb) (m:Nat):m≤1049001→∀ d:Nat,d≤5→SubOk rb d m (rdB m d 0):=by
 induction m using Nat.strongRecOn with
 | _ m IH=>
 intro hm d hd w l hT hk hl
 replace IH:=Lib.hid IH
 obtain ⟨R,hR⟩:∃ R,R=rdB m d 0 l:=⟨_,rfl⟩
 rw[←hR]
 have HR:=Lib.hid (show preC .nil (rdB m d Cms.nil.len l)=R by rw[preC_nil];exact hR.symm)
 have HT:=Lib.hid hT
 have hrl:=hk.lt
 clear hR hT
 go_enter Tryd.func49,Tryd.ntmps49
 go_wp2_with fail
 go_loopg [6] m (fun gh s6 wr=>∃ (A:Cms) (t:Bs) (k:Nat),Hid (QR wr w.heap.size wr.heap.size s6 A)∧Hid (preC A (rdB k d A.len t)=R)∧t.length<k∧k≤gh∧k≤m∧A.len≤16∧Hid (TM wr)∧Blk wr rb tLR #[sv t]∧Hid (Fr rb w wr)∧w.heap.size≤wr.heap.size)
 case atStart=>exact ⟨.nil,l,m,Lib.hid (QR.nil _ (Nat.le_refl _)),HR,hl,Nat.le_refl _,Nat.le_refl _,by simp[Cms.len],HT,hk,Lib.hid (Fr.refl _ _),Nat.le_refl _⟩
 case round=>
  clear hk HR HT hl
  obtain ⟨A,t,k,hQ,hR,htk,hkg,hkm,hA,HT,kr,HB,hz⟩:=hrel
  obtain ⟨k,rfl⟩:∃ q,k=q+1:=⟨k - 1,by omega⟩
  obtain ⟨AL,cL,rfl,-⟩:=hQ.out.reads
  have K1:=Lib.hid (c_peek wr HT.out kr (by omega))
  have K2:=Lib.hid fun (W:World) (hT:TM W) (h:Blk W rb tLR #[sv t])=>c_skip W hT h (by omega)
  have hstop:=Lib.hid fun h=>rdB_stop (m:=k) (d:=d) (n:=A.len) (l:=t) h
  have hfull:=Lib.hid fun h=>rdB_full (m:=k) (d:=d) (n:=A.len) (l:=t) h
  have hnext:=Lib.hid fun h=>rdB_next (m:=k) (d:=d) (n:=A.len) (l:=t) h
  have hcl:=cut_fst_le t [10]
  have hcs:=Lib.hid fun h=>cut_lt (l:=t) (s:=[10]) h (by simp)
  obtain ⟨line,hline⟩:∃ x,x=(Lib.cut t [10]).1:=⟨_,rfl⟩
  obtain ⟨rest,hrest⟩:∃ x,x=(Lib.cut t [10]).2.1:=⟨_,rfl⟩
  obtain ⟨fd,hfd⟩:∃ x,x=(Lib.cut t [10]).2.2:=⟨_,rfl⟩
  rw[←hline,←hfd] at K1 hstop hfull hnext
  rw[←hrest] at K2 hnext hcs
  rw[←hline] at hcl
  rw[←hfd] at hcs
  clear hline hrest hfd
  go_wp2_with fail
  refine K1.out.mono ?_
  rintro e w1 ⟨rfl,hB1⟩
  have hz1:=hB1.size
  replace HB:=Lib.hid (HB.out.go hB1)
  replace HT:=Lib.hid (HT.out.below hB1)
  replace kr:=kr.next hB1
  replace hQ:=Lib.hid (hQ.out.below hB1)
  clear K1 hB1
  by_cases hst:fd=false∨line=elseL∨line=endL
  ·have hE:R=some (A,t):=by
    have:=hR.out
    rw[hstop.out hst] at this
    simp only[preC,Cms.app_nil] at this
    exact this.symm
   have hfin:∀ W:World,W=w1→∃ v,(Ending.returned (.tuple #[.slice AL A.len cL,.bool true]):Ending)=.returned (.tuple #[v,.bool R.isSome])∧∃ t,BkAns rb w W v t R:=by
    rintro W rfl
    rw[hE]
    exact ⟨_,rfl,t,⟨_,_,_,rfl⟩,HB.out,kr,fun L r h=>by injection h with h;injection h with h1 h2;subst h1 h2;exact ⟨rfl,hQ.out.mono (Nat.le_refl _) hz1⟩⟩
   replace hfin:=Lib.hid hfin
   clear hstop hfull hnext K2 hcs hE
   cases fd with
   | false=>
    clear hst
    go_wp2_with fail
    refine bodyPost_ret (v:=.tuple #[.slice AL A.len cL,.bool true]) (by simp[results,Tryd.results49,go_sem]) rfl (hfin.out _ rfl)
   | true=>
    by_cases he:line=elseL
    ·subst he
     clear hst
     go_wp2_with fail
     refine bodyPost_ret (v:=.tuple #[.slice AL A.len cL,.bool true]) (by simp[results,Tryd.results49,go_sem]) rfl (hfin.out _ rfl)
    ·have hen:line=endL:=by rcases hst with h|h|h;cases h;exact absurd h he;exact h
     subst hen
     clear hst he
     go_wp2_with fail
     refine bodyPost_ret (v:=.tuple #[.slice AL A.len cL,.bool true]) (by simp[results,Tryd.results49,go_sem]) rfl (hfin.out _ rfl)
  ·have hfd:fd=true:=by cases fd;exact absurd (Or.inl rfl) hst;rfl
   have he1:¬line=elseL:=fun h=>hst (Or.inr (Or.inl h))
   have he2:¬line=endL:=fun h=>hst (Or.inr (Or.inr h))
   have he1b:(line == [101,108,115,101])=false:=by rw[bytes_eq];simpa using he1
   have he2b:(line == [101,110,100])=false:=by rw[bytes_eq];simpa using he2
   replace hfull:=Lib.hid (hfull.out hst)
   replace hnext:=Lib.hid (hnext.out hst)
   have hrest:=hcs.out hfd
   subst hfd
   clear hst he1 he2 hstop hcs
   by_cases hF:4<d∨A.len=16
   ·have hE:R=none:=by
     have:=hR.out
     rw[hfull.out hF] at this
     exact this.symm
    have hfin:∀ W:World,W=w1→∃ v,(Ending.returned (.tuple #[.slice none 0 0,.bool false]):Ending)=.returned (.tuple #[v,.bool R.isSome])∧∃ t,BkAns rb w W v t R:=by
     rintro W rfl
     rw[hE]
     exact ⟨_,rfl,t,⟨_,_,_,rfl⟩,HB.out,kr,fun L r h=>by cases h⟩
    replace hfin:=Lib.hid hfin
    clear hfull hnext K2 hE
    by_cases h4:4<d
    ·have h4i:(4:Int)<(d:Int):=by omega
     clear hF
     go_wp2_with fail
     refine bodyPost_ret (v:=.tuple #[.slice none 0 0,.bool false]) (by simp[results,Tryd.results49,go_sem]) rfl (hfin.out _ rfl)
    ·have h4i:¬(4:Int)<(d:Int):=by omega
     have h16:(((A.len:Nat):Int) == 16)=true:=by simp;omega
     clear hF
     go_wp2_with fail
     refine bodyPost_ret (v:=.tuple #[.slice none 0 0,.bool false]) (by simp[results,Tryd.results49,go_sem]) rfl (hfin.out _ rfl)
   ·have h4i:¬(4:Int)<(d:Int):=by omega
    have h16:(((A.len:Nat):Int) == 16)=false:=by simp;omega
    have hd4:d≤4:=by omega
    have hA15:A.len≤15:=by omega
    have hN:=Lib.hid (hnext.out hF)
    clear hF hfull hnext
    have KC:=Lib.hid fun (W:World) (hT:TM W) (h:Blk W rb tLR #[sv rest])=>c_cmd (rb:=rb) (M:=k) (sub:=rdB k (d+1) 0) d (by have:=IH.out k (by omega) (by omega) (d+1) (by omega);simpa only[Int.natCast_add,Int.cast_ofNat_Int] using this) (rdB_le _ _ _) (by omega) line rest W hT hrb h (by omega) (by omega) hd4
    have hCL:=Lib.hid fun c h=>cmI_len (rdB_le k (d+1) 0) (line:=line) (rest:=rest) (c:=c) h
    obtain ⟨X,hX⟩:∃ X,X=cmI (rdB k (d+1) 0) line rest:=⟨_,rfl⟩
    rw[←hX] at KC hN hCL
    clear hX
    go_wp2_with fail
    refine (K2.out w1 HT.out kr).mono ?_
    rintro e w2 ⟨rfl,kr2,hF2⟩
    have hz2:=hF2.size
    replace HB:=Lib.hid (HB.out.trans hF2)
    replace HT:=Lib.hid (HT.out.fr hF2 hrb)
    replace hQ:=Lib.hid (hQ.out.fr hF2 (by omega))
    clear K2 kr hF2
    go_wp2_with fail
    refine (KC.out w2 HT.out kr2).mono ?_
    rintro e w3 ⟨v,rfl,t3,hC⟩
    have hF3:=hC.2.1
    have hz3:=hF3.size
    replace HB:=Lib.hid (HB.out.trans hF3)
    replace HT:=Lib.hid (HT.out.fr hF3 hrb)
    replace hQ:=Lib.hid (hQ.out.fr hF3 (by omega))
    have kr:=hC.2.2.1
    clear KC kr2 hF3
    cases X with
    | none=>
     have hE:R=none:=by
      have:=hR.out
      rw[hN.out] at this
      exact this.symm
     obtain ⟨ck,ca,cb,ct,cx,cy,A6,A7,A8,A9,n6,c6,n7,c7,n8,c8,n9,c9,rfl⟩:=hC.1
     clear hC hN hCL
     have hfin:∀ W:World,Below w3.heap.size w3 W→∃ v,(Ending.returned (.tuple #[.slice none 0 0,.bool false]):Ending)=.returned (.tuple #[v,.bool R.isSome])∧∃ t,BkAns rb w W v t R:=by
      intro W hW
      rw[hE]
      exact ⟨_,rfl,t3,⟨_,_,_,rfl⟩,HB.out.go hW,kr.next hW,fun L r h=>by cases h⟩
     replace hfin:=Lib.hid hfin
     clear hE
     go_wp2_with fail
     refine bodyPost_ret (v:=.tuple #[.slice none 0 0,.bool false]) (by simp[results,Tryd.results49,go_sem]) rfl (hfin.out _ (bbox (Below.refl _ _) _))
    | some c=>
     obtain ⟨⟨hk,ha,hb,ht,hi⟩,body,els,r⟩:=c
     obtain ⟨e1,hC1⟩:=hC.2.2.2 _ rfl
     simp only at e1 hC1
     subst e1
     have hrl3:=hCL.out _ rfl
     simp only at hrl3
     obtain ⟨AF,cF,AA,cA,AB,cB,AE,cE,rfl⟩:=hC1.form
     simp only at hC1 ⊢
     have hR3:Hid (preC (A.app (.one1 ⟨hk,ha,hb,ht,hi⟩ body els .nil)) (rdB k d (A.len+1) t3)=R):=Lib.hid (by
      have:=hR.out
      rw[hN.out] at this
      simp only[preC_app] at this
      exact this)
     clear hC hN hCL hR
     go_upto_region 9 with fail
     refine bx1 (w:=w3) (F:=Code.wp _ _ _ _) ?_
     rintro w4 k4 hB4 hz4
     replace hz4:w3.heap.size<w4.heap.size:=by omega
     replace HB:=Lib.hid (HB.out.go hB4)
     replace HT:=Lib.hid (HT.out.below hB4)
     replace kr:=Lib.hid (kr.next hB4)
     replace hQ:=Lib.hid (hQ.out.below hB4)
     have hC4:=Lib.hid ((hC1.keep fun b _ _ h3=>hB4.block b h3).low (show wr.heap.size≤w2.heap.size by omega) (Nat.le_refl _))
     obtain ⟨cs,ho,hU,hlim,hT⟩:=hQ.out
     have ho9:=Lib.hid ho
     have hT9:=Lib.hid hT
     have hU9:=Lib.hid hU
     clear ho hT hU hC1 hQ hB4
     have q4:=k4.cell
     have r4:=k4.frozen
     have l4:=k4.lt
     have hfin:A.len+1≤1049600:=by omega
     have hw4:w.heap.size≤w4.heap.size:=by omega
     go_wp2_with (at_builtin;(refine appCX (base:=w.heap.size) (g0:=w4.heap.size) rfl _ _ rfl rfl (own_below ho9.out (bbox (Below.refl _ _) _)) (tenL hk ha hb ht (.slice AF hi.facts.length cF) (.slice AA hi.atoms.length cA) (.slice AB body.len cB) (.slice AE els.len cE)) rfl (Blk.new _ _ _) rfl rfl (tenOne _ _ _ _ _ _ _ _ _ _ _ _ _ _ _ _) hfin (by simp;omega) ?_);(intro A8 c8 w8 o8 g8 B8 v8;have o8:=Lib.hid o8;have g8:=Lib.hid g8;have v8:=Lib.hid v8;have B8:=Lib.hid B8))
     obtain ⟨wy,hwy⟩:∃ z,z=w4.alloc (.cells (tenL hk ha hb ht (.slice AF hi.facts.length cF) (.slice AA hi.atoms.length cA) (.slice AB body.len cB) (.slice AE els.len cE)).toArray tC):=⟨_,rfl⟩
     have hBy:Below w4.heap.size w4 wy:=by rw[hwy];exact bbox (Below.refl _ _) _
     have hzy:=hBy.size
     have N8:QR w8 w.heap.size w8.heap.size (.slice A8 (A.len+1) c8) (A.app (.one1 ⟨hk,ha,hb,ht,hi⟩ body els .nil)):=QR.grow (w:=wy) (h:=⟨hk,ha,hb,ht,hi⟩) (hT9.out.keep fun b _ _ _ h=>hBy.block b h) hfin hU9.out ⟨(by omega:wr.heap.size≤w3.heap.size),by omega⟩ (hC4.out.keep fun b _ _ h=>hBy.block b h) o8.out (by rw[hwy];exact g8.out) (by rw[hwy];exact v8.out)
     have B9:Below w.heap.size wy w8:=by rw[hwy];exact B8.out
     have HB8:=Lib.hid ((HB.out.go hBy).thenB B9 (Nat.le_refl _))
     have HT8:=Lib.hid ((HT.out.below hBy).nb B9 (by omega))
     have kr8:Blk w8 rb tLR #[sv t3]:=(B9.block rb hrl).trans (kr.out.next hBy)
     have hz8:=B9.size
     have hLl:(A.app (.one1 ⟨hk,ha,hb,ht,hi⟩ body els .nil)).len=A.len+1:=by rw[Cms.len_app];rfl
     replace N8:=Lib.hid N8
     clear hwy
     go_roundg (gk - 1)
     case rel=>exact ⟨_,t3,k,N8,Lib.hid (by rw[hLl];exact hR3.out),by omega,by omega,by omega,by rw[hLl];omega,HT8,kr8,HB8,by omega⟩
     case measure=>omega
end Go.Proofs.YtjbboklnegfohaaDoor

/- Contracts: programs from texts (impl.ParseProgram). -/
namespace Go.Proofs.YtjbboklnegfohaaDoor
open Go Go.RowKit Go.Proofs
set_option maxRecDepth 100000 in
set_option maxHeartbeats 12800000 in
theorem c_iPP (l:Bs) (w:World) (hT:TM w) (hl:l.length≤1049000):Calls Tryd.prog 16 #[sv l] w fun e w'=>∃ v,e=.returned (.tuple #[v,.bool (pPI l).isSome])∧QR w' w.heap.size w'.heap.size v ((pPI l).getD .nil)∧Below w.heap.size w w':=by
 obtain ⟨P,hP⟩:∃ P,P=pPI l:=⟨_,rfl⟩
 rw[←hP]
 unfold pPI at hP
 have hw1:=hT.2.1
 have KB:=Lib.hid fun (W:World) (hT:TM W) (h:Blk W w.heap.size tLR #[sv l])=>c_blk (rb:=w.heap.size) hw1 (l.length+1) (by omega) 1 (by omega) W l hT h (by omega)
 obtain ⟨R,hR⟩:∃ R,R=rdB (l.length+1) 1 0 l:=⟨_,rfl⟩
 rw[←hR] at hP KB
 have h1:((1:Nat):Int)=1:=rfl
 rw[h1] at KB
 clear hR h1
 have HT:=Lib.hid hT
 replace hP:=Lib.hid hP
 go_enter Tryd.func16,Tryd.ntmps16
 go_upto_region 2 with fail
 refine bx1 (w:=w) (F:=Code.wp _ _ _ _) ?_
 rintro W k0 hB hWs
 replace HT:=Lib.hid (HT.out.below hB)
 replace hWs:w.heap.size<W.heap.size:=by omega
 have HB:=Lib.hid hB
 clear hB hT
 go_wp2_with fail
 refine (KB.out W HT.out k0).mono ?_
 rintro e w1 ⟨v,rfl,t,⟨A,n,c,rfl⟩,hF,k1,hX⟩
 have hz:=hF.size
 replace HB:=Lib.hid (HB.out.trans (hF.below (Nat.le_refl _) (by omega)))
 have q1:=k1.cell
 have r1:=k1.frozen
 clear KB k0
 cases R with
 | none=>
  have e1:P=none:=hP.out
  subst e1
  clear hX hP
  go_wp2_with fail
  go_ret2
  exact ⟨_,rfl,QR.nil _ (by omega),HB.out⟩
 | some p=>
  obtain ⟨L,r⟩:=p
  obtain ⟨rfl,hQ⟩:=hX _ _ rfl
  obtain ⟨A',c',e',hV⟩:=hQ.reads
  injection e' with e1 e2 e3
  subst e1 e2 e3
  have hP1:Hid (P=if t=[]∧L.prog=true then some L else none):=hP
  have KV:=Lib.hid (c_impl_ProgramValid (lo:=W.heap.size) (hi:=w1.heap.size) L A c w1 hV hQ.lim hQ.small)
  replace hQ:=Lib.hid hQ
  clear hX hP hV
  by_cases ht:t=[]
  ·subst ht
   cases hp:L.prog with
   | true=>
    rw[hp] at KV
    have e1:P=some L:=by rw[hP1.out,if_pos ⟨rfl,hp⟩]
    subst e1
    replace hp:=Lib.hid hp
    clear hP1
    go_wp2_with fail
    refine KV.out.mono ?_
    rintro e w2 ⟨rfl,hB2⟩
    go_wp2_with fail
    go_ret2
    exact ⟨_,rfl,(hQ.out.below hB2).mono (by omega) hB2.size,bgo HB.out hB2⟩
   | false=>
    rw[hp] at KV
    have e1:P=none:=by rw[hP1.out,if_neg (by rintro ⟨-,h⟩;rw[hp] at h;cases h)]
    subst e1
    clear hP1 hp
    go_wp2_with fail
    refine KV.out.mono ?_
    rintro e w2 ⟨rfl,hB2⟩
    go_wp2_with fail
    go_ret2
    exact ⟨_,rfl,QR.nil _ (by have:=hB2.size;omega),bgo HB.out hB2⟩
  ·have e1:P=none:=by rw[hP1.out,if_neg (fun h=>ht h.1)]
   subst e1
   have htb:(t == [])=false:=by rw[bytes_eq];simpa using ht
   replace ht:=Lib.hid ht
   clear hP1 KV
   go_wp2_with fail
   go_ret2
   exact ⟨_,rfl,QR.nil _ (by omega),HB.out⟩
end Go.Proofs.YtjbboklnegfohaaDoor

/- 'laws.FnExactParseProgram' returns true for every text, where the names of the terms hold what the program lays. -/
namespace Go.Proofs.YtjbboklnegfohaaDoor
open Go Go.RowKit Go.Proofs
theorem Cms.invs_costQ:∀ {L:Cms},L.invs→L.len+L.cost≤19 * L.sz
 | .nil,_=>Nat.le_refl _
 | .cons k a b t i body els r,h=>by
  have h1:=Cms.invs_costQ h.2.1
  have h2:=Cms.invs_costQ h.2.2.1
  have h3:=Cms.invs_costQ h.2.2.2
  have h4:=h.1
  simp only[Cms.len,Cms.cost,Cms.sz]
  omega
theorem parseP_len (l:Bs):(parseP l).len+(parseP l).cost≤903:=by
 unfold parseP
 split
 ·rename_i h
  unfold parsesP at h
  simp only[Bool.and_eq_true,decide_eq_true_eq] at h
  have h1:=Cms.invs_costQ (L:=readP l) (blkF_invs _ _ _ _)
  have h2:=(prog_shape h.2.2).2
  omega
 ·simp[Cms.len,Cms.cost]
set_option maxRecDepth 100000 in
set_option maxHeartbeats 12800000 in
theorem c_FnExactParseProgram (v0:Value) (a0:Bs) (w:World) (hT:TM w) (h0:v0=sv a0):Calls Tryd.prog 5 #[v0] w fun e w'=>e=.returned (.bool true)∧Below w.heap.size w w':=by
 subst h0
 have HT:=Lib.hid hT
 clear hT
 by_cases hl:1048576<a0.length
 ·go_enter Tryd.func5,Tryd.ntmps5
  have hli:(1048576:Int)<(a0.length:Int):=by omega
  go_wp2_with fail
  go_ret
  exact ⟨rfl,bel⟩
 have hli:¬(1048576:Int)<(a0.length:Int):=by omega
 have hl0:a0.length≤1049000:=by omega
 clear hl
 have CW:=Lib.hid fun W=>c_ParseProgram a0 W hl0
 have CG:=Lib.hid fun W h=>c_iPP a0 W h hl0
 rw[(pPI_parses a0).1,(pPI_parses a0).2] at CG
 have hD:=parseP_len a0
 obtain ⟨D,hD'⟩:∃ D,D=parseP a0:=⟨_,rfl⟩
 obtain ⟨sb,hsb⟩:∃ b,b=parsesP a0:=⟨_,rfl⟩
 rw[←hD'] at hD
 rw[←hD',←hsb] at CW CG
 have hmk:=Cms.marks_le D
 clear hD' hsb hl0
 go_enter Tryd.func5,Tryd.ntmps5
 go_wp2_with fail
 refine (CW.out _).mono ?_
 rintro e w1 ⟨rw0,rfl,Xw,hBx⟩
 obtain ⟨Aw,cw,rfl,Vw⟩:=Xw.reads
 have z1:=hBx.size
 replace HT:=Lib.hid (HT.out.below hBx)
 have hw1:=HT.out.2.1
 have HB:=Lib.hid hBx
 replace Vw:=Lib.hid Vw
 clear Xw hBx CW
 go_wp2_with fail
 refine (CG.out _ HT.out).mono ?_
 rintro e w2 ⟨rg0,rfl,Xg,hBx⟩
 obtain ⟨Ag,cg,rfl,Vg⟩:=Xg.reads
 have z2:=hBx.size
 have HB1:=Lib.hid hBx
 replace HT:=Lib.hid (HT.out.below hBx)
 replace Xg:=Lib.hid Xg
 replace Vg:=Lib.hid Vg
 clear hBx
 go_wp2_with fail
 refine (t_cmds _ _ _ _ D w2 ⟨Vg.out,by omega⟩ ⟨Vw.out.below HB1.out,by omega⟩).mono ?_
 rintro e w3 ⟨rfl,hBx⟩
 have z3:=hBx.size
 replace HB1:=Lib.hid (HB1.out.trans (hBx.mono (by omega)))
 replace HT:=Lib.hid (HT.out.below hBx)
 replace Xg:=Lib.hid (Xg.out.below hBx)
 clear hBx Vg
 go_wp2_with fail
 refine (markQ_go _ D (Nat.lt_succ_self _) _ _ _ _ w3 Xg.out (by omega) (by omega)).mono ?_
 rintro e w4 ⟨rfl,Xm,hM⟩
 have z4:=hM.size
 have HM:=Lib.hid (hM.below (lo:=w1.heap.size) (fun k hk=>by omega) (by omega))
 replace HB1:=Lib.hid (HB1.out.trans HM.out)
 replace HT:=Lib.hid (HT.out.nb HM.out hw1)
 replace Xm:=Lib.hid Xm
 clear Xg hM
 obtain ⟨A',c',e',Vm⟩:=Xm.out.reads
 rw[mkQ_len] at e'
 injection e' with e1 e2 e3
 subst e1
 clear e2 e3
 replace Vm:=Lib.hid Vm
 go_wp2_with fail
 refine (heldQ_go _ D (Nat.lt_succ_self _) _ _ _ _ _ w4 Vm.out (by omega) (by omega) (by omega)).mono ?_
 rintro e w5 ⟨rfl,rfl⟩
 have hge:¬((1:Int)+D.marks<0):=by omega
 go_wp2_with fail
 refine (CG.out _ HT.out).mono ?_
 rintro e w6 ⟨rh0,rfl,Xh,hBx⟩
 obtain ⟨Ah,ch,rfl,Vh⟩:=Xh.reads
 have z6:=hBx.size
 replace HB1:=Lib.hid (HB1.out.trans (hBx.mono (by omega)))
 replace Vh:=Lib.hid Vh
 replace Vm:=Lib.hid ((Vm.out.mono (Nat.le_refl _) hBx.size).below hBx)
 clear Xh hBx Xm
 go_wp2_with fail
 refine (t_cmds _ _ _ _ D w6 ⟨Vh.out,by omega⟩ ⟨Vw.out.below HB1.out,by omega⟩).mono ?_
 rintro e w7 ⟨rfl,hBx⟩
 replace HB1:=Lib.hid (HB1.out.trans (hBx.mono (by omega)))
 replace Vm:=Lib.hid (Vm.out.below hBx)
 clear Vh hBx
 go_wp2_with fail
 refine (heldQ_go _ D (Nat.lt_succ_self _) _ _ _ _ _ w7 Vm.out (by omega) (by omega) (by omega)).mono ?_
 rintro e w8 ⟨rfl,rfl⟩
 go_wp2_with fail
 go_ret
 exact ⟨rfl,HB.out.trans (HB1.out.mono z1)⟩
end Go.Proofs.YtjbboklnegfohaaDoor
