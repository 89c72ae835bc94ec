/- Contracts: atoms from texts (impl). -/
import Derived.Test.YtjaohekkmlkinaaDoorPrsF
set_option linter.unusedSimpArgs false
set_option linter.unusedVariables false
namespace Go.Proofs.YtjaohekkmlkinaaDoor
open Go Go.RowKit Go.Proofs
set_option maxRecDepth 100000 in
set_option maxHeartbeats 6400000 in
theorem c_iPX (l:Bs) (w:World) (h:TM w) (hl:l.length≤2000000):Calls Tryd.prog 73 #[sv l] w fun e w'=>e=.returned (.tuple #[((pAtomI l).getD ⟨0,0,0⟩).val,.bool (pAtomI l).isSome])∧Below w.heap.size w w':=by
 have HT:=Lib.hid h
 have hw1:=h.2.1
 obtain ⟨P,hP⟩:∃ P,P=pAtomI l:=⟨_,rfl⟩
 rw[←hP]
 unfold pAtomI atmI at hP
 obtain ⟨a1,ha1⟩:∃ a,a=(Lib.cut l [62]).1:=⟨_,rfl⟩
 obtain ⟨b1,hb1⟩:∃ b,b=(Lib.cut l [62]).2.1:=⟨_,rfl⟩
 obtain ⟨f1,hf1⟩:∃ fd,fd=(Lib.cut l [62]).2.2:=⟨_,rfl⟩
 have C1:=Lib.hid fun W (h:TM W)=>c_Cut l [62] W h hl
 rw[←ha1,←hb1,←hf1] at C1 hP
 obtain ⟨a2,ha2⟩:∃ a,a=(Lib.cut l [126]).1:=⟨_,rfl⟩
 obtain ⟨b2,hb2⟩:∃ b,b=(Lib.cut l [126]).2.1:=⟨_,rfl⟩
 obtain ⟨f2,hf2⟩:∃ fd,fd=(Lib.cut l [126]).2.2:=⟨_,rfl⟩
 have C2:=Lib.hid fun W (h:TM W)=>c_Cut l [126] W h hl
 rw[←ha2,←hb2,←hf2] at C2 hP
 clear ha1 hb1 hf1 ha2 hb2 hf2 h hl
 replace hP:=Lib.hid hP
 go_enter Tryd.func73,Tryd.ntmps73
 go_upto_region 2 with fail
 refine bx2 (w:=w) (F:=Code.wp _ _ _ _) ?_
 rintro W k2 kf hB -
 replace HT:=Lib.hid (HT.out.below hB)
 go_wp2_with fail
 refine (C1.out _ HT.out).mono ?_
 rintro e w1 ⟨rfl,hq⟩
 have HB:=Lib.hid (bgo hB hq)
 replace HT:=Lib.hid (HT.out.below hq)
 replace k2:=k2.next hq
 replace kf:=kf.next hq
 obtain ⟨y,hy⟩:∃ y,y=w.heap.size+1:=⟨_,rfl⟩
 have hyw:w.heap.size<y:=by omega
 rw[←hy] at kf ⊢
 clear C1 hB hq hy
 cases f1
 case' true=>
  have HP:Hid (P=pairX 1 (parseT a1) (parseT b1)):=Lib.hid (by have:=hP.out;simpa using this)
  (replace qk2:=k2.cell;replace rk2:=k2.frozen;replace lk2:=k2.lt;replace qkf:=kf.cell;replace rkf:=kf.frozen;replace lkf:=kf.lt)
  go_upto_region 8 with fail
  obtain ⟨q,hq⟩:∃ q,q=(1:Int):=⟨_,rfl⟩
  rw[←hq] at kf HP
  clear hq C2 hP qk2 rk2 lk2 qkf rkf lkf
  obtain ⟨U,rfl⟩:∃ z,z=w1:=⟨_,rfl⟩
  obtain ⟨x,rfl⟩:∃ z,z=a1:=⟨_,rfl⟩
  obtain ⟨b,rfl⟩:∃ z,z=b1:=⟨_,rfl⟩
 case' false=>
  (replace qk2:=k2.cell;replace rk2:=k2.frozen;replace lk2:=k2.lt;replace qkf:=kf.cell;replace rkf:=kf.frozen;replace lkf:=kf.lt)
  go_upto_region 5 with fail
  replace kf:=kf.set_ 0 (.int .i64 2)
  replace k2:=k2.far (p:=⟨y,0,none⟩) (by simp only;omega) (.int .i64 2)
  replace HT:=Lib.hid (HT.out.set0 (y:=y) (i:=0) (by omega) trivial (.int .i64 2))
  replace HB:=Lib.hid (HB.out.setCell (p:=⟨y,0,none⟩) (by simp only;omega) (.int .i64 2))
  clear qk2 rk2 lk2 qkf rkf lkf
  generalize w1.setCell ⟨y,0,none⟩ (.int .i64 2)=V at *
  go_wp2_with fail
  refine (C2.out _ HT.out).mono ?_
  rintro e U ⟨rfl,hq⟩
  replace HB:=Lib.hid (bgo HB.out hq)
  replace HT:=Lib.hid (HT.out.below hq)
  replace k2:=k2.next hq
  replace kf:=kf.next hq
  clear C2 hq
  (replace qk2:=k2.cell;replace rk2:=k2.frozen;replace lk2:=k2.lt;replace qkf:=kf.cell;replace rkf:=kf.frozen;replace lkf:=kf.lt)
  cases f2
  ·go_wp2_with fail
   have z2:=((k2.set_ 0 (.int .i64 0)).set_ 1 (.int .i64 0)).set_ 2 (.int .i64 0)
   refine bodyPost_ret (v:=.tuple #[.agg #[.int .i64 0,.int .i64 0,.int .i64 0],.bool false]) (by simp[results,Tryd.results73,go_sem,z2.cell]) rfl ⟨by rw[hP.out];rfl,?_⟩
   exact ((HB.out.setCell (p:=⟨w.heap.size,0,none⟩) (by simp only;omega) _).setCell (p:=⟨w.heap.size,1,none⟩) (by simp only;omega) _).setCell (p:=⟨w.heap.size,2,none⟩) (by simp only;omega) _
  have HP:Hid (P=pairX 2 (parseT a2) (parseT b2)):=Lib.hid (by have:=hP.out;simpa using this)
  go_upto_region 8 with fail
  obtain ⟨q,hq⟩:∃ q,q=(2:Int):=⟨_,rfl⟩
  rw[show (#[Value.int .i64 1,.int .i64 0,.int .i64 0]:Array Value).setIfInBounds 0 (.int .i64 2)=#[.int .i64 q,.int .i64 0,.int .i64 0] by rw[hq];rfl] at kf
  rw[←hq] at HP
  clear hq hP qk2 rk2 lk2 qkf rkf lkf
  obtain ⟨x,rfl⟩:∃ z,z=a2:=⟨_,rfl⟩
  obtain ⟨b,rfl⟩:∃ z,z=b2:=⟨_,rfl⟩
 all_goals
  have HTT:=HT.out.1
  have lkf:=kf.lt
  have lk2:=k2.lt
  (replace qk2:=k2.cell;replace rk2:=k2.frozen;replace lk2:=k2.lt;replace qkf:=kf.cell;replace rkf:=kf.frozen;replace lkf:=kf.lt)
  obtain ⟨p1,hp1⟩:∃ p,p=parseT x:=⟨_,rfl⟩
  obtain ⟨p2,hp2⟩:∃ p,p=parseT b:=⟨_,rfl⟩
  rw[←hp1,←hp2] at HP
  have CT:=Lib.hid (c_iPT x U HTT)
  rw[←hp1] at CT
  clear hp1
  have CT2:=Lib.hid fun W (h:TN W)=>c_iPT b W h
  rw[←hp2] at CT2
  clear hp2
  have hyn:w.heap.size≠y:=by omega
  cases p1 with
  | none=>
   go_wp2_with fail
   refine CT.out.mono ?_
   rintro e w' ⟨rfl,rfl⟩
   simp only[Option.getD_none,Option.isSome_none]
   have z2:=(((((k2.far (p:=⟨y,1,none⟩) (by simp only;omega) (.int .i64 0)).set_ 0 (.int .i64 0)).set_ 1 (.int .i64 0)).set_ 2 (.int .i64 0))).cell
   have z3:=((((HB.out.setCell (p:=⟨y,1,none⟩) (by simp only;omega) (.int .i64 0)).setCell (p:=⟨w.heap.size,0,none⟩) (by simp only;omega) (.int .i64 0)).setCell (p:=⟨w.heap.size,1,none⟩) (by simp only;omega) (.int .i64 0)).setCell (p:=⟨w.heap.size,2,none⟩) (by simp only;omega) (.int .i64 0))
   go_wp2_with fail
   refine bodyPost_ret (v:=.tuple #[.agg #[.int .i64 0,.int .i64 0,.int .i64 0],.bool false]) (by simp[results,Tryd.results73,go_sem,z2]) rfl ⟨by rw[HP.out];rfl,z3⟩
  | some n1=>
   go_wp2_with fail
   refine CT.out.mono ?_
   rintro e w' ⟨rfl,rfl⟩
   simp only[Option.getD_some,Option.isSome_some]
   have HT2:Hid (TN (U.setCell ⟨y,1,none⟩ (.int .i64 (n1:Nat)))):=Lib.hid (HTT.set0 (by omega) _)
   cases p2 with
   | none=>
    go_wp2_with fail
    refine (CT2.out _ HT2.out).mono ?_
    rintro e w' ⟨rfl,rfl⟩
    simp only[Option.getD_none,Option.isSome_none]
    have z2:=((((((k2.far (p:=⟨y,1,none⟩) (by simp only;omega) (.int .i64 (n1:Nat))).far (p:=⟨y,2,none⟩) (by simp only;omega) (.int .i64 0)).set_ 0 (.int .i64 0)).set_ 1 (.int .i64 0)).set_ 2 (.int .i64 0))).cell
    have z3:=(((((HB.out.setCell (p:=⟨y,1,none⟩) (by simp only;omega) (.int .i64 (n1:Nat))).setCell (p:=⟨y,2,none⟩) (by simp only;omega) (.int .i64 0)).setCell (p:=⟨w.heap.size,0,none⟩) (by simp only;omega) (.int .i64 0)).setCell (p:=⟨w.heap.size,1,none⟩) (by simp only;omega) (.int .i64 0)).setCell (p:=⟨w.heap.size,2,none⟩) (by simp only;omega) (.int .i64 0))
    go_wp2_with fail
    refine bodyPost_ret (v:=.tuple #[.agg #[.int .i64 0,.int .i64 0,.int .i64 0],.bool false]) (by simp[results,Tryd.results73,go_sem,z2]) rfl ⟨by rw[HP.out];rfl,z3⟩
   | some n2=>
    go_wp2_with fail
    refine (CT2.out _ HT2.out).mono ?_
    rintro e w' ⟨rfl,rfl⟩
    simp only[Option.getD_some,Option.isSome_some]
    have z2:=((((((k2.far (p:=⟨y,1,none⟩) (by simp only;omega) (.int .i64 (n1:Nat))).far (p:=⟨y,2,none⟩) (by simp only;omega) (.int .i64 (n2:Nat))).set_ 0 (.int .i64 q)).set_ 1 (.int .i64 (n1:Nat))).set_ 2 (.int .i64 (n2:Nat)))).cell
    have z3:=(((((HB.out.setCell (p:=⟨y,1,none⟩) (by simp only;omega) (.int .i64 (n1:Nat))).setCell (p:=⟨y,2,none⟩) (by simp only;omega) (.int .i64 (n2:Nat))).setCell (p:=⟨w.heap.size,0,none⟩) (by simp only;omega) (.int .i64 q)).setCell (p:=⟨w.heap.size,1,none⟩) (by simp only;omega) (.int .i64 (n1:Nat))).setCell (p:=⟨w.heap.size,2,none⟩) (by simp only;omega) (.int .i64 (n2:Nat)))
    go_wp2_with fail
    refine bodyPost_ret (v:=.tuple #[.agg #[.int .i64 q,.int .i64 (n1:Nat),.int .i64 (n2:Nat)],.bool true]) (by simp[results,Tryd.results73,go_sem,z2]) rfl ⟨by rw[HP.out];rfl,z3⟩
end Go.Proofs.YtjaohekkmlkinaaDoor
