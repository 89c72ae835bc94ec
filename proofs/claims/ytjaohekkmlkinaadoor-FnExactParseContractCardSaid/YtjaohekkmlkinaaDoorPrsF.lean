/- Contracts: facts and atoms from texts (impl). -/
import Derived.Test.YtjaohekkmlkinaaDoorPrsI
set_option linter.unusedSimpArgs false
set_option linter.unusedVariables false
namespace Go.Proofs.YtjaohekkmlkinaaDoor
open Go Go.RowKit Go.Proofs
theorem c_CutSuf (l sep:Bs) (w:World) (hl:l.length≤2000000):Calls Tryd.prog 107 #[sv l,sv sep] w fun e w'=>e=.returned (.tuple #[sv (Lib.trimSuffix l sep),.bool (Lib.hasSuffix l sep)])∧w=w':=by
 refine (shg_strings_CutSuffix ⟨l.toArray⟩ ⟨sep.toArray⟩ w (by simp only[ByteArray.size,List.size_toArray];omega)).mono ?_
 rintro e w' ⟨rfl,rfl⟩
 exact ⟨by simp,rfl⟩
theorem TN.set0 {w:World} (h:TN w) {y i:Nat} (hy:0<y) (v:Value):TN (w.setCell ⟨y,i,none⟩ v):=⟨by simpa using h.1,fun k hk=>by
 have:=h.2 k hk
 rw[World.cell?_setCell_other _ _ _ _ (by intro h;simp only[Addr.mk.injEq] at h;omega)]
 exact this⟩
theorem TM.set0 {w:World} (h:TM w) {y i:Nat} (hy:1<y) (_:True) (v:Value):TM (w.setCell ⟨y,i,none⟩ v):=⟨h.1.set0 (by omega) v,by simpa using h.2.1,by
 obtain ⟨m,hm⟩:=h.2.2
 refine ⟨m,?_⟩
 rw[World.cell?_setCell_other _ _ _ _ (by intro h;simp only[Addr.mk.injEq] at h;omega)]
 exact hm⟩
theorem cut_len (l sep:Bs):(Lib.cut l sep).1.length≤l.length∧(Lib.cut l sep).2.1.length≤l.length:=by
 unfold Lib.cut
 split
 ·exact ⟨by simp;omega,by simp⟩
 ·exact ⟨Nat.le_refl _,by simp⟩
set_option maxRecDepth 100000 in
set_option maxHeartbeats 6400000 in
theorem c_iPF (l:Bs) (w:World) (h:TM w) (hl:l.length≤2000000):Calls Tryd.prog 72 #[sv l] w fun e w'=>e=.returned (.tuple #[((pFactI l).getD fct0).val,.bool (pFactI l).isSome])∧Below w.heap.size w w':=by
 have HT:=Lib.hid h
 have hw1:=h.2.1
 obtain ⟨P,hP⟩:∃ P,P=pFactI l:=⟨_,rfl⟩
 rw[←hP]
 unfold pFactI at hP
 obtain ⟨a,ha⟩:∃ a,a=(Lib.cut l [61]).1:=⟨_,rfl⟩
 obtain ⟨b,hb⟩:∃ b,b=(Lib.cut l [61]).2.1:=⟨_,rfl⟩
 obtain ⟨fd,hfd⟩:∃ fd,fd=(Lib.cut l [61]).2.2:=⟨_,rfl⟩
 have CC:=Lib.hid fun W (h:TM W)=>c_Cut l [61] W h hl
 have hla:a.length≤2000000:=by rw[ha];exact Nat.le_trans (cut_len _ _).1 hl
 rw[←ha,←hb,←hfd] at CC hP
 clear ha hb hfd h hl
 replace hP:=Lib.hid hP
 go_enter Tryd.func72,Tryd.ntmps72
 go_upto_region 1 with fail
 refine bx1 (w:=w) (F:=Code.wp _ _ _ _) ?_
 rintro W k2 hB -
 replace HT:=Lib.hid (HT.out.below hB)
 go_wp2_with fail
 refine (CC.out _ HT.out).mono ?_
 rintro e w1 ⟨rfl,hq⟩
 have HB:=Lib.hid (bgo hB hq)
 replace HT:=Lib.hid (HT.out.below hq)
 replace k2:=k2.next hq
 clear CC hB hq
 cases fd
 ·(replace qk2:=k2.cell;replace rk2:=k2.frozen;replace lk2:=k2.lt)
  go_wp2_with fail
  have z2:=((k2.set_ 0 (.bool false)).set_ 1 (.int .i64 0)).set_ 2 (.int .i64 0)
  refine bodyPost_ret (v:=.tuple #[.agg #[.bool false,.int .i64 0,.int .i64 0],.bool false]) (by simp[results,Tryd.results72,go_sem,z2.cell]) rfl ⟨by rw[hP.out];rfl,?_⟩
  exact ((HB.out.setCell (p:=⟨w.heap.size,0,none⟩) (by simp only;omega) _).setCell (p:=⟨w.heap.size,1,none⟩) (by simp only;omega) _).setCell (p:=⟨w.heap.size,2,none⟩) (by simp only;omega) _
 have lk20:=k2.lt
 go_upto_region 5 with fail
 have kf:=Blk.new w1 tF #[.bool true,.int .i64 0,.int .i64 0]
 have hbx:=bbox (Below.refl _ w1) (.cells #[.bool true,.int .i64 0,.int .i64 0] tF)
 replace k2:=k2.next hbx
 replace HT:=Lib.hid (HT.out.below hbx)
 replace HB:=Lib.hid (bgo HB.out hbx)
 have lk2:=k2.lt
 obtain ⟨y,hy⟩:∃ y,y=w1.heap.size:=⟨_,rfl⟩
 have hyw:w.heap.size<y:=by rw[hy];exact lk20
 clear hbx
 generalize (w1.alloc (.cells #[.bool true,.int .i64 0,.int .i64 0] _))=V at *
 rw[←hy] at kf ⊢
 clear hy
 obtain ⟨s,hs⟩:∃ s,s=Lib.trimSuffix a [33]:=⟨_,rfl⟩
 obtain ⟨hf,hhf⟩:∃ b,b=Lib.hasSuffix a [33]:=⟨_,rfl⟩
 have CS:=Lib.hid (c_CutSuf a [33] V hla)
 rw[←hs,←hhf] at CS hP
 clear hs hhf
 cases hf
 case' false=>
  have HP:Hid (P=pairP true (parseT a) (parseT b)):=Lib.hid hP.out
  (replace qk2:=k2.cell;replace rk2:=k2.frozen;replace lk2:=k2.lt;replace qkf:=kf.cell;replace rkf:=kf.frozen;replace lkf:=kf.lt)
  go_wp2_with fail
  refine CS.out.mono ?_
  rintro e w' ⟨rfl,rfl⟩
  go_upto_region 10 with fail
  obtain ⟨q,hq⟩:∃ q,q=true:=⟨_,rfl⟩
  rw[←hq] at kf HP
  clear hq CS hP qk2 rk2 lk2 qkf rkf lkf
  obtain ⟨U,rfl⟩:∃ z,z=V:=⟨_,rfl⟩
  obtain ⟨x,rfl⟩:∃ z,z=a:=⟨_,rfl⟩
 case' true=>
  have HP:Hid (P=pairP false (parseT s) (parseT b)):=Lib.hid hP.out
  (replace qk2:=k2.cell;replace rk2:=k2.frozen;replace lk2:=k2.lt;replace qkf:=kf.cell;replace rkf:=kf.frozen;replace lkf:=kf.lt)
  go_wp2_with fail
  refine CS.out.mono ?_
  rintro e w' ⟨rfl,rfl⟩
  go_upto_region 10 with fail
  replace kf:=kf.set_ 0 (.bool false)
  replace k2:=k2.far (p:=⟨y,0,none⟩) (by simp only;omega) (.bool false)
  replace HT:=Lib.hid (HT.out.set0 (y:=y) (i:=0) (by omega) trivial (.bool false))
  replace HB:=Lib.hid (HB.out.setCell (p:=⟨y,0,none⟩) (by simp only;omega) (.bool false))
  clear CS hP qk2 rk2 lk2 qkf rkf lkf
  generalize V.setCell ⟨y,0,none⟩ (.bool false)=U at *
  obtain ⟨q,hq⟩:∃ q,q=false:=⟨_,rfl⟩
  rw[show (#[Value.bool true,.int .i64 0,.int .i64 0]:Array Value).setIfInBounds 0 (.bool false)=#[.bool q,.int .i64 0,.int .i64 0] by rw[hq];rfl] at kf
  rw[←hq] at HP
  clear hq
  obtain ⟨x,rfl⟩:∃ z,z=s:=⟨_,rfl⟩
 all_goals
  have HTT:=HT.out.1
  have lkf:=kf.lt
  have lk2:=k2.lt
  (replace qk2:=k2.cell;replace rk2:=k2.frozen;replace lk2:=k2.lt;replace qkf:=kf.cell;replace rkf:=kf.frozen;replace lkf:=kf.lt)
  obtain ⟨p1,hp1⟩:∃ p,p=parseT x:=⟨_,rfl⟩
  obtain ⟨p2,hp2⟩:∃ p,p=parseT b:=⟨_,rfl⟩
  rw[←hp1,←hp2] at HP
  have CT:=Lib.hid (c_iPT x U HTT)
  rw[←hp1] at CT
  clear hp1
  have CT2:=Lib.hid fun W (h:TN W)=>c_iPT b W h
  rw[←hp2] at CT2
  clear hp2
  have hyn:w.heap.size≠y:=by omega
  cases p1 with
  | none=>
   go_wp2_with fail
   refine CT.out.mono ?_
   rintro e w' ⟨rfl,rfl⟩
   simp only[Option.getD_none,Option.isSome_none]
   have z2:=(((((k2.far (p:=⟨y,1,none⟩) (by simp only;omega) (.int .i64 0)).set_ 0 (.bool false)).set_ 1 (.int .i64 0)).set_ 2 (.int .i64 0))).cell
   have z3:=((((HB.out.setCell (p:=⟨y,1,none⟩) (by simp only;omega) (.int .i64 0)).setCell (p:=⟨w.heap.size,0,none⟩) (by simp only;omega) (.bool false)).setCell (p:=⟨w.heap.size,1,none⟩) (by simp only;omega) (.int .i64 0)).setCell (p:=⟨w.heap.size,2,none⟩) (by simp only;omega) (.int .i64 0))
   go_wp2_with fail
   refine bodyPost_ret (v:=.tuple #[.agg #[.bool false,.int .i64 0,.int .i64 0],.bool false]) (by simp[results,Tryd.results72,go_sem,z2]) rfl ⟨by rw[HP.out];rfl,z3⟩
  | some n1=>
   go_wp2_with fail
   refine CT.out.mono ?_
   rintro e w' ⟨rfl,rfl⟩
   simp only[Option.getD_some,Option.isSome_some]
   have HT2:Hid (TN (U.setCell ⟨y,1,none⟩ (.int .i64 (n1:Nat)))):=Lib.hid (HTT.set0 (by omega) _)
   cases p2 with
   | none=>
    go_wp2_with fail
    refine (CT2.out _ HT2.out).mono ?_
    rintro e w' ⟨rfl,rfl⟩
    simp only[Option.getD_none,Option.isSome_none]
    have z2:=((((((k2.far (p:=⟨y,1,none⟩) (by simp only;omega) (.int .i64 (n1:Nat))).far (p:=⟨y,2,none⟩) (by simp only;omega) (.int .i64 0)).set_ 0 (.bool false)).set_ 1 (.int .i64 0)).set_ 2 (.int .i64 0))).cell
    have z3:=(((((HB.out.setCell (p:=⟨y,1,none⟩) (by simp only;omega) (.int .i64 (n1:Nat))).setCell (p:=⟨y,2,none⟩) (by simp only;omega) (.int .i64 0)).setCell (p:=⟨w.heap.size,0,none⟩) (by simp only;omega) (.bool false)).setCell (p:=⟨w.heap.size,1,none⟩) (by simp only;omega) (.int .i64 0)).setCell (p:=⟨w.heap.size,2,none⟩) (by simp only;omega) (.int .i64 0))
    go_wp2_with fail
    refine bodyPost_ret (v:=.tuple #[.agg #[.bool false,.int .i64 0,.int .i64 0],.bool false]) (by simp[results,Tryd.results72,go_sem,z2]) rfl ⟨by rw[HP.out];rfl,z3⟩
   | some n2=>
    go_wp2_with fail
    refine (CT2.out _ HT2.out).mono ?_
    rintro e w' ⟨rfl,rfl⟩
    simp only[Option.getD_some,Option.isSome_some]
    have z2:=((((((k2.far (p:=⟨y,1,none⟩) (by simp only;omega) (.int .i64 (n1:Nat))).far (p:=⟨y,2,none⟩) (by simp only;omega) (.int .i64 (n2:Nat))).set_ 0 (.bool q)).set_ 1 (.int .i64 (n1:Nat))).set_ 2 (.int .i64 (n2:Nat)))).cell
    have z3:=(((((HB.out.setCell (p:=⟨y,1,none⟩) (by simp only;omega) (.int .i64 (n1:Nat))).setCell (p:=⟨y,2,none⟩) (by simp only;omega) (.int .i64 (n2:Nat))).setCell (p:=⟨w.heap.size,0,none⟩) (by simp only;omega) (.bool q)).setCell (p:=⟨w.heap.size,1,none⟩) (by simp only;omega) (.int .i64 (n1:Nat))).setCell (p:=⟨w.heap.size,2,none⟩) (by simp only;omega) (.int .i64 (n2:Nat)))
    go_wp2_with fail
    refine bodyPost_ret (v:=.tuple #[.agg #[.bool q,.int .i64 (n1:Nat),.int .i64 (n2:Nat)],.bool true]) (by simp[results,Tryd.results72,go_sem,z2]) rfl ⟨by rw[HP.out];rfl,z3⟩
end Go.Proofs.YtjaohekkmlkinaaDoor
