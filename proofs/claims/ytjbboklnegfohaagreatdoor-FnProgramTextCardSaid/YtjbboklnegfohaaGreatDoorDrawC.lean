/- What the reader draws: copies that are changed. -/
import Derived.Test.YtjbboklnegfohaaGreatDoorDrawB
set_option linter.unusedSimpArgs false
set_option linter.unusedVariables false
namespace Go.Proofs.YtjbboklnegfohaaGreatDoor
open Go Go.RowKit Go.Proofs
set_option maxRecDepth 100000 in
set_option maxHeartbeats 1600000 in
theorem c_l3Copy {lo hi:Nat} (v:Value) (a:Asn) (w:World) (h:AsnV w lo hi v a) :
  Calls Tryz.prog 81 #[v] w fun e w'=>∃ r,e=.returned r∧AsnO w' w.heap.size r a∧Below w.heap.size w w':=by
 have hV:=Lib.hid h
 obtain ⟨A1,c1,A2,c2,rfl,h1,h2⟩:=h
 have HL:=Lib.hid (And.intro h1.le h2.le)
 clear h1 h2
 have e0:Hid (starA a ⟨[],[]⟩=a):=by show _=_;simp[starA]
 go_enter Tryz.func81,Tryz.ntmps81
 have kr:Blk ((w.alloc (.cells #[.slice A1 a.facts.length c1,.slice A2 a.atoms.length c2] 49)).alloc (.cells #[.slice none 0 0,.slice none 0 0] 49)) (w.heap.size+1) 49 #[.slice none 0 0,.slice none 0 0]:=blks
 go_wp2_with fail
 refine (c_spec_l3Star _ _ a ⟨[],[]⟩ _ (hV.out.below bel) (⟨none,0,none,0,rfl,Rd.nil _ 0 0 _ _,Rd.nil _ 0 0 _ _⟩) (by simpa using HL.out.1) (by simpa using HL.out.2)).mono ?_
 rintro e w1 ⟨r,rfl,o,hB1⟩
 have hB:=bgo (w:=w) bel hB1
 replace kr:=kr.next hB1
 rw[e0.out] at o
 replace o:=o.lower (base':=w.heap.size) (by simp;omega)
 obtain ⟨fv,av,rfl,o1,o2⟩:=o
 obtain ⟨F,e1,rfl,-⟩:=o1.reads
 obtain ⟨G,e2,rfl,-⟩:=o2.reads
 have O1:=Lib.hid o1
 have O2:=Lib.hid o2
 (replace qkr:=kr.cell;replace rkr:=kr.frozen;replace lkr:=kr.lt)
 clear o1 o2 hB1
 go_wp2_with fail
 refine bodyPost_ret (v:=.agg #[.slice F a.facts.length e1,.slice G a.atoms.length e2]) (by simp[results,Tryz.results81,go_sem,qkr]) rfl ⟨_,rfl,⟨_,_,rfl,?_,?_⟩,bel⟩
 ·exact (O1.out.setT kr (by decide) 0 _).setT (kr.set_ 0 _) (by decide) 1 _
 ·exact (O2.out.setT kr (by decide) 0 _).setT (kr.set_ 0 _) (by decide) 1 _
end Go.Proofs.YtjbboklnegfohaaGreatDoor
