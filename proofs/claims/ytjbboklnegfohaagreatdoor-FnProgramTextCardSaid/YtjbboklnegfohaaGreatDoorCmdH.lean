/- Programs: a basic command's fields. -/
import Derived.Test.YtjbboklnegfohaaGreatDoorMAlloc
import Derived.Test.YtjbboklnegfohaaGreatDoorVal
set_option linter.unusedSimpArgs false
set_option linter.unusedVariables false
namespace Go.Proofs.YtjbboklnegfohaaGreatDoor
open Go Go.RowKit Go.Proofs
def plainB (t:Fct) (i:Asn) (body els:Cms):Bool:=noFct t&&(noAsn i&&(decide (body.len=0)&&decide (els.len=0)))
def fieldsB (k a b:Int):Bool:=
 if k=1∨k=2 then isProgB a&&isTermB b else if k=3 then isTermB a&&isTermB b else if k=4 then isProgB a&&decide (b=0) else if k=5 then isTermB a&&decide (b=0) else false
set_option maxRecDepth 100000 in
set_option maxHeartbeats 6400000 in
theorem c_spec_l8Basic_no (k a b:Int) (t:Fct) (i:Asn) (A1 A2 A3 A4:Option Addr) (c1 c2 c3 c4:Nat) (body els:Cms) (w:World) (h1:i.facts.length≤1049600) (h2:i.atoms.length≤1049600) (h3:body.len≤1049600) (h4:els.len≤1049600) (hn:plainB t i body els=false) :
  Calls Tryz.prog 40 #[.agg #[.int .i64 k,.int .i64 a,.int .i64 b,.bool t.eq,.int .i64 t.a,.int .i64 t.b,.slice A1 i.facts.length c1,.slice A2 i.atoms.length c2,.slice A3 body.len c3,.slice A4 els.len c4]] w fun e w'=>e=.returned (.bool false)∧Below w.heap.size w w':=by
 obtain ⟨x,hx⟩:∃ x,x=noFct t:=⟨_,rfl⟩
 obtain ⟨y,hy⟩:∃ y,y=noAsn i:=⟨_,rfl⟩
 unfold plainB at hn
 rw[←hx,←hy] at hn
 replace hx:=Lib.hid hx
 replace hy:=Lib.hid hy
 replace hn:=Lib.hid hn
 go_enter Tryz.func40,Tryz.ntmps40
 go_wp2_with fail
 refine (c_spec_l8NoFact t _).mono ?_
 rintro e w1 ⟨rfl,hB1⟩
 rw[←hx.out]
 have hB:=bgo (w:=w) bel hB1
 have K0:=(Blk.next (g:=w.heap.size) (Blk.new w _ _) hB1)
 have q0:=K0.cell
 have l0:=K0.lt
 cases x
 ·go_wp2_with fail
  go_ret
  exact ⟨ret_bool rfl,hB⟩
 go_wp2_with fail
 refine (c_spec_l8NoInv A1 A2 c1 c2 i _ h1 h2).mono ?_
 rintro e w2 ⟨rfl,hB2⟩
 rw[←hy.out]
 have hBB:=bgo hB hB2
 have K1:=K0.next hB2
 clear q0 l0
 have q0:=K1.cell
 have l0:=K1.lt
 cases y
 ·go_wp2_with fail
  go_ret
  exact ⟨ret_bool rfl,hBB⟩
 by_cases z1:body.len=0
 case neg=>
  have z1':0<body.len:=by omega
  go_wp2_with fail
  go_ret
  exact ⟨ret_bool rfl,hBB⟩
 by_cases z2:els.len=0
 case neg=>
  have z2':0<els.len:=by omega
  go_wp2_with fail
  go_ret
  exact ⟨ret_bool rfl,hBB⟩
 exact absurd hn.out (by simp[z1,z2])
set_option maxRecDepth 100000 in
set_option maxHeartbeats 6400000 in
theorem c_spec_l8Basic_yes (k a b:Int) (t:Fct) (i:Asn) (A1 A2 A3 A4:Option Addr) (c1 c2 c3 c4:Nat) (body els:Cms) (w:World) (h1:i.facts.length≤1049600) (h2:i.atoms.length≤1049600) (hn:plainB t i body els=true) :
  Calls Tryz.prog 40 #[.agg #[.int .i64 k,.int .i64 a,.int .i64 b,.bool t.eq,.int .i64 t.a,.int .i64 t.b,.slice A1 i.facts.length c1,.slice A2 i.atoms.length c2,.slice A3 body.len c3,.slice A4 els.len c4]] w fun e w'=>e=.returned (.bool (fieldsB k a b))∧Below w.heap.size w w':=by
 have hn':noFct t=true∧noAsn i=true∧body.len=0∧els.len=0:=by simpa[plainB] using hn
 obtain ⟨e1,e2,e3,e4⟩:=hn'
 rw[e3,e4]
 clear hn e3 e4
 replace e1:=Lib.hid e1
 replace e2:=Lib.hid e2
 obtain ⟨R,hR⟩:∃ R,R=fieldsB k a b:=⟨_,rfl⟩
 rw[←hR]
 unfold fieldsB at hR
 obtain ⟨pa,hpa⟩:∃ pa,pa=isProgB a:=⟨_,rfl⟩
 obtain ⟨ta,hta⟩:∃ ta,ta=isTermB a:=⟨_,rfl⟩
 obtain ⟨tb,htb⟩:∃ tb,tb=isTermB b:=⟨_,rfl⟩
 rw[←hpa,←hta,←htb] at hR
 replace hpa:=Lib.hid hpa
 replace hta:=Lib.hid hta
 replace htb:=Lib.hid htb
 replace hR:=Lib.hid hR
 go_enter Tryz.func40,Tryz.ntmps40
 go_wp2_with fail
 refine (c_spec_l8NoFact t _).mono ?_
 rintro e w1 ⟨rfl,hB1⟩
 rw[e1.out]
 have hB:=bgo (w:=w) bel hB1
 have K0:=(Blk.next (g:=w.heap.size) (Blk.new w _ _) hB1)
 have q0:=K0.cell
 have l0:=K0.lt
 go_wp2_with fail
 refine (c_spec_l8NoInv A1 A2 c1 c2 i _ h1 h2).mono ?_
 rintro e w2 ⟨rfl,hB2⟩
 rw[e2.out]
 have hBB:=bgo hB hB2
 have K1:=K0.next hB2
 clear q0 l0
 have q0:=K1.cell
 have l0:=K1.lt
 by_cases k1:k=1∨k=2
 ·have hR2:=Lib.hid (show R=(pa&&tb) from by rw[hR.out,if_pos k1])
  clear hR
  rcases k1 with rfl|rfl
  all_goals
   cases pa
   all_goals
    cases tb
    all_goals
     go_wp2_with (first|(go_at_call 70;refine (c_spec_l8Prog a _).mono ?_;rintro e w' ⟨rfl,rfl⟩;rw[←hpa.out])|(go_at_call 66;refine (c_spec_l1Is b _).mono ?_;rintro e w' ⟨rfl,rfl⟩;rw[←htb.out]))
     go_ret
     exact ⟨ret_bool (by rw[hR2.out];rfl),hBB⟩
 by_cases k3:k=3
 ·have hR2:=Lib.hid (show R=(ta&&tb) from by rw[hR.out,if_neg k1,if_pos k3])
  clear hR
  subst k3
  clear k1
  cases ta
  all_goals
   cases tb
   all_goals
    go_wp2_with (first|(go_at_call 66;refine (c_spec_l1Is a _).mono ?_;rintro e w' ⟨rfl,rfl⟩;rw[←hta.out])|(go_at_call 66;refine (c_spec_l1Is b _).mono ?_;rintro e w' ⟨rfl,rfl⟩;rw[←htb.out]))
    go_ret
    exact ⟨ret_bool (by rw[hR2.out];rfl),hBB⟩
 by_cases k4:k=4
 ·have hR2:=Lib.hid (show R=(pa&&decide (b=0)) from by rw[hR.out,if_neg k1,if_neg k3,if_pos k4])
  clear hR
  subst k4
  clear k1 k3
  cases pa
  all_goals
   by_cases b0:b=0
   all_goals
    have hb0:=Lib.hid b0
    go_wp2_with (go_at_call 70;refine (c_spec_l8Prog a _).mono ?_;rintro e w' ⟨rfl,rfl⟩;rw[←hpa.out])
    go_ret
    exact ⟨ret_bool (by rw[hR2.out];first|rfl|(simp_all)),hBB⟩
 by_cases k5:k=5
 ·have hR2:=Lib.hid (show R=(ta&&decide (b=0)) from by rw[hR.out,if_neg k1,if_neg k3,if_neg k4,if_pos k5])
  clear hR
  subst k5
  clear k1 k3 k4
  cases ta
  all_goals
   by_cases b0:b=0
   all_goals
    have hb0:=Lib.hid b0
    go_wp2_with (go_at_call 66;refine (c_spec_l1Is a _).mono ?_;rintro e w' ⟨rfl,rfl⟩;rw[←hta.out])
    go_ret
    exact ⟨ret_bool (by rw[hR2.out];first|rfl|(simp_all)),hBB⟩
 ·have hR2:=Lib.hid (show R=false from by rw[hR.out,if_neg k1,if_neg k3,if_neg k4,if_neg k5])
  clear hR
  have ka:k≠1:=fun e=>k1 (.inl e)
  have kb:k≠2:=fun e=>k1 (.inr e)
  clear k1
  go_wp2_with fail
  go_ret
  exact ⟨ret_bool (by rw[hR2.out]),hBB⟩
end Go.Proofs.YtjbboklnegfohaaGreatDoor
