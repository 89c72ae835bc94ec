/- Contracts: the laws' own helpers on plain data: sizes, copies into impl's types, equality. -/
import Derived.Test.YtjbboklnegfohaaDoorMBld
set_option linter.unusedSimpArgs false
set_option linter.unusedVariables false
namespace Go.Proofs.YtjbboklnegfohaaDoor
open Go Go.RowKit Go.Proofs
set_option maxHeartbeats 400000 in
theorem c_eqFact (f g:Fct) (w:World):Calls Tryd.prog 91 #[f.val,g.val] w fun e w'=>e=.returned (.bool (decide (f=g)))∧Below w.heap.size w w':=by
 have hE:Hid (decide (f=g)=decide (f.eq=g.eq∧f.a=g.a∧f.b=g.b)):=decide_eq_decide.2 (Fct.eq_iff f g)
 go_enter Tryd.func91,Tryd.ntmps91
 go_wp2
 all_goals
  go_ret
  exact ⟨ret_bool (by rw[hE.out];simp_all),bel⟩
set_option maxHeartbeats 400000 in
theorem c_eqAtom (f g:Atm) (w:World):Calls Tryd.prog 101 #[f.val,g.val] w fun e w'=>e=.returned (.bool (decide (f=g)))∧Below w.heap.size w w':=by
 have hE:Hid (decide (f=g)=decide (f.kind=g.kind∧f.a=g.a∧f.b=g.b)):=decide_eq_decide.2 (Atm.eq_iff f g)
 go_enter Tryd.func101,Tryd.ntmps101
 go_wp2
 all_goals
  go_ret
  exact ⟨ret_bool (by rw[hE.out];simp_all),bel⟩
set_option maxRecDepth 100000 in
set_option maxHeartbeats 800000 in
theorem c_eqFactS {lo hi lo' hi':Nat} (A A':Option Addr) (c c':Nat) (fs gs:List Fct) (w:World) (h:FactsV w lo hi A fs) (h':FactsV w lo' hi' A' gs):Calls Tryd.prog 71 #[.slice A fs.length c,.slice A' gs.length c'] w fun e w'=>e=.returned (.bool (decide (fs=gs)))∧Below w.heap.size w w':=by
 have hl:=h.le
 have hl':=h'.le
 by_cases hn:fs.length=gs.length
 ·have hne:(fs.length != gs.length)=false:=by simpa using hn
  have hne':((fs.length:Int) != (gs.length:Int))=false:=by simp[hn]
  have HN:=Lib.hid hn
  clear hn
  go_enter Tryd.func71,Tryd.ntmps71
  go_wp2
  go_loopw [5] (fun i wr=>∃ k:Nat,k≤fs.length∧i=.int .i64 k∧Hid (decide (fs=gs)=decide (fs.drop k=gs.drop k))∧Below w.heap.size w wr) (fun i _=>fs.length - (intOf i).toNat)
  case atStart=>exact ⟨0,Nat.zero_le _,rfl,by simp[Hid],bel⟩
  case round=>
   obtain ⟨k,hk,rfl,HA,hB⟩:=hrel
   clear hne hne'
   by_cases hlt:k<fs.length
   ·have hlt':k<gs.length:=by have:=HN.out;omega
    have HD:=Lib.hid (drop_eq fs gs k hlt hlt')
    obtain ⟨b,off,rfl,c0,c1,c2⟩:=(h.below hB).at hlt
    obtain ⟨b',off',rfl,d0,d1,d2⟩:=(h'.below hB).at hlt'
    cases he:decide (fs[k]=gs[k])
    ·go_wp2_with fail
     go_still_tail 8,(by kernel_rfl)
     change wpList _ _ _ _ _ wr.drew
     have hBd:=hB.drew
     clear hB
     generalize wr.drew=wd at *
     go_wp2_with (go_at_call 91;refine (c_eqFact fs[k] gs[k] _).mono ?_;rintro e w' ⟨rfl,hB2⟩)
     go_ret
     exact ⟨ret_bool (by rw[HA.out,HD.out,he];rfl),bgo hBd hB2⟩
    ·go_wp2_with fail
     go_still_tail 8,(by kernel_rfl)
     change wpList _ _ _ _ _ wr.drew
     have hBd:=hB.drew
     clear hB
     generalize wr.drew=wd at *
     go_wp2_with (go_at_call 91;refine (c_eqFact fs[k] gs[k] _).mono ?_;rintro e w' ⟨rfl,hB2⟩)
     go_round
     case rel=>exact ⟨k+1,by omega,by go_num,by show _=_;rw[HA.out,HD.out,he];rfl,bgo hBd hB2⟩
     case measure=>simp[intOf];omega
   ·go_wp2
    go_ret
    obtain rfl:k=fs.length:=by omega
    exact ⟨ret_bool (by rw[HA.out,List.drop_length,HN.out,List.drop_length];simp),hB⟩
 ·have hne:(fs.length != gs.length)=true:=by simpa using hn
  have HN:=Lib.hid hn
  clear hn
  go_enter Tryd.func71,Tryd.ntmps71
  go_wp2
  go_ret
  exact ⟨ret_bool (by symm;rw[decide_eq_false_iff_not];intro e;exact HN.out (by rw[e])),bel⟩
set_option maxRecDepth 100000 in
set_option maxHeartbeats 800000 in
theorem c_eqAtomS {lo hi lo' hi':Nat} (A A':Option Addr) (c c':Nat) (fs gs:List Atm) (w:World) (h:AtomsV w lo hi A fs) (h':AtomsV w lo' hi' A' gs):Calls Tryd.prog 72 #[.slice A fs.length c,.slice A' gs.length c'] w fun e w'=>e=.returned (.bool (decide (fs=gs)))∧Below w.heap.size w w':=by
 have hl:=h.le
 have hl':=h'.le
 by_cases hn:fs.length=gs.length
 ·have hne:(fs.length != gs.length)=false:=by simpa using hn
  have hne':((fs.length:Int) != (gs.length:Int))=false:=by simp[hn]
  have HN:=Lib.hid hn
  clear hn
  go_enter Tryd.func72,Tryd.ntmps72
  go_wp2
  go_loopw [5] (fun i wr=>∃ k:Nat,k≤fs.length∧i=.int .i64 k∧Hid (decide (fs=gs)=decide (fs.drop k=gs.drop k))∧Below w.heap.size w wr) (fun i _=>fs.length - (intOf i).toNat)
  case atStart=>exact ⟨0,Nat.zero_le _,rfl,by simp[Hid],bel⟩
  case round=>
   obtain ⟨k,hk,rfl,HA,hB⟩:=hrel
   clear hne hne'
   by_cases hlt:k<fs.length
   ·have hlt':k<gs.length:=by have:=HN.out;omega
    have HD:=Lib.hid (drop_eq fs gs k hlt hlt')
    obtain ⟨b,off,rfl,c0,c1,c2⟩:=(h.below hB).at hlt
    obtain ⟨b',off',rfl,d0,d1,d2⟩:=(h'.below hB).at hlt'
    cases he:decide (fs[k]=gs[k])
    ·go_wp2_with fail
     go_still_tail 8,(by kernel_rfl)
     change wpList _ _ _ _ _ wr.drew
     have hBd:=hB.drew
     clear hB
     generalize wr.drew=wd at *
     go_wp2_with (go_at_call 101;refine (c_eqAtom fs[k] gs[k] _).mono ?_;rintro e w' ⟨rfl,hB2⟩)
     go_ret
     exact ⟨ret_bool (by rw[HA.out,HD.out,he];rfl),bgo hBd hB2⟩
    ·go_wp2_with fail
     go_still_tail 8,(by kernel_rfl)
     change wpList _ _ _ _ _ wr.drew
     have hBd:=hB.drew
     clear hB
     generalize wr.drew=wd at *
     go_wp2_with (go_at_call 101;refine (c_eqAtom fs[k] gs[k] _).mono ?_;rintro e w' ⟨rfl,hB2⟩)
     go_round
     case rel=>exact ⟨k+1,by omega,by go_num,by show _=_;rw[HA.out,HD.out,he];rfl,bgo hBd hB2⟩
     case measure=>simp[intOf];omega
   ·go_wp2
    go_ret
    obtain rfl:k=fs.length:=by omega
    exact ⟨ret_bool (by rw[HA.out,List.drop_length,HN.out,List.drop_length];simp),hB⟩
 ·have hne:(fs.length != gs.length)=true:=by simpa using hn
  have HN:=Lib.hid hn
  clear hn
  go_enter Tryd.func72,Tryd.ntmps72
  go_wp2
  go_ret
  exact ⟨ret_bool (by symm;rw[decide_eq_false_iff_not];intro e;exact HN.out (by rw[e])),bel⟩
set_option maxHeartbeats 800000 in
theorem c_eqAssertion {lo hi lo' hi':Nat} (v v':Value) (a a':Asn) (w:World) (h:AsnV w lo hi v a) (h':AsnV w lo' hi' v' a'):Calls Tryd.prog 32 #[v,v'] w fun e w'=>e=.returned (.bool (decide (a=a')))∧Below w.heap.size w w':=by
 obtain ⟨A1,c1,A2,c2,rfl,h1,h2⟩:=h
 obtain ⟨A3,c3,A4,c4,rfl,h3,h4⟩:=h'
 have hE:Hid (decide (a=a')=decide (a.facts=a'.facts∧a.atoms=a'.atoms)):=decide_eq_decide.2 (Asn.eq_iff a a')
 go_enter Tryd.func32,Tryd.ntmps32
 go_wp2_with fail
 refine (c_eqFactS A1 A3 c1 c3 a.facts a'.facts _ (h1.below bel) (h3.below bel)).mono ?_
 rintro e w1 ⟨rfl,hB1⟩
 have hB:=bgo (w:=w) bel hB1
 have k0:=(Blk.next (g:=w.heap.size) (((Blk.new w _ _).alloc _)) hB1).cell
 have k1:=(Blk.next (g:=w.heap.size+1) (by rw[←World.size_alloc];exact Blk.new (w.alloc _) _ _) hB1).cell
 cases hd:decide (a.facts=a'.facts)
 ·go_wp2_with fail
  go_ret
  exact ⟨ret_bool (by rw[hE.out,Bool.decide_and,hd];rfl),hB⟩
 ·go_wp2_with fail
  refine (c_eqAtomS A2 A4 c2 c4 a.atoms a'.atoms _ (h2.below hB) (h4.below hB)).mono ?_
  rintro e w2 ⟨rfl,hB2⟩
  cases hd2:decide (a.atoms=a'.atoms)
  all_goals
   go_wp2_with fail
   go_ret
   exact ⟨ret_bool (by rw[hE.out,Bool.decide_and,hd,hd2];rfl),bgo hB hB2⟩
end Go.Proofs.YtjbboklnegfohaaDoor
