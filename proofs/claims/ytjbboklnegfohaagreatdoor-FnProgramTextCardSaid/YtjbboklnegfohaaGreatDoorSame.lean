/- Contracts: equal assertions; impl's normal form. -/
import Derived.Test.YtjbboklnegfohaaGreatDoorTidyJ
import Derived.Test.YtjbboklnegfohaaGreatDoorMModel
set_option linter.unusedSimpArgs false
set_option linter.unusedVariables false
namespace Go.Proofs.YtjbboklnegfohaaGreatDoor
open Go Go.RowKit Go.Proofs
attribute [local go_sem ↓] Go.wp_at_zero Go.wp_at_succ
set_option maxRecDepth 100000 in
set_option maxHeartbeats 3200000 in
theorem c_sameFact {lo hi lo' hi':Nat} (A A':Option Addr) (c c':Nat) (fs gs:List Fct) (w:World) (h:FactsV w lo hi A fs) (h':FactsV w lo' hi' A' gs):Calls Tryz.prog 71 #[.slice A fs.length c,.slice A' gs.length c'] w fun e w'=>e=.returned (.bool (decide (fs=gs)))∧Below w.heap.size w w':=by
 have hl:=h.le
 have hl':=h'.le
 have H:=Lib.hid h
 have H':=Lib.hid h'
 clear h h'
 by_cases hn:fs.length=gs.length
 ·have hn':((fs.length:Int) != (gs.length:Int))=false:=by simp[hn]
  have HN:=Lib.hid hn
  clear hn
  go_enter Tryz.func71,Tryz.ntmps71
  go_wp2_with fail
  clear hn'
  go_loopw [14] (fun i wr=>∃ k:Nat,k≤fs.length∧i=.int .i64 k∧Hid (decide (fs=gs)=decide (fs.drop k=gs.drop k))∧Hid (Below w.heap.size w wr)) (fun i _=>fs.length - (intOf i).toNat)
  case atStart=>exact ⟨0,Nat.zero_le _,rfl,by show _=_;simp,Below.refl _ _⟩
  case round=>
   obtain ⟨k,hk,rfl,HA,HB⟩:=hrel
   by_cases hlt:k<fs.length
   ·have hlt':k<gs.length:=by have:=HN.out;omega
    obtain ⟨b,off,rfl,g0,g1,g2⟩:=(H.out.below HB.out).at hlt
    obtain ⟨b',off',rfl,j0,j1,j2⟩:=(H'.out.below HB.out).at hlt'
    have HD:=Lib.hid (drop_eq fs gs k hlt hlt')
    have hki:(k:Int)<(fs.length:Int):=by omega
    have hki':(k:Int)<(gs.length:Int):=by omega
    obtain ⟨f,hf⟩:∃ f,f=fs[k]:=⟨_,rfl⟩
    obtain ⟨g,hg⟩:∃ g,g=gs[k]:=⟨_,rfl⟩
    rw[←hf] at g0 g1 g2 HD
    rw[←hg] at j0 j1 j2 HD
    have hbl:=block_lt_of_cell g0
    have hbl':=block_lt_of_cell j0
    have hB':Below w.heap.size w wr:=HB.out
    clear hf hg
    by_cases f1:f.eq=g.eq
    ·by_cases f2:f.a=g.a
     ·by_cases f3:f.b=g.b
      ·have E:Hid (decide (f=g)=true):=by show _=_;rw[decide_eq_true_eq];exact (Fct.eq_iff f g).2 ⟨f1,f2,f3⟩
       rw[f1] at g0
       rw[f2] at g1
       rw[f3] at g2
       clear f1 f2 f3
       go_wp2_with fail
       go_quiet (fail)
       go_wp2_with fail
       go_round
       case rel=>exact ⟨k+1,by omega,by go_num,by show _=_;rw[HA.out,HD.out,E.out];rfl,below_drewN (bbox HB.out _) _⟩
       case measure=>simp[intOf];omega
      ·have E:Hid (decide (f=g)=false):=by show _=_;rw[decide_eq_false_iff_not];exact fun e=>f3 ((Fct.eq_iff f g).1 e).2.2
       have e3:(f.b == g.b)=false:=by simpa using f3
       rw[f1] at g0
       rw[f2] at g1
       clear f1 f2 f3
       go_wp2_with fail
       go_quiet (fail)
       go_wp2_with fail
       go_ret
       exact ⟨ret_bool (by rw[HA.out,HD.out,E.out];rfl),below_drewN (bbox HB.out _) _⟩
     ·have E:Hid (decide (f=g)=false):=by show _=_;rw[decide_eq_false_iff_not];exact fun e=>f2 ((Fct.eq_iff f g).1 e).2.1
      have e2:(f.a == g.a)=false:=by simpa using f2
      rw[f1] at g0
      clear f1 f2
      go_wp2_with fail
      go_quiet (fail)
      go_wp2_with fail
      go_ret
      exact ⟨ret_bool (by rw[HA.out,HD.out,E.out];rfl),below_drewN (bbox HB.out _) _⟩
    ·have E:Hid (decide (f=g)=false):=by show _=_;rw[decide_eq_false_iff_not];exact fun e=>f1 ((Fct.eq_iff f g).1 e).1
     have e1:(f.eq == g.eq)=false:=by simpa using f1
     clear f1
     go_wp2_with fail
     go_quiet (fail)
     go_wp2_with fail
     go_ret
     exact ⟨ret_bool (by rw[HA.out,HD.out,E.out];rfl),below_drewN (bbox HB.out _) _⟩
   ·obtain rfl:k=fs.length:=by omega
    have E:Hid (decide (fs=gs)=true):=by show _=_;rw[HA.out,List.drop_length,HN.out,List.drop_length];simp
    go_wp2_with fail
    go_ret
    exact ⟨ret_bool E.out.symm,HB.out⟩
 ·have hn':((fs.length:Int) != (gs.length:Int))=true:=by simp;omega
  have E:Hid (decide (fs=gs)=false):=by show _=_;rw[decide_eq_false_iff_not];exact fun e=>hn (by rw[e])
  clear hn
  go_enter Tryz.func71,Tryz.ntmps71
  go_wp2_with fail
  go_ret
  exact ⟨ret_bool E.out.symm,Below.refl _ _⟩
set_option maxRecDepth 100000 in
set_option maxHeartbeats 3200000 in
theorem c_sameAtom {lo hi lo' hi':Nat} (A A':Option Addr) (c c':Nat) (fs gs:List Atm) (w:World) (h:AtomsV w lo hi A fs) (h':AtomsV w lo' hi' A' gs):Calls Tryz.prog 72 #[.slice A fs.length c,.slice A' gs.length c'] w fun e w'=>e=.returned (.bool (decide (fs=gs)))∧Below w.heap.size w w':=by
 have hl:=h.le
 have hl':=h'.le
 have H:=Lib.hid h
 have H':=Lib.hid h'
 clear h h'
 by_cases hn:fs.length=gs.length
 ·have hn':((fs.length:Int) != (gs.length:Int))=false:=by simp[hn]
  have HN:=Lib.hid hn
  clear hn
  go_enter Tryz.func72,Tryz.ntmps72
  go_wp2_with fail
  clear hn'
  go_loopw [14] (fun i wr=>∃ k:Nat,k≤fs.length∧i=.int .i64 k∧Hid (decide (fs=gs)=decide (fs.drop k=gs.drop k))∧Hid (Below w.heap.size w wr)) (fun i _=>fs.length - (intOf i).toNat)
  case atStart=>exact ⟨0,Nat.zero_le _,rfl,by show _=_;simp,Below.refl _ _⟩
  case round=>
   obtain ⟨k,hk,rfl,HA,HB⟩:=hrel
   by_cases hlt:k<fs.length
   ·have hlt':k<gs.length:=by have:=HN.out;omega
    obtain ⟨b,off,rfl,g0,g1,g2⟩:=(H.out.below HB.out).at hlt
    obtain ⟨b',off',rfl,j0,j1,j2⟩:=(H'.out.below HB.out).at hlt'
    have HD:=Lib.hid (drop_eq fs gs k hlt hlt')
    have hki:(k:Int)<(fs.length:Int):=by omega
    have hki':(k:Int)<(gs.length:Int):=by omega
    obtain ⟨f,hf⟩:∃ f,f=fs[k]:=⟨_,rfl⟩
    obtain ⟨g,hg⟩:∃ g,g=gs[k]:=⟨_,rfl⟩
    rw[←hf] at g0 g1 g2 HD
    rw[←hg] at j0 j1 j2 HD
    have hbl:=block_lt_of_cell g0
    have hbl':=block_lt_of_cell j0
    have hB':Below w.heap.size w wr:=HB.out
    clear hf hg
    by_cases f1:f.kind=g.kind
    ·by_cases f2:f.a=g.a
     ·by_cases f3:f.b=g.b
      ·have E:Hid (decide (f=g)=true):=by show _=_;rw[decide_eq_true_eq];exact (Atm.eq_iff f g).2 ⟨f1,f2,f3⟩
       rw[f1] at g0
       rw[f2] at g1
       rw[f3] at g2
       clear f1 f2 f3
       go_wp2_with fail
       go_quiet (fail)
       go_wp2_with fail
       go_round
       case rel=>exact ⟨k+1,by omega,by go_num,by show _=_;rw[HA.out,HD.out,E.out];rfl,below_drewN (bbox HB.out _) _⟩
       case measure=>simp[intOf];omega
      ·have E:Hid (decide (f=g)=false):=by show _=_;rw[decide_eq_false_iff_not];exact fun e=>f3 ((Atm.eq_iff f g).1 e).2.2
       have e3:(f.b == g.b)=false:=by simpa using f3
       rw[f1] at g0
       rw[f2] at g1
       clear f1 f2 f3
       go_wp2_with fail
       go_quiet (fail)
       go_wp2_with fail
       go_ret
       exact ⟨ret_bool (by rw[HA.out,HD.out,E.out];rfl),below_drewN (bbox HB.out _) _⟩
     ·have E:Hid (decide (f=g)=false):=by show _=_;rw[decide_eq_false_iff_not];exact fun e=>f2 ((Atm.eq_iff f g).1 e).2.1
      have e2:(f.a == g.a)=false:=by simpa using f2
      rw[f1] at g0
      clear f1 f2
      go_wp2_with fail
      go_quiet (fail)
      go_wp2_with fail
      go_ret
      exact ⟨ret_bool (by rw[HA.out,HD.out,E.out];rfl),below_drewN (bbox HB.out _) _⟩
    ·have E:Hid (decide (f=g)=false):=by show _=_;rw[decide_eq_false_iff_not];exact fun e=>f1 ((Atm.eq_iff f g).1 e).1
     have e1:(f.kind == g.kind)=false:=by simpa using f1
     clear f1
     go_wp2_with fail
     go_quiet (fail)
     go_wp2_with fail
     go_ret
     exact ⟨ret_bool (by rw[HA.out,HD.out,E.out];rfl),below_drewN (bbox HB.out _) _⟩
   ·obtain rfl:k=fs.length:=by omega
    have E:Hid (decide (fs=gs)=true):=by show _=_;rw[HA.out,List.drop_length,HN.out,List.drop_length];simp
    go_wp2_with fail
    go_ret
    exact ⟨ret_bool E.out.symm,HB.out⟩
 ·have hn':((fs.length:Int) != (gs.length:Int))=true:=by simp;omega
  have E:Hid (decide (fs=gs)=false):=by show _=_;rw[decide_eq_false_iff_not];exact fun e=>hn (by rw[e])
  clear hn
  go_enter Tryz.func72,Tryz.ntmps72
  go_wp2_with fail
  go_ret
  exact ⟨ret_bool E.out.symm,Below.refl _ _⟩
set_option maxRecDepth 100000 in
set_option maxHeartbeats 1600000 in
theorem c_impl_Same {lo hi lo' hi':Nat} (v v':Value) (a b:Asn) (w:World) (h:AsnV w lo hi v a) (h':AsnV w lo' hi' v' b):Calls Tryz.prog 41 #[v,v'] w fun e w'=>e=.returned (.bool (decide (a=b)))∧Below w.heap.size w w':=by
 obtain ⟨A1,c1,A2,c2,rfl,h1,h2⟩:=h
 obtain ⟨A3,c3,A4,c4,rfl,h3,h4⟩:=h'
 have H1:=Lib.hid h1
 have H2:=Lib.hid h2
 have H3:=Lib.hid h3
 have H4:=Lib.hid h4
 have HE:=Lib.hid (Asn.eq_iff a b)
 clear h1 h2 h3 h4
 go_enter Tryz.func41,Tryz.ntmps41
 have k0:Blk ((w.alloc (.cells #[.slice A1 a.facts.length c1,.slice A2 a.atoms.length c2] 49)).alloc (.cells #[.slice A3 b.facts.length c3,.slice A4 b.atoms.length c4] 49)) w.heap.size 49 #[.slice A1 a.facts.length c1,.slice A2 a.atoms.length c2]:=blks
 have k1:Blk ((w.alloc (.cells #[.slice A1 a.facts.length c1,.slice A2 a.atoms.length c2] 49)).alloc (.cells #[.slice A3 b.facts.length c3,.slice A4 b.atoms.length c4] 49)) (w.heap.size+1) 49 #[.slice A3 b.facts.length c3,.slice A4 b.atoms.length c4]:=blks
 go_wp2_with fail
 refine (c_sameFact _ _ _ _ a.facts b.facts _ (H1.out.below bel) (H3.out.below bel)).mono ?_
 rintro e w1 ⟨rfl,hB1⟩
 have hB:=bgo (w:=w) bel hB1
 replace k0:=k0.next hB1
 replace k1:=k1.next hB1
 (replace qk0:=k0.cell;replace rk0:=k0.frozen;replace lk0:=k0.lt;replace qk1:=k1.cell;replace rk1:=k1.frozen;replace lk1:=k1.lt)
 clear hB1
 cases hf:decide (a.facts=b.facts)
 ·have E:Hid (decide (a=b)=false):=by show _=_;rw[decide_eq_false_iff_not,HE.out];exact fun e=>by rw[decide_eq_false_iff_not] at hf;exact hf e.1
  clear hf
  go_wp2_with fail
  go_ret
  exact ⟨ret_bool E.out.symm,hB⟩
 ·have E:Hid (decide (a=b)=decide (a.atoms=b.atoms)):=by show _=_;rw[decide_eq_decide,HE.out];rw[decide_eq_true_eq] at hf;exact ⟨fun e=>e.2,fun e=>⟨hf,e⟩⟩
  clear hf
  go_wp2_with fail
  refine (c_sameAtom _ _ _ _ a.atoms b.atoms _ (H2.out.below hB) (H4.out.below hB)).mono ?_
  rintro e w2 ⟨rfl,hB2⟩
  go_wp2_with fail
  go_ret
  exact ⟨ret_bool E.out.symm,bgo hB hB2⟩
end Go.Proofs.YtjbboklnegfohaaGreatDoor
