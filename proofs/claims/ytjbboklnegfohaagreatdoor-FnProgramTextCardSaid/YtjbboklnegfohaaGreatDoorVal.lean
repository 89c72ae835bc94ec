/- Contracts: what is valid (impl and spec). -/
import Derived.Test.YtjbboklnegfohaaGreatDoorProg
import Derived.Test.YtjbboklnegfohaaGreatDoorMRange
set_option linter.unusedSimpArgs false
set_option linter.unusedVariables false
namespace Go.Proofs.YtjbboklnegfohaaGreatDoor
open Go Go.RowKit Go.Proofs
set_option maxHeartbeats 400000 in
theorem c_impl_isTerm (n:Int) (w:World):Calls Tryz.prog 65 #[.int .i64 n] w fun e w'=>e=.returned (.bool (isTermB n))∧w=w':=by
 by_cases h:0≤n
 ·by_cases h2:n≤8
  all_goals
   go_enter Tryz.func65,Tryz.ntmps65
   go_wp2
   go_ret
   exact ⟨by simp[isTermB,h,h2],rfl⟩
 ·go_enter Tryz.func65,Tryz.ntmps65
  go_wp2
  go_ret
  exact ⟨by simp[isTermB];omega,rfl⟩
set_option maxHeartbeats 400000 in
theorem c_spec_l1Is (n:Int) (w:World):Calls Tryz.prog 66 #[.int .i64 n] w fun e w'=>e=.returned (.bool (isTermB n))∧w=w':=by
 by_cases h:0≤n
 ·by_cases h2:n≤8
  all_goals
   go_enter Tryz.func66,Tryz.ntmps66
   go_wp2
   go_ret
   exact ⟨by simp[isTermB,h,h2],rfl⟩
 ·go_enter Tryz.func66,Tryz.ntmps66
  go_wp2
  go_ret
  exact ⟨by simp[isTermB];omega,rfl⟩
set_option maxHeartbeats 400000 in
theorem c_impl_isProgramVar (n:Int) (w:World):Calls Tryz.prog 64 #[.int .i64 n] w fun e w'=>e=.returned (.bool (isProgB n))∧w=w':=by
 by_cases h:1≤n
 ·by_cases h2:n≤4
  all_goals
   go_enter Tryz.func64,Tryz.ntmps64
   go_wp2
   go_ret
   exact ⟨by simp[isProgB,h,h2],rfl⟩
 ·go_enter Tryz.func64,Tryz.ntmps64
  go_wp2
  go_ret
  exact ⟨by simp[isProgB];omega,rfl⟩
set_option maxHeartbeats 400000 in
theorem c_spec_l8Prog (n:Int) (w:World):Calls Tryz.prog 70 #[.int .i64 n] w fun e w'=>e=.returned (.bool (isProgB n))∧w=w':=by
 by_cases h:1≤n
 ·by_cases h2:n≤4
  all_goals
   go_enter Tryz.func70,Tryz.ntmps70
   go_wp2
   go_ret
   exact ⟨by simp[isProgB,h,h2],rfl⟩
 ·go_enter Tryz.func70,Tryz.ntmps70
  go_wp2
  go_ret
  exact ⟨by simp[isProgB];omega,rfl⟩
set_option maxHeartbeats 400000 in
theorem c_impl_FactValid (f:Fct) (w:World):Calls Tryz.prog 49 #[f.val] w fun r w'=>r=.returned (.bool f.valid)∧Below w.heap.size w w':=by
 go_enter Tryz.func49,Tryz.ntmps49
 go_wp2_with (go_at_call 65;refine (c_impl_isTerm _ _).mono ?_;rintro e w' ⟨rfl,rfl⟩)
 all_goals
  go_ret
  exact ⟨ret_bool (by simp[Fct.valid, *]),(Below.refl _ _).alloc (Nat.le_refl _) _⟩
set_option maxHeartbeats 400000 in
theorem c_spec_FactValid (f:Fct) (w:World):Calls Tryz.prog 37 #[f.val] w fun r w'=>r=.returned (.bool f.valid)∧Below w.heap.size w w':=by
 go_enter Tryz.func37,Tryz.ntmps37
 go_wp2_with (go_at_call 66;refine (c_spec_l1Is _ _).mono ?_;rintro e w' ⟨rfl,rfl⟩)
 all_goals
  go_ret
  exact ⟨ret_bool (by simp[Fct.valid, *]),(Below.refl _ _).alloc (Nat.le_refl _) _⟩
set_option maxHeartbeats 400000 in
theorem c_impl_atomValid (x:Atm) (w:World):Calls Tryz.prog 84 #[x.val] w fun r w'=>r=.returned (.bool x.valid)∧Below w.heap.size w w':=by
 go_enter Tryz.func84,Tryz.ntmps84
 go_wp2_with (go_at_call 65;refine (c_impl_isTerm _ _).mono ?_;rintro e w' ⟨rfl,rfl⟩)
 all_goals
  go_ret
  exact ⟨ret_bool (by simp_all [Atm.valid]),(Below.refl _ _).alloc (Nat.le_refl _) _⟩
set_option maxHeartbeats 400000 in
theorem c_spec_l3Atom (x:Atm) (w:World):Calls Tryz.prog 67 #[x.val] w fun r w'=>r=.returned (.bool x.valid)∧Below w.heap.size w w':=by
 go_enter Tryz.func67,Tryz.ntmps67
 go_wp2_with (go_at_call 66;refine (c_spec_l1Is _ _).mono ?_;rintro e w' ⟨rfl,rfl⟩)
 all_goals
  go_ret
  exact ⟨ret_bool (by simp_all [Atm.valid]),(Below.refl _ _).alloc (Nat.le_refl _) _⟩
set_option maxHeartbeats 400000 in
theorem c_impl_FactsValid {lo hi:Nat} (A:Option Addr) (c:Nat) (fs:List Fct) (w:World) (h:FactsV w lo hi A fs):Calls Tryz.prog 83 #[.slice A fs.length c] w fun r w'=>r=.returned (.bool (factsValid fs))∧Below w.heap.size w w':=by
 have hl:=h.le
 go_enter Tryz.func83,Tryz.ntmps83
 by_cases h12:12<fs.length
 ·go_wp2
  go_ret
  exact ⟨ret_bool (by simp[factsValid];omega),Below.refl _ _⟩
 go_wp2
 go_loopw [10] (fun i wr=>∃ k:Nat,k≤fs.length∧i=.int .i64 k∧Hid (fs.all Fct.valid=(fs.drop k).all Fct.valid)∧Below w.heap.size w wr) (fun i _=>fs.length - (intOf i).toNat)
 case atStart=>exact ⟨0,Nat.zero_le _,rfl,by simp[Hid],Below.refl _ _⟩
 case round=>
  obtain ⟨k,hk,rfl,HA,hB⟩:=hrel
  by_cases hlt:k<fs.length
  ·obtain ⟨b,off,rfl,c0,c1,c2⟩:=(h.below hB).at hlt
   go_wp2_with (go_at_call 49;refine (c_impl_FactValid fs[k] _).mono ?_;rintro e w' ⟨rfl,hB2⟩)
   ·go_ret
    refine ⟨ret_bool ?_,bgo (bbox hB _) hB2⟩
    have:=HA.out
    rw[all_drop _ _ _ hlt] at this
    simp_all [factsValid]
   ·go_round
    case rel=>
     refine ⟨k+1,by omega,by go_num,?_,bgo (bbox hB _) hB2⟩
     have:=HA.out
     rw[all_drop _ _ _ hlt] at this
     simp_all [Hid]
    case measure=>simp[intOf];omega
  ·go_wp2
   go_ret
   have e:k=fs.length:=by omega
   refine ⟨ret_bool ?_,hB⟩
   have:=HA.out
   subst e
   simp_all [factsValid]
set_option maxHeartbeats 400000 in
theorem c_spec_FactsValid {lo hi:Nat} (A:Option Addr) (c:Nat) (fs:List Fct) (w:World) (h:FactsV w lo hi A fs):Calls Tryz.prog 68 #[.slice A fs.length c] w fun r w'=>r=.returned (.bool (factsValid fs))∧Below w.heap.size w w':=by
 have hl:=h.le
 go_enter Tryz.func68,Tryz.ntmps68
 go_wp2
 go_loopw [3] (fun i wr=>∃ k:Nat,k≤fs.length∧i=.int .i64 k∧Hid (fs.all Fct.valid=(fs.drop k).all Fct.valid)∧Below w.heap.size w wr) (fun i _=>fs.length - (intOf i).toNat)
 case atStart=>exact ⟨0,Nat.zero_le _,rfl,by simp[Hid],Below.refl _ _⟩
 case round=>
  obtain ⟨k,hk,rfl,HA,hB⟩:=hrel
  by_cases hlt:k<fs.length
  ·obtain ⟨b,off,rfl,c0,c1,c2⟩:=(h.below hB).at hlt
   go_wp2_with (go_at_call 37;refine (c_spec_FactValid fs[k] _).mono ?_;rintro e w' ⟨rfl,hB2⟩)
   ·go_ret
    refine ⟨ret_bool ?_,bgo hB hB2⟩
    have:=HA.out
    rw[all_drop _ _ _ hlt] at this
    simp_all [factsValid]
   ·go_round
    case rel=>
     refine ⟨k+1,by omega,by go_num,?_,bgo hB hB2⟩
     have:=HA.out
     rw[all_drop _ _ _ hlt] at this
     simp_all [Hid]
    case measure=>simp[intOf];omega
  ·go_wp2
   go_ret
   have e:k=fs.length:=by omega
   refine ⟨ret_bool ?_,hB⟩
   have:=HA.out
   subst e
   rw[List.drop_length,List.all_nil] at this
   rw[factsValid,this,Bool.and_true,decide_eq_decide];omega
set_option maxHeartbeats 800000 in
theorem c_impl_AssertionValid {lo hi:Nat} (v:Value) (a:Asn) (w:World) (h:AsnV w lo hi v a):Calls Tryz.prog 51 #[v] w fun r w'=>r=.returned (.bool a.valid)∧Below w.heap.size w w':=by
 obtain ⟨A1,c1,A2,c2,rfl,h1,h2⟩:=h
 have hl1:=h1.le
 have hl2:=h2.le
 go_enter Tryz.func51,Tryz.ntmps51
 by_cases hv:factsValid a.facts=true
 ·by_cases h6:6<a.atoms.length
  ·go_wp2_with (go_at_call 83;refine (c_impl_FactsValid A1 c1 a.facts _ (h1.below (bbox (Below.refl _ w) _))).mono ?_;rintro e w' ⟨rfl,hB2⟩;have hB:=bgo (bbox (Below.refl _ w) _) hB2;obtain ⟨hc,hf⟩:=bcell hB2)
   go_ret
   exact ⟨ret_bool (by simp[Asn.valid];omega),hB⟩
  go_wp2_with (go_at_call 83;refine (c_impl_FactsValid A1 c1 a.facts _ (h1.below (bbox (Below.refl _ w) _))).mono ?_;rintro e w' ⟨rfl,hB2⟩;have hB:=bgo (bbox (Below.refl _ w) _) hB2;obtain ⟨hc,hf⟩:=bcell hB2)
  clear hc hf hB2
  go_loopw [18] (fun i wr=>∃ k:Nat,k≤a.atoms.length∧i=.int .i64 k∧Hid (a.atoms.all Atm.valid=(a.atoms.drop k).all Atm.valid)∧Below w.heap.size w wr) (fun i _=>a.atoms.length - (intOf i).toNat)
  case atStart=>exact ⟨0,Nat.zero_le _,rfl,by simp[Hid],hB⟩
  case round=>
   clear hB
   obtain ⟨k,hk,rfl,HA,hB⟩:=hrel
   by_cases hlt:k<a.atoms.length
   ·obtain ⟨b,off,rfl,c0,c1,c2⟩:=(h2.below hB).at hlt
    go_wp2_with (go_at_call 84;refine (c_impl_atomValid a.atoms[k] _).mono ?_;rintro e w' ⟨rfl,hB2⟩)
    ·go_ret
     refine ⟨ret_bool ?_,bgo (bbox hB _) hB2⟩
     have:=HA.out
     rw[all_drop _ _ _ hlt] at this
     simp_all [Asn.valid]
    ·go_round
     case rel=>
      refine ⟨k+1,by omega,by go_num,?_,bgo (bbox hB _) hB2⟩
      have:=HA.out
      rw[all_drop _ _ _ hlt] at this
      simp_all [Hid]
     case measure=>simp[intOf];omega
   ·go_wp2
    go_ret
    have e:k=a.atoms.length:=by omega
    refine ⟨ret_bool ?_,hB⟩
    have:=HA.out
    rw[e,List.drop_length,List.all_nil] at this
    simp[Asn.valid,hv,this];omega
 ·go_wp2_with (go_at_call 83;refine (c_impl_FactsValid A1 c1 a.facts _ (h1.below (bbox (Below.refl _ w) _))).mono ?_;rintro e w' ⟨rfl,hB2⟩;have hB:=bgo (bbox (Below.refl _ w) _) hB2;obtain ⟨hc,hf⟩:=bcell hB2)
  go_ret
  exact ⟨ret_bool (by simp[Asn.valid,hv]),hB⟩
set_option maxHeartbeats 800000 in
theorem c_spec_AssertionValid {lo hi:Nat} (v:Value) (a:Asn) (w:World) (h:AsnV w lo hi v a):Calls Tryz.prog 39 #[v] w fun r w'=>r=.returned (.bool a.valid)∧Below w.heap.size w w':=by
 obtain ⟨A1,c1,A2,c2,rfl,h1,h2⟩:=h
 have hl1:=h1.le
 have hl2:=h2.le
 go_enter Tryz.func39,Tryz.ntmps39
 go_wp2
 have hb0:=bbox (Below.refl w.heap.size w) (.cells #[.slice A1 a.facts.length c1,.slice A2 a.atoms.length c2] 49)
 obtain ⟨W0,hW0⟩:∃ W0,W0=w.alloc (.cells #[.slice A1 a.facts.length c1,.slice A2 a.atoms.length c2] 49):=⟨_,rfl⟩
 have hcc:∀ o,W0.cell? ⟨w.heap.size,o,none⟩=#[Value.slice A1 a.facts.length c1,.slice A2 a.atoms.length c2][o]?:=by rw[hW0];exact Blk.cell (Blk.new _ _ _)
 have hsz:w.heap.size<W0.heap.size:=by rw[hW0];simp
 rw[←hW0] at hb0 ⊢
 clear hW0
 go_loopw [3] (fun i wr=>∃ k:Nat,k≤a.atoms.length∧i=.int .i64 k∧Hid (a.atoms.all Atm.valid=(a.atoms.drop k).all Atm.valid)∧Below W0.heap.size W0 wr) (fun i _=>a.atoms.length - (intOf i).toNat)
 case atStart=>exact ⟨0,Nat.zero_le _,rfl,by simp[Hid],Below.refl _ _⟩
 case round=>
  obtain ⟨k,hk,rfl,HA,hB1⟩:=hrel
  have hB:=bgo hb0 hB1
  have q0:wr.cell? ⟨w.heap.size,0,none⟩=some (.slice A1 a.facts.length c1):=(hB1.cell hsz).trans (hcc 0)
  have q1:wr.cell? ⟨w.heap.size,1,none⟩=some (.slice A2 a.atoms.length c2):=(hB1.cell hsz).trans (hcc 1)
  by_cases hlt:k<a.atoms.length
  ·obtain ⟨b,off,rfl,c0,c1,c2⟩:=(h2.below hB).at hlt
   go_wp2_with (go_at_call 67;refine (c_spec_l3Atom a.atoms[k] _).mono ?_;rintro e w' ⟨rfl,hB2⟩)
   ·go_ret
    refine ⟨ret_bool ?_,bgo hB hB2⟩
    have:=HA.out
    rw[all_drop _ _ _ hlt] at this
    simp_all [Asn.valid]
   ·go_round
    case rel=>
     refine ⟨k+1,by omega,by go_num,?_,bgo hB1 hB2⟩
     have:=HA.out
     rw[all_drop _ _ _ hlt] at this
     simp_all [Hid]
    case measure=>simp[intOf];omega
  ·obtain rfl:k=a.atoms.length:=by omega
   have:=HA.out
   rw[List.drop_length,List.all_nil] at this
   have HT:=Lib.hid this
   clear this HA
   by_cases h6:a.atoms.length≤6<;>by_cases hv:factsValid a.facts=true
   all_goals
    go_wp2_with (go_at_call 68;refine (c_spec_FactsValid A1 c1 a.facts _ (h1.below hB)).mono ?_;rintro e w' ⟨rfl,hB2⟩;obtain ⟨hc,hf⟩:=bcell hB2;have q3:wr.heap.size > w.heap.size:=Nat.lt_of_lt_of_le hsz hB1.size)
    all_goals
     go_ret
     refine ⟨ret_bool ?_,bgo hB hB2⟩
     rw[Asn.valid,HT.out,Bool.and_true]
     clear hc hf q0 q1 hcc HT
     simp_all
     try omega
end Go.Proofs.YtjbboklnegfohaaGreatDoor
