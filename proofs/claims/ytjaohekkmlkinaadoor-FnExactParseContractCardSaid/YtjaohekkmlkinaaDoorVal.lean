/- Contracts: what is valid (impl and spec). -/
import Derived.Test.YtjaohekkmlkinaaDoorProg
import Derived.Test.YtjaohekkmlkinaaDoorDef
set_option linter.unusedSimpArgs false
set_option linter.unusedVariables false
namespace Go.Proofs.YtjaohekkmlkinaaDoor
open Go Go.RowKit Go.Proofs
set_option maxHeartbeats 400000 in
theorem c_impl_isTerm (n:Int) (w:World):Calls Tryd.prog 91 #[.int .i64 n] w fun e w'=>e=.returned (.bool (isTermB n))∧w=w':=by
 by_cases h:0≤n
 ·by_cases h2:n≤8
  all_goals
   go_enter Tryd.func91,Tryd.ntmps91
   go_wp2
   go_ret
   exact ⟨by simp[isTermB,h,h2],rfl⟩
 ·go_enter Tryd.func91,Tryd.ntmps91
  go_wp2
  go_ret
  exact ⟨by simp[isTermB];omega,rfl⟩
set_option maxHeartbeats 400000 in
theorem c_spec_l1Is (n:Int) (w:World):Calls Tryd.prog 84 #[.int .i64 n] w fun e w'=>e=.returned (.bool (isTermB n))∧w=w':=by
 by_cases h:0≤n
 ·by_cases h2:n≤8
  all_goals
   go_enter Tryd.func84,Tryd.ntmps84
   go_wp2
   go_ret
   exact ⟨by simp[isTermB,h,h2],rfl⟩
 ·go_enter Tryd.func84,Tryd.ntmps84
  go_wp2
  go_ret
  exact ⟨by simp[isTermB];omega,rfl⟩
set_option maxHeartbeats 400000 in
theorem c_impl_isProgramVar (n:Int) (w:World):Calls Tryd.prog 76 #[.int .i64 n] w fun e w'=>e=.returned (.bool (isProgB n))∧w=w':=by
 by_cases h:1≤n
 ·by_cases h2:n≤4
  all_goals
   go_enter Tryd.func76,Tryd.ntmps76
   go_wp2
   go_ret
   exact ⟨by simp[isProgB,h,h2],rfl⟩
 ·go_enter Tryd.func76,Tryd.ntmps76
  go_wp2
  go_ret
  exact ⟨by simp[isProgB];omega,rfl⟩
set_option maxHeartbeats 400000 in
theorem c_spec_l8Prog (n:Int) (w:World):Calls Tryd.prog 81 #[.int .i64 n] w fun e w'=>e=.returned (.bool (isProgB n))∧w=w':=by
 by_cases h:1≤n
 ·by_cases h2:n≤4
  all_goals
   go_enter Tryd.func81,Tryd.ntmps81
   go_wp2
   go_ret
   exact ⟨by simp[isProgB,h,h2],rfl⟩
 ·go_enter Tryd.func81,Tryd.ntmps81
  go_wp2
  go_ret
  exact ⟨by simp[isProgB];omega,rfl⟩
set_option maxHeartbeats 400000 in
theorem c_impl_FactValid (f:Fct) (w:World):Calls Tryd.prog 116 #[f.val] w fun r w'=>r=.returned (.bool f.valid)∧Below w.heap.size w w':=by
 go_enter Tryd.func116,Tryd.ntmps116
 go_wp2_with (go_at_call 91;refine (c_impl_isTerm _ _).mono ?_;rintro e w' ⟨rfl,rfl⟩)
 all_goals
  go_ret
  exact ⟨ret_bool (by simp[Fct.valid, *]),(Below.refl _ _).alloc (Nat.le_refl _) _⟩
set_option maxHeartbeats 400000 in
theorem c_spec_FactValid (f:Fct) (w:World):Calls Tryd.prog 95 #[f.val] w fun r w'=>r=.returned (.bool f.valid)∧Below w.heap.size w w':=by
 go_enter Tryd.func95,Tryd.ntmps95
 go_wp2_with (go_at_call 84;refine (c_spec_l1Is _ _).mono ?_;rintro e w' ⟨rfl,rfl⟩)
 all_goals
  go_ret
  exact ⟨ret_bool (by simp[Fct.valid, *]),(Below.refl _ _).alloc (Nat.le_refl _) _⟩
set_option maxHeartbeats 400000 in
theorem c_impl_atomValid (x:Atm) (w:World):Calls Tryd.prog 109 #[x.val] w fun r w'=>r=.returned (.bool x.valid)∧Below w.heap.size w w':=by
 go_enter Tryd.func109,Tryd.ntmps109
 go_wp2_with (go_at_call 91;refine (c_impl_isTerm _ _).mono ?_;rintro e w' ⟨rfl,rfl⟩)
 all_goals
  go_ret
  exact ⟨ret_bool (by simp_all [Atm.valid]),(Below.refl _ _).alloc (Nat.le_refl _) _⟩
set_option maxHeartbeats 400000 in
theorem c_spec_l3Atom (x:Atm) (w:World):Calls Tryd.prog 111 #[x.val] w fun r w'=>r=.returned (.bool x.valid)∧Below w.heap.size w w':=by
 go_enter Tryd.func111,Tryd.ntmps111
 go_wp2_with (go_at_call 84;refine (c_spec_l1Is _ _).mono ?_;rintro e w' ⟨rfl,rfl⟩)
 all_goals
  go_ret
  exact ⟨ret_bool (by simp_all [Atm.valid]),(Below.refl _ _).alloc (Nat.le_refl _) _⟩
set_option maxHeartbeats 400000 in
theorem c_impl_FactsValid {lo hi:Nat} (A:Option Addr) (c:Nat) (fs:List Fct) (w:World) (h:FactsV w lo hi A fs):Calls Tryd.prog 108 #[.slice A fs.length c] w fun r w'=>r=.returned (.bool (factsValid fs))∧Below w.heap.size w w':=by
 have hl:=h.le
 go_enter Tryd.func108,Tryd.ntmps108
 by_cases h12:12<fs.length
 ·go_wp2
  go_ret
  exact ⟨ret_bool (by simp[factsValid];omega),Below.refl _ _⟩
 go_wp2
 go_loopw [10] (fun i wr=>∃ k:Nat,k≤fs.length∧i=.int .i64 k∧Hid (fs.all Fct.valid=(fs.drop k).all Fct.valid)∧Below w.heap.size w wr) (fun i _=>fs.length - (intOf i).toNat)
 case atStart=>exact ⟨0,Nat.zero_le _,rfl,by simp[Hid],Below.refl _ _⟩
 case round=>
  obtain ⟨k,hk,rfl,HA,hB⟩:=hrel
  by_cases hlt:k<fs.length
  ·obtain ⟨b,off,rfl,c0,c1,c2⟩:=(h.below hB).at hlt
   go_wp2_with (go_at_call 116;refine (c_impl_FactValid fs[k] _).mono ?_;rintro e w' ⟨rfl,hB2⟩)
   ·go_ret
    refine ⟨ret_bool ?_,bgo (bbox hB _) hB2⟩
    have:=HA.out
    rw[all_drop _ _ _ hlt] at this
    simp_all [factsValid]
   ·go_round
    case rel=>
     refine ⟨k+1,by omega,by go_num,?_,bgo (bbox hB _) hB2⟩
     have:=HA.out
     rw[all_drop _ _ _ hlt] at this
     simp_all [Hid]
    case measure=>simp[intOf];omega
  ·go_wp2
   go_ret
   have e:k=fs.length:=by omega
   refine ⟨ret_bool ?_,hB⟩
   have:=HA.out
   subst e
   simp_all [factsValid]
set_option maxHeartbeats 400000 in
theorem c_spec_FactsValid {lo hi:Nat} (A:Option Addr) (c:Nat) (fs:List Fct) (w:World) (h:FactsV w lo hi A fs):Calls Tryd.prog 112 #[.slice A fs.length c] w fun r w'=>r=.returned (.bool (factsValid fs))∧Below w.heap.size w w':=by
 have hl:=h.le
 go_enter Tryd.func112,Tryd.ntmps112
 go_wp2
 go_loopw [3] (fun i wr=>∃ k:Nat,k≤fs.length∧i=.int .i64 k∧Hid (fs.all Fct.valid=(fs.drop k).all Fct.valid)∧Below w.heap.size w wr) (fun i _=>fs.length - (intOf i).toNat)
 case atStart=>exact ⟨0,Nat.zero_le _,rfl,by simp[Hid],Below.refl _ _⟩
 case round=>
  obtain ⟨k,hk,rfl,HA,hB⟩:=hrel
  by_cases hlt:k<fs.length
  ·obtain ⟨b,off,rfl,c0,c1,c2⟩:=(h.below hB).at hlt
   go_wp2_with (go_at_call 95;refine (c_spec_FactValid fs[k] _).mono ?_;rintro e w' ⟨rfl,hB2⟩)
   ·go_ret
    refine ⟨ret_bool ?_,bgo hB hB2⟩
    have:=HA.out
    rw[all_drop _ _ _ hlt] at this
    simp_all [factsValid]
   ·go_round
    case rel=>
     refine ⟨k+1,by omega,by go_num,?_,bgo hB hB2⟩
     have:=HA.out
     rw[all_drop _ _ _ hlt] at this
     simp_all [Hid]
    case measure=>simp[intOf];omega
  ·go_wp2
   go_ret
   have e:k=fs.length:=by omega
   refine ⟨ret_bool ?_,hB⟩
   have:=HA.out
   subst e
   rw[List.drop_length,List.all_nil] at this
   rw[factsValid,this,Bool.and_true,decide_eq_decide];omega
set_option maxHeartbeats 800000 in
theorem c_impl_AssertionValid {lo hi:Nat} (v:Value) (a:Asn) (w:World) (h:AsnV w lo hi v a):Calls Tryd.prog 75 #[v] w fun r w'=>r=.returned (.bool a.valid)∧Below w.heap.size w w':=by
 obtain ⟨A1,c1,A2,c2,rfl,h1,h2⟩:=h
 have hl1:=h1.le
 have hl2:=h2.le
 go_enter Tryd.func75,Tryd.ntmps75
 by_cases hv:factsValid a.facts=true
 ·by_cases h6:6<a.atoms.length
  ·go_wp2_with (go_at_call 108;refine (c_impl_FactsValid A1 c1 a.facts _ (h1.below (bbox (Below.refl _ w) _))).mono ?_;rintro e w' ⟨rfl,hB2⟩;have hB:=bgo (bbox (Below.refl _ w) _) hB2;obtain ⟨hc,hf⟩:=bcell hB2)
   go_ret
   exact ⟨ret_bool (by simp[Asn.valid];omega),hB⟩
  go_wp2_with (go_at_call 108;refine (c_impl_FactsValid A1 c1 a.facts _ (h1.below (bbox (Below.refl _ w) _))).mono ?_;rintro e w' ⟨rfl,hB2⟩;have hB:=bgo (bbox (Below.refl _ w) _) hB2;obtain ⟨hc,hf⟩:=bcell hB2)
  clear hc hf hB2
  go_loopw [18] (fun i wr=>∃ k:Nat,k≤a.atoms.length∧i=.int .i64 k∧Hid (a.atoms.all Atm.valid=(a.atoms.drop k).all Atm.valid)∧Below w.heap.size w wr) (fun i _=>a.atoms.length - (intOf i).toNat)
  case atStart=>exact ⟨0,Nat.zero_le _,rfl,by simp[Hid],hB⟩
  case round=>
   clear hB
   obtain ⟨k,hk,rfl,HA,hB⟩:=hrel
   by_cases hlt:k<a.atoms.length
   ·obtain ⟨b,off,rfl,c0,c1,c2⟩:=(h2.below hB).at hlt
    go_wp2_with (go_at_call 109;refine (c_impl_atomValid a.atoms[k] _).mono ?_;rintro e w' ⟨rfl,hB2⟩)
    ·go_ret
     refine ⟨ret_bool ?_,bgo (bbox hB _) hB2⟩
     have:=HA.out
     rw[all_drop _ _ _ hlt] at this
     simp_all [Asn.valid]
    ·go_round
     case rel=>
      refine ⟨k+1,by omega,by go_num,?_,bgo (bbox hB _) hB2⟩
      have:=HA.out
      rw[all_drop _ _ _ hlt] at this
      simp_all [Hid]
     case measure=>simp[intOf];omega
   ·go_wp2
    go_ret
    have e:k=a.atoms.length:=by omega
    refine ⟨ret_bool ?_,hB⟩
    have:=HA.out
    rw[e,List.drop_length,List.all_nil] at this
    simp[Asn.valid,hv,this];omega
 ·go_wp2_with (go_at_call 108;refine (c_impl_FactsValid A1 c1 a.facts _ (h1.below (bbox (Below.refl _ w) _))).mono ?_;rintro e w' ⟨rfl,hB2⟩;have hB:=bgo (bbox (Below.refl _ w) _) hB2;obtain ⟨hc,hf⟩:=bcell hB2)
  go_ret
  exact ⟨ret_bool (by simp[Asn.valid,hv]),hB⟩
set_option maxHeartbeats 800000 in
theorem c_spec_AssertionValid {lo hi:Nat} (v:Value) (a:Asn) (w:World) (h:AsnV w lo hi v a):Calls Tryd.prog 82 #[v] w fun r w'=>r=.returned (.bool a.valid)∧Below w.heap.size w w':=by
 obtain ⟨A1,c1,A2,c2,rfl,h1,h2⟩:=h
 have hl1:=h1.le
 have hl2:=h2.le
 go_enter Tryd.func82,Tryd.ntmps82
 go_wp2
 have hb0:=bbox (Below.refl w.heap.size w) (.cells #[.slice A1 a.facts.length c1,.slice A2 a.atoms.length c2] 31)
 obtain ⟨W0,hW0⟩:∃ W0,W0=w.alloc (.cells #[.slice A1 a.facts.length c1,.slice A2 a.atoms.length c2] 31):=⟨_,rfl⟩
 have hcc:∀ o,W0.cell? ⟨w.heap.size,o,none⟩=#[Value.slice A1 a.facts.length c1,.slice A2 a.atoms.length c2][o]?:=by rw[hW0];exact Blk.cell (Blk.new _ _ _)
 have hsz:w.heap.size<W0.heap.size:=by rw[hW0];simp
 rw[←hW0] at hb0 ⊢
 clear hW0
 go_loopw [3] (fun i wr=>∃ k:Nat,k≤a.atoms.length∧i=.int .i64 k∧Hid (a.atoms.all Atm.valid=(a.atoms.drop k).all Atm.valid)∧Below W0.heap.size W0 wr) (fun i _=>a.atoms.length - (intOf i).toNat)
 case atStart=>exact ⟨0,Nat.zero_le _,rfl,by simp[Hid],Below.refl _ _⟩
 case round=>
  obtain ⟨k,hk,rfl,HA,hB1⟩:=hrel
  have hB:=bgo hb0 hB1
  have q0:wr.cell? ⟨w.heap.size,0,none⟩=some (.slice A1 a.facts.length c1):=(hB1.cell hsz).trans (hcc 0)
  have q1:wr.cell? ⟨w.heap.size,1,none⟩=some (.slice A2 a.atoms.length c2):=(hB1.cell hsz).trans (hcc 1)
  by_cases hlt:k<a.atoms.length
  ·obtain ⟨b,off,rfl,c0,c1,c2⟩:=(h2.below hB).at hlt
   go_wp2_with (go_at_call 111;refine (c_spec_l3Atom a.atoms[k] _).mono ?_;rintro e w' ⟨rfl,hB2⟩)
   ·go_ret
    refine ⟨ret_bool ?_,bgo hB hB2⟩
    have:=HA.out
    rw[all_drop _ _ _ hlt] at this
    simp_all [Asn.valid]
   ·go_round
    case rel=>
     refine ⟨k+1,by omega,by go_num,?_,bgo hB1 hB2⟩
     have:=HA.out
     rw[all_drop _ _ _ hlt] at this
     simp_all [Hid]
    case measure=>simp[intOf];omega
  ·obtain rfl:k=a.atoms.length:=by omega
   have:=HA.out
   rw[List.drop_length,List.all_nil] at this
   have HT:=Lib.hid this
   clear this HA
   by_cases h6:a.atoms.length≤6<;>by_cases hv:factsValid a.facts=true
   all_goals
    go_wp2_with (go_at_call 112;refine (c_spec_FactsValid A1 c1 a.facts _ (h1.below hB)).mono ?_;rintro e w' ⟨rfl,hB2⟩;obtain ⟨hc,hf⟩:=bcell hB2;have q3:wr.heap.size > w.heap.size:=Nat.lt_of_lt_of_le hsz hB1.size)
    all_goals
     go_ret
     refine ⟨ret_bool ?_,bgo hB hB2⟩
     rw[Asn.valid,HT.out,Bool.and_true]
     clear hc hf q0 q1 hcc HT
     simp_all
     try omega
theorem changes_drop (l:List Int) (last:Int) (k:Nat) (hk:k<l.length):changesFrom last (l.drop k)=(isProgB l[k]&&decide (last<l[k])&&changesFrom l[k] (l.drop (k+1))):=by
 rw[List.drop_eq_getElem_cons hk];rfl
set_option maxHeartbeats 800000 in
theorem c_impl_ContractValid {lo hi:Nat} (v:Value) (k0:Ctr) (w:World) (h:CtrV w lo hi v k0):Calls Tryd.prog 38 #[v] w fun r w'=>r=.returned (.bool k0.valid)∧Below w.heap.size w w':=by
 obtain ⟨a1,a2,a3,a4,A5,c5,rfl,h1,h2,h3⟩:=h
 have hl3:=h3.le
 go_enter Tryd.func38,Tryd.ntmps38
 have hb0:=bbox (Below.refl w.heap.size w) (.cells #[a1,a2,a3,a4,.slice A5 k0.changes.length c5] 34)
 by_cases hv1:k0.pre.valid=true
 ·by_cases hv2:k0.post.valid=true
  ·go_wp2_with fail
   refine (c_impl_AssertionValid _ k0.pre _ (h1.below hb0)).mono ?_
   rintro e w1 ⟨rfl,hB1⟩
   have hK:=(Blk.new w _ _).next hB1
   have hc:=hK.cell
   go_wp2_with fail
   refine (c_impl_AssertionValid _ k0.post _ (h2.below (bgo hb0 hB1))).mono ?_
   rintro e w2 ⟨rfl,hB2⟩
   have hc2:=(hK.next hB2).cell
   have hB:=bgo (bgo hb0 hB1) hB2
   clear hK
   go_wp2_with fail
   clear hc hc2 hB1 hB2 hb0
   go_loopw [3,19] (fun l i wr=>∃ (k:Nat) (last:Int),k≤k0.changes.length∧i=.int .i64 k∧l=.int .i64 last∧Hid (changesFrom 0 k0.changes=changesFrom last (k0.changes.drop k))∧Below w.heap.size w wr) (fun _ i _=>k0.changes.length - (intOf i).toNat)
   case atStart=>exact ⟨0,0,Nat.zero_le _,rfl,rfl,by simp[Hid],hB⟩
   case round=>
    clear hB
    obtain ⟨k,last,hk,rfl,rfl,HA,hB⟩:=hrel
    by_cases hlt:k<k0.changes.length
    ·obtain ⟨b,off,rfl,c0⟩:=(h3.below hB).at hlt
     have HD:=Lib.hid (changes_drop _ last _ hlt)
     by_cases hp:isProgB k0.changes[k]=true
     ·by_cases hl:last<k0.changes[k]
      all_goals
       go_wp2_with (go_at_call 76;refine (c_impl_isProgramVar k0.changes[k] _).mono ?_;rintro e w' ⟨rfl,rfl⟩)
      ·go_round
       case rel=>
        refine ⟨k+1,_,by omega,by go_num,rfl,?_,hB⟩
        show _=_
        rw[HA.out,HD.out,hp];simp[hl]
       case measure=>simp[intOf];omega
      ·go_ret
       exact ⟨ret_bool (by rw[Ctr.valid,HA.out,HD.out,decide_eq_false (show ¬last<k0.changes[k] by omega)];simp),hB⟩
     ·go_wp2_with (go_at_call 76;refine (c_impl_isProgramVar k0.changes[k] _).mono ?_;rintro e w' ⟨rfl,rfl⟩)
      go_ret
      exact ⟨ret_bool (by rw[Ctr.valid,HA.out,HD.out];simp[hp]),hB⟩
    ·go_wp2
     go_ret
     have e:k=k0.changes.length:=by omega
     refine ⟨ret_bool ?_,hB⟩
     rw[Ctr.valid,HA.out,e,List.drop_length,hv1,hv2];rfl
  ·go_wp2_with fail
   refine (c_impl_AssertionValid _ k0.pre _ (h1.below hb0)).mono ?_
   rintro e w1 ⟨rfl,hB1⟩
   have hK:=(Blk.new w _ _).next hB1
   have hc:=hK.cell
   go_wp2_with fail
   refine (c_impl_AssertionValid _ k0.post _ (h2.below (bgo hb0 hB1))).mono ?_
   rintro e w2 ⟨rfl,hB2⟩
   clear hK
   go_wp2_with fail
   go_ret
   exact ⟨ret_bool (by simp[Ctr.valid,hv2]),bgo (bgo hb0 hB1) hB2⟩
 ·go_wp2_with fail
  refine (c_impl_AssertionValid _ k0.pre _ (h1.below hb0)).mono ?_
  rintro e w1 ⟨rfl,hB1⟩
  go_wp2_with fail
  go_ret
  exact ⟨ret_bool (by simp[Ctr.valid,hv1]),bgo hb0 hB1⟩
def prevOf (l:List Int) (k:Nat):Int:=if k=0 then 0 else (l[k-1]?).getD 0
theorem isProgB_pos {x:Int} (h:isProgB x=true):0<x:=by simp[isProgB] at h;omega
set_option maxHeartbeats 1600000 in
theorem c_spec_ContractValid {lo hi:Nat} (v:Value) (k0:Ctr) (w:World) (h:CtrV w lo hi v k0):Calls Tryd.prog 47 #[v] w fun r w'=>r=.returned (.bool k0.valid)∧Below w.heap.size w w':=by
 obtain ⟨a1,a2,a3,a4,A5,c5,rfl,h1,h2,h3⟩:=h
 have hl3:=h3.le
 go_enter Tryd.func47,Tryd.ntmps47
 go_wp2
 have hb0:=bbox (Below.refl w.heap.size w) (.cells #[a1,a2,a3,a4,.slice A5 k0.changes.length c5] 34)
 have hK0:=Blk.new w 34 #[a1,a2,a3,a4,.slice A5 k0.changes.length c5]
 obtain ⟨W0,hW0⟩:∃ W0,W0=w.alloc (.cells #[a1,a2,a3,a4,.slice A5 k0.changes.length c5] 34):=⟨_,rfl⟩
 rw[←hW0] at hb0 hK0 ⊢
 clear hW0
 go_loopw [3] (fun i wr=>∃ k:Nat,k≤k0.changes.length∧i=.int .i64 k∧Hid (changesFrom 0 k0.changes=changesFrom (prevOf k0.changes k) (k0.changes.drop k))∧Below W0.heap.size W0 wr) (fun i _=>k0.changes.length - (intOf i).toNat)
 case atStart=>exact ⟨0,Nat.zero_le _,rfl,by simp[Hid,prevOf],Below.refl _ _⟩
 case round=>
  obtain ⟨k,hk,rfl,HA,hB1⟩:=hrel
  have hB:=bgo hb0 hB1
  have hK:=hK0.next hB1
  have q:=hK.cell
  clear hK0
  by_cases hlt:k<k0.changes.length
  ·obtain ⟨b,off,rfl,c0⟩:=(h3.below hB).at hlt
   have HD:=Lib.hid (changes_drop _ (prevOf k0.changes k) _ hlt)
   have c4:0<k→wr.cell? ⟨b,off+(k - 1),none⟩=some (.int .i64 ((k0.changes[k-1]?).getD 0)):=by
    intro h0
    obtain ⟨b',off',e,c0'⟩:=(h3.below hB).at (show k - 1<k0.changes.length by omega)
    simp only[Option.some.injEq,Addr.mk.injEq,and_true] at e
    obtain ⟨rfl,rfl⟩:=e
    rw[c0',List.getElem?_eq_getElem (by omega)];rfl
   cases hp:isProgB k0.changes[k]
   ·clear c4
    go_wp2_with fail
    go_quiet ((go_at_call 81;exact Calls.quiet_of_same ((c_spec_l8Prog k0.changes[k] _).mono fun _ _ ⟨a,b⟩=>⟨a,b.symm⟩)))
    go_wp2
    go_ret
    exact ⟨ret_bool (by rw[Ctr.valid,HA.out,HD.out];simp[hp]),below_drewN hB _⟩
   ·cases k with
    | zero=>
     clear c4
     simp only[Nat.add_zero] at c0
     go_wp2_with fail
     go_quiet ((go_at_call 81;exact Calls.quiet_of_same ((c_spec_l8Prog k0.changes[0] _).mono fun _ _ ⟨a,b⟩=>⟨a,b.symm⟩)))
     go_wp2
     go_round
     case rel=>
      refine ⟨1,by omega,by go_num,?_,below_drewN hB1 _⟩
      show _=_
      rw[HA.out,HD.out,hp,decide_eq_true (by simpa[prevOf] using isProgB_pos hp)]
      simp[prevOf,List.getElem?_eq_getElem hlt]
     case measure=>simp[intOf];omega
    | succ j=>
     have c5:=c4 (by omega)
     clear c4
     simp only[Nat.add_sub_cancel] at c5
     have hj:j<k0.changes.length:=by omega
     rw[List.getElem?_eq_getElem hj,Option.getD_some] at c5
     have s1:IntKind.i64.wrap ((j:Int)+1 - 1)=(j:Int):=by rw[IntWalk.i64_in _ (by omega)];omega
     have s2:((j:Int)+1 - 1)=(j:Int):=by omega
     by_cases hl:k0.changes[j]<k0.changes[j+1]
     all_goals
      go_wp2_with fail
      go_quiet ((go_at_call 81;exact Calls.quiet_of_same ((c_spec_l8Prog k0.changes[j+1] _).mono fun _ _ ⟨a,b⟩=>⟨a,b.symm⟩)))
     ·go_wp2
      go_round
      case rel=>
       refine ⟨j+1+1,by omega,by go_num,?_,below_drewN hB1 _⟩
       show _=_
       rw[HA.out,HD.out,hp,decide_eq_true (by simpa[prevOf,List.getElem?_eq_getElem hj] using hl)]
       simp[prevOf,List.getElem?_eq_getElem hlt]
      case measure=>simp[intOf];omega
     ·go_wp2
      go_ret
      exact ⟨ret_bool (by rw[Ctr.valid,HA.out,HD.out,decide_eq_false (by simpa[prevOf,List.getElem?_eq_getElem hj] using hl)];simp),below_drewN hB _⟩
  ·obtain rfl:k=k0.changes.length:=by omega
   have HT:=Lib.hid (show changesFrom 0 k0.changes=true by rw[HA.out,List.drop_length];rfl)
   clear HA
   cases hv1:k0.pre.valid
   ·go_wp2_with fail
    refine (c_spec_AssertionValid _ k0.pre _ (h1.below hB)).mono ?_
    rintro e w1 ⟨rfl,hB2⟩
    go_wp2_with fail
    go_ret
    exact ⟨ret_bool (by simp[Ctr.valid,hv1]),bgo hB hB2⟩
   ·go_wp2_with fail
    refine (c_spec_AssertionValid _ k0.pre _ (h1.below hB)).mono ?_
    rintro e w1 ⟨rfl,hB2⟩
    have q2:=(hK.next hB2).cell
    go_wp2_with fail
    refine (c_spec_AssertionValid _ k0.post _ (h2.below (bgo hB hB2))).mono ?_
    rintro e w2 ⟨rfl,hB3⟩
    go_wp2_with fail
    go_ret
    exact ⟨ret_bool (by rw[Ctr.valid,HT.out];simp[hv1]),bgo (bgo hB hB2) hB3⟩
end Go.Proofs.YtjaohekkmlkinaaDoor
