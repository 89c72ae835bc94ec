/- Contracts: what is valid (impl and spec). -/
import Derived.Test.YtgdfdmjnadnlnaaGreatMLast
set_option linter.unusedSimpArgs false
set_option linter.unusedVariables false
set_option maxRecDepth 100000
set_option maxHeartbeats 25600000
namespace Go.Proofs.YtgdfdmjnadnlnaaGreat
section
open Go Go.RowKit Go.Proofs
theorem c_impl_isTerm (n:Int) (w:World):Calls Tryz.prog 153 #[.int .i64 n] w fun e w'=>e=.returned (.bool (isTermB n))∧w=w':=by
 by_cases h:0≤n
 ·by_cases h2:n≤8
  all_goals
   (go_enter Tryz.func153,Tryz.ntmps153);go_wp2;go_ret;exact ⟨by simp[isTermB,h,h2],rfl⟩
 ·(go_enter Tryz.func153,Tryz.ntmps153);go_wp2;go_ret;exact ⟨by simp[isTermB];omega,rfl⟩
theorem c_spec_l1Is (n:Int) (w:World):Calls Tryz.prog 132 #[.int .i64 n] w fun e w'=>e=.returned (.bool (isTermB n))∧w=w':=by
 by_cases h:0≤n
 ·by_cases h2:n≤8
  all_goals
   (go_enter Tryz.func132,Tryz.ntmps132);go_wp2;go_ret;exact ⟨by simp[isTermB,h,h2],rfl⟩
 ·(go_enter Tryz.func132,Tryz.ntmps132);go_wp2;go_ret;exact ⟨by simp[isTermB];omega,rfl⟩
theorem c_impl_isProgramVar (n:Int) (w:World):Calls Tryz.prog 152 #[.int .i64 n] w fun e w'=>e=.returned (.bool (isProgB n))∧w=w':=by
 by_cases h:1≤n
 ·by_cases h2:n≤4
  all_goals
   (go_enter Tryz.func152,Tryz.ntmps152);go_wp2;go_ret;exact ⟨by simp[isProgB,h,h2],rfl⟩
 ·(go_enter Tryz.func152,Tryz.ntmps152);go_wp2;go_ret;exact ⟨by simp[isProgB];omega,rfl⟩
theorem c_spec_l8Prog (n:Int) (w:World):Calls Tryz.prog 162 #[.int .i64 n] w fun e w'=>e=.returned (.bool (isProgB n))∧w=w':=by
 by_cases h:1≤n
 ·by_cases h2:n≤4
  all_goals
   (go_enter Tryz.func162,Tryz.ntmps162);go_wp2;go_ret;exact ⟨by simp[isProgB,h,h2],rfl⟩
 ·(go_enter Tryz.func162,Tryz.ntmps162);go_wp2;go_ret;exact ⟨by simp[isProgB];omega,rfl⟩
theorem c_impl_FactValid (f:Fct) (w:World):Calls Tryz.prog 154 #[f.val] w fun r w'=>r=.returned (.bool f.valid)∧Below w.heap.size w w':=by
 (go_enter Tryz.func154,Tryz.ntmps154);(go_wp2_with (go_at_call 153;refine (c_impl_isTerm _ _).mono ?_;rintro e w' ⟨rfl,rfl⟩))
 all_goals
  go_ret;exact ⟨ret_bool (by simp[Fct.valid, *]),(Below.refl _ _).alloc (Nat.le_refl _) _⟩
theorem c_spec_FactValid (f:Fct) (w:World):Calls Tryz.prog 188 #[f.val] w fun r w'=>r=.returned (.bool f.valid)∧Below w.heap.size w w':=by
 (go_enter Tryz.func188,Tryz.ntmps188);(go_wp2_with (go_at_call 132;refine (c_spec_l1Is _ _).mono ?_;rintro e w' ⟨rfl,rfl⟩))
 all_goals
  go_ret;exact ⟨ret_bool (by simp[Fct.valid, *]),(Below.refl _ _).alloc (Nat.le_refl _) _⟩
theorem c_impl_atomValid (x:Atm) (w:World):Calls Tryz.prog 115 #[x.val] w fun r w'=>r=.returned (.bool x.valid)∧Below w.heap.size w w':=by
 (go_enter Tryz.func115,Tryz.ntmps115);(go_wp2_with (go_at_call 153;refine (c_impl_isTerm _ _).mono ?_;rintro e w' ⟨rfl,rfl⟩))
 all_goals
  go_ret;exact ⟨ret_bool (by simp_all [Atm.valid]),(Below.refl _ _).alloc (Nat.le_refl _) _⟩
theorem c_spec_l3Atom (x:Atm) (w:World):Calls Tryz.prog 117 #[x.val] w fun r w'=>r=.returned (.bool x.valid)∧Below w.heap.size w w':=by
 (go_enter Tryz.func117,Tryz.ntmps117);(go_wp2_with (go_at_call 132;refine (c_spec_l1Is _ _).mono ?_;rintro e w' ⟨rfl,rfl⟩))
 all_goals
  go_ret;exact ⟨ret_bool (by simp_all [Atm.valid]),(Below.refl _ _).alloc (Nat.le_refl _) _⟩
theorem c_impl_FactsValid {lo hi:Nat} (A:Option Addr) (c:Nat) (fs:List Fct) (w:World) (h:FactsV w lo hi A fs):Calls Tryz.prog 114 #[.slice A fs.length c] w fun r w'=>r=.returned (.bool (factsValid fs))∧Below w.heap.size w w':=by
 have hl:=h.le;(go_enter Tryz.func114,Tryz.ntmps114);by_cases h12:12<fs.length
 ·go_wp2;go_ret;exact ⟨ret_bool (by simp[factsValid];omega),Below.refl _ _⟩
 go_wp2
 go_loopw [10] (fun i wr=>∃ k:Nat,k≤fs.length∧i=.int .i64 k∧aJ (fs.all Fct.valid=(fs.drop k).all Fct.valid)∧Below w.heap.size w wr) (fun i _=>fs.length - (intOf i).toNat)
 case atStart=>exact ⟨0,Nat.zero_le _,rfl,by simp[aJ],Below.refl _ _⟩
 case round=>
  obtain ⟨k,hk,rfl,HA,hB⟩:=hrel;by_cases hlt:k<fs.length
  ·obtain ⟨b,off,rfl,c0,c1,c2⟩:=(h.bz hB).at hlt;(go_wp2_with (go_at_call 154;refine (c_impl_FactValid fs[k] _).mono ?_;rintro e w' ⟨rfl,hB2⟩))
   ·go_ret;refine ⟨ret_bool ?_,bgo (bbox hB _) hB2⟩;have:=HA.o;rw[all_drop _ _ _ hlt] at this
    simp_all [factsValid]
   ·go_round
    case rel=>
     refine ⟨k+1,by omega,by go_num,?_,bgo (bbox hB _) hB2⟩;have:=HA.o;rw[all_drop _ _ _ hlt] at this
     simp_all [aJ]
    case measure=>simp[intOf];omega
  ·go_wp2;go_ret;have e:k=fs.length:=by omega
   refine ⟨ret_bool ?_,hB⟩;have:=HA.o;subst e
   simp_all [factsValid]
theorem c_spec_FactsValid {lo hi:Nat} (A:Option Addr) (c:Nat) (fs:List Fct) (w:World) (h:FactsV w lo hi A fs):Calls Tryz.prog 118 #[.slice A fs.length c] w fun r w'=>r=.returned (.bool (factsValid fs))∧Below w.heap.size w w':=by
 have hl:=h.le;(go_enter Tryz.func118,Tryz.ntmps118);go_wp2
 go_loopw [3] (fun i wr=>∃ k:Nat,k≤fs.length∧i=.int .i64 k∧aJ (fs.all Fct.valid=(fs.drop k).all Fct.valid)∧Below w.heap.size w wr) (fun i _=>fs.length - (intOf i).toNat)
 case atStart=>exact ⟨0,Nat.zero_le _,rfl,by simp[aJ],Below.refl _ _⟩
 case round=>
  obtain ⟨k,hk,rfl,HA,hB⟩:=hrel;by_cases hlt:k<fs.length
  ·obtain ⟨b,off,rfl,c0,c1,c2⟩:=(h.bz hB).at hlt;(go_wp2_with (go_at_call 188;refine (c_spec_FactValid fs[k] _).mono ?_;rintro e w' ⟨rfl,hB2⟩))
   ·go_ret;refine ⟨ret_bool ?_,bgo hB hB2⟩;have:=HA.o;rw[all_drop _ _ _ hlt] at this
    simp_all [factsValid]
   ·go_round
    case rel=>
     refine ⟨k+1,by omega,by go_num,?_,bgo hB hB2⟩;have:=HA.o;rw[all_drop _ _ _ hlt] at this
     simp_all [aJ]
    case measure=>simp[intOf];omega
  ·go_wp2;go_ret;have e:k=fs.length:=by omega
   refine ⟨ret_bool ?_,hB⟩;have:=HA.o;subst e;rw[List.drop_length,List.all_nil] at this;rw[factsValid,this,Bool.and_true,decide_eq_decide];omega
theorem c_impl_AssertionValid {lo hi:Nat} (v:Value) (a:Asn) (w:World) (h:AsnV w lo hi v a):Calls Tryz.prog 53 #[v] w fun r w'=>r=.returned (.bool a.valid)∧Below w.heap.size w w':=by
 obtain ⟨A1,c1,A2,c2,rfl,h1,h2⟩:=h;have hl1:=h1.le;have hl2:=h2.le;(go_enter Tryz.func53,Tryz.ntmps53);by_cases hv:factsValid a.facts=true
 ·by_cases h6:6<a.atoms.length
  ·(go_wp2_with (go_at_call 114;refine (c_impl_FactsValid A1 c1 a.facts _ (h1.bz (bbox (Below.refl _ w) _))).mono ?_;rintro e w' ⟨rfl,hB2⟩;have hB:=bgo (bbox (Below.refl _ w) _) hB2;obtain ⟨hc,hf⟩:=bcell hB2));go_ret;exact ⟨ret_bool (by simp[Asn.valid];omega),hB⟩
  (go_wp2_with (go_at_call 114;refine (c_impl_FactsValid A1 c1 a.facts _ (h1.bz (bbox (Below.refl _ w) _))).mono ?_;rintro e w' ⟨rfl,hB2⟩;have hB:=bgo (bbox (Below.refl _ w) _) hB2;obtain ⟨hc,hf⟩:=bcell hB2));clear hc hf hB2
  go_loopw [18] (fun i wr=>∃ k:Nat,k≤a.atoms.length∧i=.int .i64 k∧aJ (a.atoms.all Atm.valid=(a.atoms.drop k).all Atm.valid)∧Below w.heap.size w wr) (fun i _=>a.atoms.length - (intOf i).toNat)
  case atStart=>exact ⟨0,Nat.zero_le _,rfl,by simp[aJ],hB⟩
  case round=>
   clear hB;obtain ⟨k,hk,rfl,HA,hB⟩:=hrel;by_cases hlt:k<a.atoms.length
   ·obtain ⟨b,off,rfl,c0,c1,c2⟩:=(h2.bz hB).at hlt;(go_wp2_with (go_at_call 115;refine (c_impl_atomValid a.atoms[k] _).mono ?_;rintro e w' ⟨rfl,hB2⟩))
    ·go_ret;refine ⟨ret_bool ?_,bgo (bbox hB _) hB2⟩;have:=HA.o;rw[all_drop _ _ _ hlt] at this
     simp_all [Asn.valid]
    ·go_round
     case rel=>
      refine ⟨k+1,by omega,by go_num,?_,bgo (bbox hB _) hB2⟩;have:=HA.o;rw[all_drop _ _ _ hlt] at this
      simp_all [aJ]
     case measure=>simp[intOf];omega
   ·go_wp2;go_ret;have e:k=a.atoms.length:=by omega
    refine ⟨ret_bool ?_,hB⟩;have:=HA.o;rw[e,List.drop_length,List.all_nil] at this;simp[Asn.valid,hv,this];omega
 ·(go_wp2_with (go_at_call 114;refine (c_impl_FactsValid A1 c1 a.facts _ (h1.bz (bbox (Below.refl _ w) _))).mono ?_;rintro e w' ⟨rfl,hB2⟩;have hB:=bgo (bbox (Below.refl _ w) _) hB2;obtain ⟨hc,hf⟩:=bcell hB2));go_ret;exact ⟨ret_bool (by simp[Asn.valid,hv]),hB⟩
theorem c_spec_AssertionValid {lo hi:Nat} (v:Value) (a:Asn) (w:World) (h:AsnV w lo hi v a):Calls Tryz.prog 57 #[v] w fun r w'=>r=.returned (.bool a.valid)∧Below w.heap.size w w':=by
 obtain ⟨A1,c1,A2,c2,rfl,h1,h2⟩:=h;have hl1:=h1.le;have hl2:=h2.le;(go_enter Tryz.func57,Tryz.ntmps57);go_wp2;have hb0:=bbox (Below.refl w.heap.size w) (.cells #[.slice A1 a.facts.length c1,.slice A2 a.atoms.length c2] 36);obtain ⟨W0,hW0⟩:∃ W0,W0=w.alloc (.cells #[.slice A1 a.facts.length c1,.slice A2 a.atoms.length c2] 36):=⟨_,rfl⟩;have hcc:∀ o,W0.cell? ⟨w.heap.size,o,none⟩=#[Value.slice A1 a.facts.length c1,.slice A2 a.atoms.length c2][o]?:=by rw[hW0];exact Blk.cell (Blk.new _ _ _)
 have hsz:w.heap.size<W0.heap.size:=by rw[hW0];simp
 rw[←hW0] at hb0 ⊢;clear hW0
 go_loopw [3] (fun i wr=>∃ k:Nat,k≤a.atoms.length∧i=.int .i64 k∧aJ (a.atoms.all Atm.valid=(a.atoms.drop k).all Atm.valid)∧Below W0.heap.size W0 wr) (fun i _=>a.atoms.length - (intOf i).toNat)
 case atStart=>exact ⟨0,Nat.zero_le _,rfl,by simp[aJ],Below.refl _ _⟩
 case round=>
  obtain ⟨k,hk,rfl,HA,hB1⟩:=hrel;have hB:=bgo hb0 hB1;have q0:wr.cell? ⟨w.heap.size,0,none⟩=some (.slice A1 a.facts.length c1):=(hB1.cell hsz).trans (hcc 0);have q1:wr.cell? ⟨w.heap.size,1,none⟩=some (.slice A2 a.atoms.length c2):=(hB1.cell hsz).trans (hcc 1);by_cases hlt:k<a.atoms.length
  ·obtain ⟨b,off,rfl,c0,c1,c2⟩:=(h2.bz hB).at hlt;(go_wp2_with (go_at_call 117;refine (c_spec_l3Atom a.atoms[k] _).mono ?_;rintro e w' ⟨rfl,hB2⟩))
   ·go_ret;refine ⟨ret_bool ?_,bgo hB hB2⟩;have:=HA.o;rw[all_drop _ _ _ hlt] at this
    simp_all [Asn.valid]
   ·go_round
    case rel=>
     refine ⟨k+1,by omega,by go_num,?_,bgo hB1 hB2⟩;have:=HA.o;rw[all_drop _ _ _ hlt] at this
     simp_all [aJ]
    case measure=>simp[intOf];omega
  ·obtain rfl:k=a.atoms.length:=by omega
   have:=HA.o;rw[List.drop_length,List.all_nil] at this;have HT:=ax this;clear this HA;by_cases h6:a.atoms.length≤6<;>by_cases hv:factsValid a.facts=true
   all_goals
    go_wp2_with (go_at_call 118;refine (c_spec_FactsValid A1 c1 a.facts _ (h1.bz hB)).mono ?_;rintro e w' ⟨rfl,hB2⟩;obtain ⟨hc,hf⟩:=bcell hB2;have q3:wr.heap.size > w.heap.size:=Nat.lt_of_lt_of_le hsz hB1.size)
    all_goals
     go_ret;refine ⟨ret_bool ?_,bgo hB hB2⟩;rw[Asn.valid,HT.o,Bool.and_true];clear hc hf q0 q1 hcc HT
     simp_all
     try omega
end
end Go.Proofs.YtgdfdmjnadnlnaaGreat
