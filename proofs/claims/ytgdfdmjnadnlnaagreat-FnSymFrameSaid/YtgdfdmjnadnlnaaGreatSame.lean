/- Contracts: equal assertions; impl's normal form. -/
import Derived.Test.YtgdfdmjnadnlnaaGreatTidyJ
import Derived.Test.YtgdfdmjnadnlnaaGreatMModP
set_option linter.unusedSimpArgs false
set_option linter.unusedVariables false
set_option maxRecDepth 100000
set_option maxHeartbeats 25600000
namespace Go.Proofs.YtgdfdmjnadnlnaaGreat
section
open Go Go.RowKit Go.Proofs
attribute [local go_sem ↓] Go.wp_at_zero Go.wp_at_succ
theorem c_sameFact {lo hi lo' hi':Nat} (A A':Option Addr) (c c':Nat) (fs gs:List Fct) (w:World) (h:FactsV w lo hi A fs) (h':FactsV w lo' hi' A' gs):Calls Tryz.prog 170 #[.slice A fs.length c,.slice A' gs.length c'] w fun e w'=>e=.returned (.bool (decide (fs=gs)))∧Below w.heap.size w w':=by
 have hl:=h.le;have hl':=h'.le;have H:=ax h;have H':=ax h';clear h h';by_cases hn:fs.length=gs.length
 ·have hn':((fs.length:Int) != (gs.length:Int))=false:=by simp[hn]
  have HN:=ax hn;clear hn;(go_enter Tryz.func170,Tryz.ntmps170);(go_wp2_with fail);clear hn'
  go_loopw [14] (fun i wr=>∃ k:Nat,k≤fs.length∧i=.int .i64 k∧aJ (decide (fs=gs)=decide (fs.drop k=gs.drop k))∧aJ (Below w.heap.size w wr)) (fun i _=>fs.length - (intOf i).toNat)
  case atStart=>exact ⟨0,Nat.zero_le _,rfl,by show _=_;simp,Below.refl _ _⟩
  case round=>
   obtain ⟨k,hk,rfl,HA,HB⟩:=hrel;by_cases hlt:k<fs.length
   ·have hlt':k<gs.length:=by have:=HN.o;omega
    obtain ⟨b,off,rfl,g0,g1,g2⟩:=(H.o.bz HB.o).at hlt;obtain ⟨b',off',rfl,j0,j1,j2⟩:=(H'.o.bz HB.o).at hlt';have HD:=ax (drop_eq fs gs k hlt hlt');have hki:(k:Int)<(fs.length:Int):=by omega
    have hki':(k:Int)<(gs.length:Int):=by omega
    obtain ⟨f,hf⟩:∃ f,f=fs[k]:=⟨_,rfl⟩;obtain ⟨g,hg⟩:∃ g,g=gs[k]:=⟨_,rfl⟩;rw[←hf] at g0 g1 g2 HD;rw[←hg] at j0 j1 j2 HD;have hbl:=block_lt_of_cell g0;have hbl':=block_lt_of_cell j0;have hB':Below w.heap.size w wr:=HB.o;clear hf hg;by_cases f1:f.eq=g.eq
    ·by_cases f2:f.a=g.a
     ·by_cases f3:f.b=g.b
      ·have E:aJ (decide (f=g)=true):=by show _=_;rw[decide_eq_true_eq];exact (Fct.eq_iff f g).2 ⟨f1,f2,f3⟩
       rw[f1] at g0;rw[f2] at g1;rw[f3] at g2;clear f1 f2 f3;(go_wp2_with fail);(go_quiet (fail));(go_wp2_with fail)
       go_round
       case rel=>exact ⟨k+1,by omega,by go_num,by show _=_;rw[HA.o,HD.o,E.o];rfl,below_drewN (bbox HB.o _) _⟩
       case measure=>simp[intOf];omega
      ·have E:aJ (decide (f=g)=false):=by show _=_;rw[decide_eq_false_iff_not];exact fun e=>f3 ((Fct.eq_iff f g).1 e).2.2
       have e3:(f.b == g.b)=false:=by simpa using f3
       rw[f1] at g0;rw[f2] at g1;clear f1 f2 f3;(go_wp2_with fail);(go_quiet (fail));(go_wp2_with fail);go_ret;exact ⟨ret_bool (by rw[HA.o,HD.o,E.o];rfl),below_drewN (bbox HB.o _) _⟩
     ·have E:aJ (decide (f=g)=false):=by show _=_;rw[decide_eq_false_iff_not];exact fun e=>f2 ((Fct.eq_iff f g).1 e).2.1
      have e2:(f.a == g.a)=false:=by simpa using f2
      rw[f1] at g0;clear f1 f2;(go_wp2_with fail);(go_quiet (fail));(go_wp2_with fail);go_ret;exact ⟨ret_bool (by rw[HA.o,HD.o,E.o];rfl),below_drewN (bbox HB.o _) _⟩
    ·have E:aJ (decide (f=g)=false):=by show _=_;rw[decide_eq_false_iff_not];exact fun e=>f1 ((Fct.eq_iff f g).1 e).1
     have e1:(f.eq == g.eq)=false:=by simpa using f1
     clear f1;(go_wp2_with fail);(go_quiet (fail));(go_wp2_with fail);go_ret;exact ⟨ret_bool (by rw[HA.o,HD.o,E.o];rfl),below_drewN (bbox HB.o _) _⟩
   ·obtain rfl:k=fs.length:=by omega
    have E:aJ (decide (fs=gs)=true):=by show _=_;rw[HA.o,List.drop_length,HN.o,List.drop_length];simp
    (go_wp2_with fail);go_ret;exact ⟨ret_bool E.o.symm,HB.o⟩
 ·have hn':((fs.length:Int) != (gs.length:Int))=true:=by simp;omega
  have E:aJ (decide (fs=gs)=false):=by show _=_;rw[decide_eq_false_iff_not];exact fun e=>hn (by rw[e])
  clear hn;(go_enter Tryz.func170,Tryz.ntmps170);(go_wp2_with fail);go_ret;exact ⟨ret_bool E.o.symm,Below.refl _ _⟩
theorem c_sameAtom {lo hi lo' hi':Nat} (A A':Option Addr) (c c':Nat) (fs gs:List Atm) (w:World) (h:AtomsV w lo hi A fs) (h':AtomsV w lo' hi' A' gs):Calls Tryz.prog 171 #[.slice A fs.length c,.slice A' gs.length c'] w fun e w'=>e=.returned (.bool (decide (fs=gs)))∧Below w.heap.size w w':=by
 have hl:=h.le;have hl':=h'.le;have H:=ax h;have H':=ax h';clear h h';by_cases hn:fs.length=gs.length
 ·have hn':((fs.length:Int) != (gs.length:Int))=false:=by simp[hn]
  have HN:=ax hn;clear hn;(go_enter Tryz.func171,Tryz.ntmps171);(go_wp2_with fail);clear hn'
  go_loopw [14] (fun i wr=>∃ k:Nat,k≤fs.length∧i=.int .i64 k∧aJ (decide (fs=gs)=decide (fs.drop k=gs.drop k))∧aJ (Below w.heap.size w wr)) (fun i _=>fs.length - (intOf i).toNat)
  case atStart=>exact ⟨0,Nat.zero_le _,rfl,by show _=_;simp,Below.refl _ _⟩
  case round=>
   obtain ⟨k,hk,rfl,HA,HB⟩:=hrel;by_cases hlt:k<fs.length
   ·have hlt':k<gs.length:=by have:=HN.o;omega
    obtain ⟨b,off,rfl,g0,g1,g2⟩:=(H.o.bz HB.o).at hlt;obtain ⟨b',off',rfl,j0,j1,j2⟩:=(H'.o.bz HB.o).at hlt';have HD:=ax (drop_eq fs gs k hlt hlt');have hki:(k:Int)<(fs.length:Int):=by omega
    have hki':(k:Int)<(gs.length:Int):=by omega
    obtain ⟨f,hf⟩:∃ f,f=fs[k]:=⟨_,rfl⟩;obtain ⟨g,hg⟩:∃ g,g=gs[k]:=⟨_,rfl⟩;rw[←hf] at g0 g1 g2 HD;rw[←hg] at j0 j1 j2 HD;have hbl:=block_lt_of_cell g0;have hbl':=block_lt_of_cell j0;have hB':Below w.heap.size w wr:=HB.o;clear hf hg;by_cases f1:f.kind=g.kind
    ·by_cases f2:f.a=g.a
     ·by_cases f3:f.b=g.b
      ·have E:aJ (decide (f=g)=true):=by show _=_;rw[decide_eq_true_eq];exact (Atm.eq_iff f g).2 ⟨f1,f2,f3⟩
       rw[f1] at g0;rw[f2] at g1;rw[f3] at g2;clear f1 f2 f3;(go_wp2_with fail);(go_quiet (fail));(go_wp2_with fail)
       go_round
       case rel=>exact ⟨k+1,by omega,by go_num,by show _=_;rw[HA.o,HD.o,E.o];rfl,below_drewN (bbox HB.o _) _⟩
       case measure=>simp[intOf];omega
      ·have E:aJ (decide (f=g)=false):=by show _=_;rw[decide_eq_false_iff_not];exact fun e=>f3 ((Atm.eq_iff f g).1 e).2.2
       have e3:(f.b == g.b)=false:=by simpa using f3
       rw[f1] at g0;rw[f2] at g1;clear f1 f2 f3;(go_wp2_with fail);(go_quiet (fail));(go_wp2_with fail);go_ret;exact ⟨ret_bool (by rw[HA.o,HD.o,E.o];rfl),below_drewN (bbox HB.o _) _⟩
     ·have E:aJ (decide (f=g)=false):=by show _=_;rw[decide_eq_false_iff_not];exact fun e=>f2 ((Atm.eq_iff f g).1 e).2.1
      have e2:(f.a == g.a)=false:=by simpa using f2
      rw[f1] at g0;clear f1 f2;(go_wp2_with fail);(go_quiet (fail));(go_wp2_with fail);go_ret;exact ⟨ret_bool (by rw[HA.o,HD.o,E.o];rfl),below_drewN (bbox HB.o _) _⟩
    ·have E:aJ (decide (f=g)=false):=by show _=_;rw[decide_eq_false_iff_not];exact fun e=>f1 ((Atm.eq_iff f g).1 e).1
     have e1:(f.kind == g.kind)=false:=by simpa using f1
     clear f1;(go_wp2_with fail);(go_quiet (fail));(go_wp2_with fail);go_ret;exact ⟨ret_bool (by rw[HA.o,HD.o,E.o];rfl),below_drewN (bbox HB.o _) _⟩
   ·obtain rfl:k=fs.length:=by omega
    have E:aJ (decide (fs=gs)=true):=by show _=_;rw[HA.o,List.drop_length,HN.o,List.drop_length];simp
    (go_wp2_with fail);go_ret;exact ⟨ret_bool E.o.symm,HB.o⟩
 ·have hn':((fs.length:Int) != (gs.length:Int))=true:=by simp;omega
  have E:aJ (decide (fs=gs)=false):=by show _=_;rw[decide_eq_false_iff_not];exact fun e=>hn (by rw[e])
  clear hn;(go_enter Tryz.func171,Tryz.ntmps171);(go_wp2_with fail);go_ret;exact ⟨ret_bool E.o.symm,Below.refl _ _⟩
theorem c_impl_Same {lo hi lo' hi':Nat} (v v':Value) (a b:Asn) (w:World) (h:AsnV w lo hi v a) (h':AsnV w lo' hi' v' b):Calls Tryz.prog 103 #[v,v'] w fun e w'=>e=.returned (.bool (decide (a=b)))∧Below w.heap.size w w':=by
 obtain ⟨A1,c1,A2,c2,rfl,h1,h2⟩:=h;obtain ⟨A3,c3,A4,c4,rfl,h3,h4⟩:=h';have H1:=ax h1;have H2:=ax h2;have H3:=ax h3;have H4:=ax h4;have HE:=ax (Asn.eq_iff a b);clear h1 h2 h3 h4;(go_enter Tryz.func103,Tryz.ntmps103);have k0:Blk ((w.alloc (.cells #[.slice A1 a.facts.length c1,.slice A2 a.atoms.length c2] 36)).alloc (.cells #[.slice A3 b.facts.length c3,.slice A4 b.atoms.length c4] 36)) w.heap.size 36 #[.slice A1 a.facts.length c1,.slice A2 a.atoms.length c2]:=blks;have k1:Blk ((w.alloc (.cells #[.slice A1 a.facts.length c1,.slice A2 a.atoms.length c2] 36)).alloc (.cells #[.slice A3 b.facts.length c3,.slice A4 b.atoms.length c4] 36)) (w.heap.size+1) 36 #[.slice A3 b.facts.length c3,.slice A4 b.atoms.length c4]:=blks;(go_wp2_with fail);refine (c_sameFact _ _ _ _ a.facts b.facts _ (H1.o.bz bel) (H3.o.bz bel)).mono ?_;rintro e w1 ⟨rfl,hB1⟩;have hB:=bgo (w:=w) bel hB1;replace k0:=k0.nz hB1;replace k1:=k1.nz hB1;(replace qk0:=k0.z;replace qk1:=k1.z);clear hB1;cases hf:decide (a.facts=b.facts)
 ·have E:aJ (decide (a=b)=false):=by show _=_;rw[decide_eq_false_iff_not,HE.o];exact fun e=>by rw[decide_eq_false_iff_not] at hf;exact hf e.1
  clear hf;(go_wp2_with fail);go_ret;exact ⟨ret_bool E.o.symm,hB⟩
 ·have E:aJ (decide (a=b)=decide (a.atoms=b.atoms)):=by show _=_;rw[decide_eq_decide,HE.o];rw[decide_eq_true_eq] at hf;exact ⟨fun e=>e.2,fun e=>⟨hf,e⟩⟩
  clear hf;(go_wp2_with fail);refine (c_sameAtom _ _ _ _ a.atoms b.atoms _ (H2.o.bz hB) (H4.o.bz hB)).mono ?_;rintro e w2 ⟨rfl,hB2⟩;(go_wp2_with fail);go_ret;exact ⟨ret_bool E.o.symm,bgo hB hB2⟩
end
end Go.Proofs.YtgdfdmjnadnlnaaGreat
