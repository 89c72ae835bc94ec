/- Sets of terms as flags: the spec's contracts. -/
import Derived.Test.YtjjokmlmknllhaaMIntSS
import Derived.Test.YtjjokmlmknllhaaHolds
import Derived.Test.YtjjokmlmknllhaaMAppX
import Derived.Laws.CopyOwn
import Derived.Test.YtjjokmlmknllhaaMDrawT
set_option linter.unusedSimpArgs false
set_option linter.unusedVariables false
namespace Go.Proofs.Ytjjokmlmknllhaa
open Go Go.RowKit Go.Proofs
attribute [local go_sem ↓] Go.wp_at_zero Go.wp_at_succ
theorem termsL_ok {a:Asn} (h:a.valid=true):∀ t∈termsL a,isTermB t=true:=by
 simp only[Asn.valid,factsValid,Bool.and_eq_true,List.all_eq_true] at h
 intro t ht
 simp only[termsL,List.mem_append,List.mem_flatMap] at ht
 rcases ht with ⟨f,hf,ht⟩|⟨f,hf,ht⟩
 ·have:=h.1.2 f hf
  simp only[Fct.valid,Bool.and_eq_true] at this
  simp only[factT,List.mem_cons,List.not_mem_nil,or_false] at ht
  rcases ht with rfl|rfl
  ·exact this.1
  ·exact this.2
 ·have:=h.2.2 f hf
  simp only[Atm.valid,Bool.and_eq_true] at this
  simp only[atomT,List.mem_cons,List.not_mem_nil,or_false] at ht
  rcases ht with rfl|rfl
  ·exact this.1.2
  ·exact this.2
theorem termsL_atoms {a:Asn} {k:Nat} (h:k<a.atoms.length):a.atoms[k].a∈termsL a∧a.atoms[k].b∈termsL a:=by
 simp only[termsL,List.mem_append,List.mem_flatMap]
 exact ⟨Or.inr ⟨_,List.getElem_mem h,by simp[atomT]⟩,Or.inr ⟨_,List.getElem_mem h,by simp[atomT]⟩⟩
theorem tins_flags (S m:Nat) (hm:m≤8):((encB (flagsOf S)).toArray).setIfInBounds m (.bool true)=(encB (flagsOf (tins S (m:Int)))).toArray:=by
 rw[flags_upd,tins,if_pos (isTermB_iff.2 (by omega)),Int.toNat_natCast]
theorem BoolsO.ofBlk {w:World} {g base S:Nat} (h:Blk w g tB (encB (flagsOf S)).toArray) (hb:base≤g):BoolsO w base (.slice (some ⟨g,0,none⟩) 9 9) (flagsOf S):=
 ⟨own_of_blk (n:=9) (cap:=9) h hb (by simp[flagsOf]) (by intro j hj;simp) (Nat.le_refl _) (by decide) (by simp[flagsOf]),by simp[flagsOf,Lim]⟩
theorem mkB9 (w:World):(Instr.makeSlice 112 (.int .i64 9) (.int .i64 9)).run Try.prog w=.ok (.slice (some ⟨w.heap.size,0,none⟩) 9 9) (w.alloc (.cells (encB (flagsOf 0)).toArray tB)):=
 (mkB 9 (by decide) w).trans (by rw[show (madeCells #[.bool false] (9 * 1))=(encB (flagsOf 0)).toArray from by kernel_rfl])
theorem flags_at {w:World} {lo hi b o K m:Nat} (h:BoolsV w lo hi (some ⟨b,o,none⟩) (flagsOf K)) (hm:m≤8):w.cell? ⟨b,o+m,none⟩=some (.bool (K.testBit m)):=by
 have:=h.cl (k:=m) (by rw[flagsOf_length];omega)
 rw[this]
 have e:=flagsOf_get K m (by omega)
 rw[List.getElem?_eq_getElem (by rw[flagsOf_length];omega)] at e
 rw[Option.some.inj e]
theorem flags_addr {w:World} {lo hi K:Nat} {A:Option Addr} (h:BoolsV w lo hi A (flagsOf K)):∃ b o,A=some ⟨b,o,none⟩∧b<w.heap.size:=h.blt (k:=0) (by rw[flagsOf_length];omega)
theorem flags2 (T m1 m2:Nat) (h1:m1≤8) (h2:m2≤8):(((encB (flagsOf T)).toArray).setIfInBounds m1 (.bool true)).setIfInBounds m2 (.bool true)=(encB (flagsOf (tins (tins T (m1:Int)) (m2:Int)))).toArray:=by
 rw[tins_flags _ _ h1,tins_flags _ _ h2]
theorem Blk.two {w:World} {g T m1 m2:Nat} (h:Blk w g tB (encB (flagsOf T)).toArray) (h1:m1≤8) (h2:m2≤8):Blk ((w.setCell ⟨g,m1,none⟩ (.bool true)).setCell ⟨g,m2,none⟩ (.bool true)) g tB (encB (flagsOf (tins (tins T (m1:Int)) (m2:Int)))).toArray:=by
 rw[←flags2 _ _ _ h1 h2];exact (h.set_ _ _).set_ _ _
theorem Blk.twice {w:World} {g T m1:Nat} (h:Blk w g tB (encB (flagsOf T)).toArray) (h1:m1≤8):Blk (w.setCell ⟨g,m1,none⟩ (.bool true)) g tB (encB (flagsOf (tins (tins T (m1:Int)) (m1:Int)))).toArray:=by
 rw[←tins_flags _ _ h1,←tins_flags _ _ h1]
 have e:∀ (a:Array Value) (i:Nat) (u:Value),(a.setIfInBounds i u).setIfInBounds i u=a.setIfInBounds i u:=by
  intro a i u;apply Array.ext_getElem?;intro j
  by_cases e:i=j
  ·subst e
   rw[Array.getElem?_setIfInBounds_self,Array.size_setIfInBounds,Array.getElem?_setIfInBounds_self]
  ·rw[Array.getElem?_setIfInBounds_ne e]
 rw[e]
 exact h.set_ _ _
set_option maxRecDepth 100000 in
set_option maxHeartbeats 3200000 in
theorem c_spec_l3Terms {lo hi:Nat} (v:Value) (a:Asn) (w:World) (h:AsnV w lo hi v a) (hv:∀ t∈termsL a,isTermB t=true):Calls Try.prog 92 #[v] w fun e w'=>∃ r,e=.returned r∧BoolsO w' w.heap.size r (flagsOf (tset (termsL a)))∧Below w.heap.size w w':=by
 obtain ⟨A1,c1,A2,c2,rfl,h1,h2⟩:=h
 have hl1:=h1.le
 have hl2:=h2.le
 have hmk:=mkB9
 have HV:=Lib.hid hv
 have HT:=Lib.hid (tset_terms a)
 clear hv
 go_enter Try.func92,Try.ntmps92
 go_wp2
 clear hmk
 go_loopw [4] (fun i wr=>∃ (k T:Nat),k≤a.facts.length∧i=.int .i64 k∧Hid (a.facts.foldl (fun S f=>tins (tins S f.a) f.b) 0=(a.facts.drop k).foldl (fun S f=>tins (tins S f.a) f.b) T)∧Blk wr w.heap.size 26 #[.slice A1 a.facts.length c1,.slice A2 a.atoms.length c2]∧Blk wr (w.heap.size+1) tB (encB (flagsOf T)).toArray∧Below w.heap.size w wr) (fun i _=>a.facts.length - (intOf i).toNat)
 case atStart=>exact ⟨0,0,Nat.zero_le _,rfl,rfl,blks,blks,bel⟩
 case round=>
  obtain ⟨k,T,hk,rfl,HA,k0,k1,hB⟩:=hrel
  have qk0:=k0.cell
  by_cases hlt:k<a.facts.length
  ·obtain ⟨b,off,rfl,hbl⟩:=h1.blt hlt
   obtain ⟨g0,g1,g2⟩:=(h1.below hB).cl hlt
   have HD:=Lib.hid (foldl_step (fun S (f:Fct)=>tins (tins S f.a) f.b) T a.facts k hlt)
   have hm:=termsL_facts (List.getElem_mem hlt)
   have b1:=isTermB_iff.1 (HV.out _ hm.1)
   have b2:=isTermB_iff.1 (HV.out _ hm.2)
   obtain ⟨m1,e1⟩:=Int.eq_ofNat_of_zero_le b1.1
   obtain ⟨m2,e2⟩:=Int.eq_ofNat_of_zero_le b2.1
   have E1:=Lib.hid e1
   have E2:=Lib.hid e2
   rw[e1] at g1
   rw[e2] at g2
   have m18:(m1:Int)<9:=by omega
   have m28:(m2:Int)<9:=by omega
   have q1:wr.cell? ⟨w.heap.size+1,m1,none⟩=some (.bool (T.testBit m1)):=(k1.cell m1).trans (flags_cell T _ rfl (by omega))
   have q2:wr.cell? ⟨w.heap.size+1,m2,none⟩=some (.bool (T.testBit m2)):=(k1.cell m2).trans (flags_cell T _ rfl (by omega))
   have r3:=k1.frozen
   clear e1 e2 hm b1 b2
   by_cases he:m1=m2
   ·subst he
    go_wp2_with fail
    go_round
    case rel=>
     refine ⟨k+1,tins (tins T (m1:Int)) (m1:Int),by omega,by go_num,by show _=_;rw[HA.out,HD.out,E1.out,E2.out],?_,?_,bel⟩
     ·first|exact k0.far (by simp) _|exact (k0.far (by simp) _).far (by simp) _
     ·first|exact k1.twice (by omega)|exact k1.two (by omega) (by omega)
    case measure=>simp[intOf];omega
   ·have he2:=Ne.symm he
    go_wp2_with fail
    go_round
    case rel=>
     refine ⟨k+1,tins (tins T (m1:Int)) (m2:Int),by omega,by go_num,by show _=_;rw[HA.out,HD.out,E1.out,E2.out],(k0.far (by simp) _).far (by simp) _,k1.two (by omega) (by omega),bel⟩
    case measure=>simp[intOf];omega
  ·obtain rfl:k=a.facts.length:=by omega
   have HA2:=Lib.hid (show a.facts.foldl (fun S f=>tins (tins S f.a) f.b) 0=T by rw[HA.out,List.drop_length];rfl)
   go_wp2_with fail
   go_loopw [5] (fun i wx=>∃ (k T':Nat),k≤a.atoms.length∧i=.int .i64 k∧Hid (a.atoms.foldl (fun S f=>tins (tins S f.a) f.b) T=(a.atoms.drop k).foldl (fun S f=>tins (tins S f.a) f.b) T')∧Blk wx w.heap.size 26 #[.slice A1 a.facts.length c1,.slice A2 a.atoms.length c2]∧Blk wx (w.heap.size+1) tB (encB (flagsOf T')).toArray∧Below w.heap.size w wx) (fun i _=>a.atoms.length - (intOf i).toNat)
   case atStart=>exact ⟨0,T,Nat.zero_le _,rfl,rfl,k0,k1,hB⟩
   case round=>
    clear k0 qk0 k1 hB
    obtain ⟨k,T',hk,rfl,HB,k0,k1,hB⟩:=hrel
    have qk0:=k0.cell
    by_cases hlt2:k<a.atoms.length
    ·obtain ⟨b,off,rfl,hbl⟩:=h2.blt hlt2
     obtain ⟨g0,g1,g2⟩:=(h2.below hB).cl hlt2
     have HD:=Lib.hid (foldl_step (fun S (f:Atm)=>tins (tins S f.a) f.b) T' a.atoms k hlt2)
     have hm:=termsL_atoms hlt2
     have b1:=isTermB_iff.1 (HV.out _ hm.1)
     have b2:=isTermB_iff.1 (HV.out _ hm.2)
     obtain ⟨m1,e1⟩:=Int.eq_ofNat_of_zero_le b1.1
     obtain ⟨m2,e2⟩:=Int.eq_ofNat_of_zero_le b2.1
     have E1:=Lib.hid e1
     have E2:=Lib.hid e2
     rw[e1] at g1
     rw[e2] at g2
     have m18:(m1:Int)<9:=by omega
     have m28:(m2:Int)<9:=by omega
     have q1:wr.cell? ⟨w.heap.size+1,m1,none⟩=some (.bool (T'.testBit m1)):=(k1.cell m1).trans (flags_cell T' _ rfl (by omega))
     have q2:wr.cell? ⟨w.heap.size+1,m2,none⟩=some (.bool (T'.testBit m2)):=(k1.cell m2).trans (flags_cell T' _ rfl (by omega))
     have r3:=k1.frozen
     clear e1 e2 hm b1 b2
     by_cases he:m1=m2
     ·subst he
      go_wp2_with fail
      go_round
      case rel=>
       refine ⟨k+1,tins (tins T' (m1:Int)) (m1:Int),by omega,by go_num,by show _=_;rw[HB.out,HD.out,E1.out,E2.out],?_,?_,bel⟩
       ·first|exact k0.far (by simp) _|exact (k0.far (by simp) _).far (by simp) _
       ·first|exact k1.twice (by omega)|exact k1.two (by omega) (by omega)
      case measure=>simp[intOf];omega
     ·have he2:=Ne.symm he
      go_wp2_with fail
      go_round
      case rel=>
       refine ⟨k+1,tins (tins T' (m1:Int)) (m2:Int),by omega,by go_num,by show _=_;rw[HB.out,HD.out,E1.out,E2.out],(k0.far (by simp) _).far (by simp) _,k1.two (by omega) (by omega),bel⟩
      case measure=>simp[intOf];omega
    ·obtain rfl:k=a.atoms.length:=by omega
     go_wp2_with fail
     go_ret
     refine ⟨_,rfl,?_,hB⟩
     rw[HT.out,HA2.out,HB.out,List.drop_length]
     exact BoolsO.ofBlk k1 (by omega)
end Go.Proofs.Ytjjokmlmknllhaa

/- Contracts: framed contracts: copies, disjoint sets. -/
namespace Go.Proofs.Ytjjokmlmknllhaa
open Go Go.RowKit Go.Proofs
attribute [local go_sem ↓] Go.wp_at_zero Go.wp_at_succ
set_option maxRecDepth 100000 in
set_option maxHeartbeats 800000 in
theorem c_impl_copyInts {lo hi:Nat} (A:Option Addr) (c:Nat) (xs:List Int) (w:World) (h:IntsV w lo hi A xs):Calls Try.prog 74 #[.slice A xs.length c] w fun e w'=>∃ r,e=.returned r∧IntsO w' w.heap.size r xs∧Below w.heap.size w w':=by
 have hl:=h.le
 have hmk:=mkI xs.length h.lim
 have hb0:Below w.heap.size w (w.alloc (.cells (madeCells #[.int .i64 0] (xs.length)) tI)):=bel
 have hV:=Lib.hid (h.below hb0)
 go_enter Try.func74,Try.ntmps74
 go_wp2_with (with_reducible refine wpList_copy_splice rfl _ _ 32 32 rfl tI Try.underlying32 (by kernel_rfl) (some ⟨w.heap.size,0,none⟩) A xs.length xs.length xs.length c rfl rfl w.heap.size 0 (madeCells #[.int .i64 0] (xs.length)).toList tI ?c1 (encI xs) ?c2 ?c3 ?c4 (encI_one _) w.heap.size w hb0 (Nat.le_refl _) ?_)
 case c1=>simpa using heap_alloc_new w (.cells (madeCells #[.int .i64 0] xs.length) tI)
 case c2=>simp
 case c3=>
  intro h0
  obtain ⟨b,o,rfl,_,_,hc⟩:=hV.out.raw.2 (by simpa using h0)
  exact ⟨_,rfl,fun j u hu=>by
   rw[show (⟨b,o,none⟩:Addr).add j=⟨b,o+j,none⟩ from by unfold Addr.add;split<;>simp_all]
   exact hc j _ (by rw[List.getElem?_map,hu];rfl)⟩
 case c4=>simp[size_madeCells]
 intro w' hH hB
 clear hmk
 go_wp2
 go_ret
 have hs:=hH.out
 rw[show splice (madeCells #[Value.int .i64 0] (xs.length)).toList 0 (encI xs)=encI xs from by simp[splice,size_madeCells]] at hs
 exact ⟨_,rfl,⟨own_of_blk (cap:=xs.length) hs (Nat.le_refl _) (by simp) (by intro j hj;simp) (Nat.le_refl _) (by unfold maxLen;omega) (by simp),h.lim⟩,hB⟩
def disjB (T C:Nat):Bool:=(List.range 9).all fun n=>!(T.testBit n&&C.testBit n)
end Go.Proofs.Ytjjokmlmknllhaa

/- Contracts: impl's copies of states. -/
namespace Go.Proofs.Ytjjokmlmknllhaa
open Go Go.RowKit Go.Proofs
set_option maxRecDepth 100000 in
set_option maxHeartbeats 1600000 in
theorem c_impl_copyState {lo hi:Nat} (v:Value) (s:Ste) (w:World) (h:StateV w lo hi v s):Calls Try.prog 53 #[v] w fun e w'=>∃ r,e=.returned r∧StateO w' w.heap.size r s∧Below w.heap.size w w':=by
 obtain ⟨A1,c1,A2,c2,rfl,h1,h2⟩:=h
 have H1:=Lib.hid h1
 have H2:=Lib.hid h2
 clear h1 h2
 go_enter Try.func53,Try.ntmps53
 have k0:Blk ((w.alloc (.cells #[.slice A1 s.values.length c1,.slice A2 s.heap.length c2] tSt)).alloc (.cells #[.slice none 0 0,.slice none 0 0] tSt)) w.heap.size tSt #[.slice A1 s.values.length c1,.slice A2 s.heap.length c2]:=blks
 have kr:Blk ((w.alloc (.cells #[.slice A1 s.values.length c1,.slice A2 s.heap.length c2] tSt)).alloc (.cells #[.slice none 0 0,.slice none 0 0] tSt)) (w.heap.size+1) tSt #[.slice none 0 0,.slice none 0 0]:=blks
 go_wp2_with fail
 refine wp_region_noPanic ?_
 refine wp_region_held_drew (S:=(fun w'=>∀ i,w'.cell? ⟨w.heap.size,i,none⟩=#[.slice A1 s.values.length c1,.slice A2 s.heap.length c2][i]?)) (by kernel_rfl) (Blk.cell blks) (fun hHeld=>?_)
 refine tk 0 ?_ rfl (fun w hSw=>?_) hHeld ?_
 rotate_left
 ·((try dsimp only at hSw);go_split_ands;go_simp;(try with_reducible rfl))
 try simp only[Act.put,zA,zB,zC,zD,zE,zF]
 refine tk 1 ?_ rfl (fun w hSw=>?_) hHeld ?_
 rotate_left
 ·((try dsimp only at hSw);go_split_ands;go_simp;(try with_reducible rfl))
 try simp only[Act.put,zA,zB,zC,zD,zE,zF]
 refine tk 3 ?_ rfl (fun w hSw=>?_) hHeld ?_
 rotate_left
 ·((try dsimp only at hSw);go_split_ands;go_simp;(try with_reducible rfl))
 try simp only[Act.put,zA,zB,zC,zD,zE,zF]
 refine tk 4 ?_ rfl (fun w hSw=>?_) hHeld ?_
 rotate_left
 ·((try dsimp only at hSw);go_split_ands;go_simp;(try with_reducible rfl))
 try simp only[Act.put,zA,zB,zC,zD,zE,zF]
 refine rdc 2 rfl fun K hK=>?_
 try simp only[zA,zB,zC]
 (go_simp;refine (c_impl_copyInts A1 c1 s.values _ (H1.out.below bel)).mono ?_;rintro e w1 ⟨r1,rfl,o1,hB1⟩;have hB:=bgo (w:=w) bel hB1;replace k0:=Blk.next (g:=w.heap.size) blks hB1;replace kr:=Blk.next (g:=w.heap.size+1) blks hB1)
 refine hK.out _ _ (k0.cell) ?_
 clear hHeld hK K
 intro hHeld
 try simp only[Act.put,zA,zB,zC,zD,zE,zF]
 refine rdc 5 rfl fun K hK=>?_
 try simp only[zA,zB,zC]
 (go_simp;refine (c_impl_copyInts A2 c2 s.heap _ (H2.out.below hB)).mono ?_;rintro e w2 ⟨r2,rfl,o2,hB2⟩;have hBB:=bgo hB hB2;have hz1:=hB.size;replace k0:=k0.next hB2;replace kr:=kr.next hB2)
 refine hK.out _ _ (k0.cell) ?_
 clear hHeld hK K
 intro hHeld
 try simp only[Act.put,zA,zB,zC,zD,zE,zF]
 have HD:=Lib.hid (show ∀ g,r1.ownBlock=some g→r2.ownBlock≠some g from fun g hg e=>by
  have:=(o1.1.lt g hg).2
  have:=(o2.1.lt g e).1
  omega)
 have HO1:=Lib.hid ((o1.below hB2).lower (base':=w.heap.size) (by (try simp)<;>omega))
 have HO2:=Lib.hid (o2.lower (base':=w.heap.size) hz1)
 obtain ⟨F,e1,rfl,-⟩:=o1.reads
 obtain ⟨G,e2,rfl,-⟩:=o2.reads
 clear o1 o2 hB1 hB2
 (replace qkr:=kr.cell;replace rkr:=kr.frozen;replace lkr:=kr.lt)
 refine tk 6 ?_ rfl (fun w hSw=>?_) hHeld ?_
 rotate_left
 ·((try dsimp only at hSw);go_split_ands;go_simp;(try with_reducible rfl))
 try simp only[Act.put,zA,zB,zC,zD,zE,zF]
 refine rdc 7 rfl fun K hK=>?_
 try simp only[zA,zB,zC]
 go_simp
 refine hK.out _ _ (Blk.cell blks) ?_
 clear hHeld hK K
 intro hHeld
 try simp only[Act.put,zA,zB,zC,zD,zE,zF]
 refine wpAnyH_done (by kernel_rfl) ?_ _
 refine NoPanic.normal ?_
 go_wp2_with fail
 refine bodyPost_ret (v:=.agg #[.slice F s.values.length e1,.slice G s.heap.length e2]) (by simp[results,Try.results53,go_sem,qkr]) rfl ⟨_,rfl,⟨_,_,rfl,?_,?_,HD.out⟩,bel⟩
 ·exact (HO1.out.setT kr (by decide) 0 _).setT (kr.set_ 0 _) (by decide) 1 _
 ·exact (HO2.out.setT kr (by decide) 0 _).setT (kr.set_ 0 _) (by decide) 1 _
def holdsF (s:Ste) (a:Asn):Bool:=(partOf s a).isSome&&(((bitsOf ((partOf s a).getD []):Nat):Int) == (bitsOf (usedL s.heap 8):Nat))
theorem partOf_len {s:Ste} {a:Asn} (h:(partOf s a).isSome=true):s.heap.length=8:=by
 unfold partOf at h
 split at h
 ·rename_i hv
  simp only[Bool.and_eq_true] at hv
  exact (Ste.valid_len hv.1.1).2
 ·cases h
set_option maxRecDepth 100000 in
set_option maxHeartbeats 1600000 in
theorem c_impl_Holds {lo hi lo' hi':Nat} (v v':Value) (s:Ste) (a:Asn) (w:World) (h:StateV w lo hi v s) (h':AsnV w lo' hi' v' a) :
  Calls Try.prog 13 #[v,v'] w fun e w'=>e=.returned (.bool (holdsF s a))∧Below w.heap.size w w':=by
 have hV:=Lib.hid h
 have hV':=Lib.hid h'
 obtain ⟨A1,c1,A2,c2,rfl,-,-⟩:=h
 obtain ⟨A3,c3,A4,c4,rfl,-,-⟩:=h'
 have HE:Hid (holdsF s a=((partOf s a).isSome&&(((bitsOf ((partOf s a).getD []):Nat):Int) == (bitsOf (usedL s.heap 8):Nat)))):=rfl
 go_enter Try.func13,Try.ntmps13
 have k0:Blk ((w.alloc (.cells #[.slice A1 s.values.length c1,.slice A2 s.heap.length c2] tSt)).alloc (.cells #[.slice A3 a.facts.length c3,.slice A4 a.atoms.length c4] 26)) w.heap.size tSt #[.slice A1 s.values.length c1,.slice A2 s.heap.length c2]:=blks
 go_wp2_with fail
 refine (c_impl_partOf _ _ s a _ (hV.out.below bel) (hV'.out.below bel)).mono ?_
 rintro e w1 ⟨rfl,hB1⟩
 have hB:=bgo (w:=w) bel hB1
 replace k0:=k0.next hB1
 (replace qk0:=k0.cell;replace rk0:=k0.frozen;replace lk0:=k0.lt)
 clear hB1
 cases hp:(partOf s a).isSome
 ·have E:Hid (holdsF s a=false):=by show _=_;rw[HE.out,hp];rfl
  clear hp
  go_wp2_with fail
  go_ret
  exact ⟨ret_bool E.out.symm,hB⟩
 ·have h8:=Lib.hid (partOf_len hp)
  have E:Hid (holdsF s a=(((bitsOf ((partOf s a).getD []):Nat):Int) == (bitsOf (usedL s.heap 8):Nat))):=by show _=_;rw[HE.out,hp];rfl
  clear hp HE
  go_wp2_with fail
  refine (c_impl_usedIn _ s _ (hV.out.below hB) h8.out).mono ?_
  rintro e w2 ⟨rfl,hB2⟩
  go_wp2_with fail
  go_ret
  exact ⟨ret_bool E.out.symm,bgo hB hB2⟩
def usedF (s:Ste):List Int:=if s.valid then usedL s.heap 8 else []
end Go.Proofs.Ytjjokmlmknllhaa

/- The cells that an assertion describes: in a larger state and in a smaller one, and those of a conjunction. Plain; no program. -/
namespace Go.Proofs.Ytjjokmlmknllhaa
open Go Go.RowKit
theorem addAll_spec:∀ (cs seen out:List Int),addAll seen cs=some out→seen.Nodup→out.Nodup:=by
 intro cs
 induction cs with
 | nil=>intro seen out h hn;simp only[addAll,Option.some.injEq] at h;rw[←h];exact hn
 | cons c cs ih=>
  intro seen out h hn
  simp only[addAll] at h
  split at h
  ·cases h
  ·rename_i hc
   refine ih _ _ h ?_
   rw[List.nodup_append]
   exact ⟨hn,by simp,fun x hx y hy e=>by rw[List.mem_singleton] at hy;exact hc (by rw[←hy,←e];exact hx)⟩
theorem addAll_some:∀ (cs seen:List Int),(seen++cs).Nodup→addAll seen cs=some (seen++cs):=by
 intro cs
 induction cs with
 | nil=>intro seen _;simp[addAll]
 | cons c cs ih=>
  intro seen h
  simp only[addAll]
  rw[if_neg]
  ·rw[ih _ (by simpa using h)];simp
  ·intro hc
   rw[List.nodup_append] at h
   exact h.2.2 c hc c List.mem_cons_self rfl
theorem partAtoms_spec {s:Ste} (hs:s.valid=true):∀ (xs:List Atm) (seen out:List Int),partAtoms s seen xs=some out→seen.Nodup→out.Nodup∧∃ new,out=seen++new∧∀ c∈new,addrB c=true∧allocB s.heap c=true:=by
 intro xs
 induction xs with
 | nil=>intro seen out h hn;simp only[partAtoms,Option.some.injEq] at h;subst h;exact ⟨hn,[],by simp,by simp⟩
 | cons x xs ih=>
  intro seen out h hn
  simp only[partAtoms,Option.bind_eq_some_iff] at h
  obtain ⟨cs,h1,seen',h2,h3⟩:=h
  have hn':=addAll_spec _ _ _ h2 hn
  obtain ⟨g1,new,g2,g3⟩:=ih _ _ h3 hn'
  have e:=addAll_mem _ _ _ h2
  refine ⟨g1,cs++new,by rw[g2,e,List.append_assoc],fun c hc=>?_⟩
  rcases List.mem_append.1 hc with h|h
  ·exact (atomCells_addr hs h1).2 c h
  ·exact g3 c h
def Sub (h' h:List Int):Prop:=∀ x,allocB h' x=true→allocB h x=true∧cont h x=cont h' x
theorem walk_up {h' h:List Int} (H:Sub h' h):∀ (n:Nat) (x tz0:Int) (cs:List Int),walkF h' n x tz0=some cs→walkF h n x tz0=some cs:=by
 intro n
 induction n with
 | zero=>intro x tz0 cs hw;exact hw
 | succ n ih=>
  intro x tz0 cs hw
  simp only[walkF] at hw ⊢
  split at hw
  ·rename_i e;rw[if_pos e];exact hw
  ·rename_i e
   rw[if_neg e]
   split at hw
   ·rename_i ha
    obtain ⟨g1,g2⟩:=H x ha
    rw[if_pos g1,g2]
    obtain ⟨ds,hd,rfl⟩:=Option.map_eq_some_iff.1 hw
    rw[ih _ _ _ hd];rfl
   ·cases hw
theorem walk_down {h' h:List Int} (H:Sub h' h):∀ (n:Nat) (x tz0:Int) (cs:List Int),walkF h n x tz0=some cs→(∀ c∈cs,allocB h' c=true)→walkF h' n x tz0=some cs:=by
 intro n
 induction n with
 | zero=>intro x tz0 cs hw _;exact hw
 | succ n ih=>
  intro x tz0 cs hw hc
  simp only[walkF] at hw ⊢
  split at hw
  ·rename_i e;rw[if_pos e];exact hw
  ·rename_i e
   rw[if_neg e]
   split at hw
   ·obtain ⟨ds,hd,rfl⟩:=Option.map_eq_some_iff.1 hw
    have ha:=hc x List.mem_cons_self
    rw[if_pos ha,←(H x ha).2,ih _ _ _ hd fun c h=>hc c (List.mem_cons_of_mem _ h)];rfl
   ·cases hw
theorem tval_val {s:Ste} (hs:s.valid=true) (t:Int):0≤tval s.values t:=by
 have hv:s.values.all valB=true:=by simp only[Ste.valid,Bool.and_eq_true] at hs;exact hs.2.1
 exact (tval_le hv t).1
theorem atom_up {s' s:Ste} (hs:s'.valid=true) (hv:s'.values=s.values) (H:Sub s'.heap s.heap) {x:Atm} {cs:List Int} (h:atomCells s' x=some cs):atomCells s x=some cs:=by
 unfold atomCells at h ⊢
 rw[←hv]
 split at h
 ·rename_i hk;rw[if_pos hk];exact walk_up H _ _ _ _ h
 ·rename_i hk
  rw[if_neg hk]
  split at h
  ·rename_i hc
   have ha:allocB s'.heap (tval s'.values x.a)=true:=by simp only[allocB,decide_eq_true_eq];rw[hc];exact tval_val hs _
   rw[if_pos (by rw[(H _ ha).2];exact hc)];exact h
  ·cases h
theorem atom_down {s' s:Ste} (hv:s'.values=s.values) (H:Sub s'.heap s.heap) {x:Atm} {cs:List Int} (h:atomCells s x=some cs) (hc:∀ c∈cs,allocB s'.heap c=true):atomCells s' x=some cs:=by
 unfold atomCells at h ⊢
 rw[hv]
 split at h
 ·rename_i hk;rw[if_pos hk];exact walk_down H _ _ _ _ h hc
 ·rename_i hk
  rw[if_neg hk]
  split at h
  ·rename_i hcc
   obtain rfl:=Option.some.inj h
   have ha:=hc _ List.mem_cons_self
   rw[if_pos (by rw[←(H _ ha).2];exact hcc)]
  ·cases h
theorem part_up {s' s:Ste} (hs:s'.valid=true) (hv:s'.values=s.values) (H:Sub s'.heap s.heap) {pre:List Int} (hp:pre.Nodup) (hd:∀ c∈pre,allocB s'.heap c=false) :
  ∀ (xs:List Atm) (seen out:List Int),seen.Nodup→(∀ c∈seen,allocB s'.heap c=true)→partAtoms s' seen xs=some out→partAtoms s (pre++seen) xs=some (pre++out):=by
 intro xs
 induction xs with
 | nil=>intro seen out _ _ h;simp only[partAtoms,Option.some.injEq] at h;subst h;rfl
 | cons x xs ih=>
  intro seen out hn ha h
  simp only[partAtoms,Option.bind_eq_some_iff] at h ⊢
  obtain ⟨cs,h1,seen',h2,h3⟩:=h
  have e:=addAll_mem _ _ _ h2
  have hn':=addAll_spec _ _ _ h2 hn
  have ha':∀ c∈seen',allocB s'.heap c=true:=fun c hc=>by
   rw[e] at hc
   rcases List.mem_append.1 hc with h|h
   ·exact ha c h
   ·exact ((atomCells_addr hs h1).2 c h).2
  refine ⟨cs,atom_up hs hv H h1,pre++seen',?_,ih _ _ hn' ha' h3⟩
  rw[e,←List.append_assoc]
  apply addAll_some
  rw[List.append_assoc,←e,List.nodup_append]
  refine ⟨hp,hn',fun x hx y hy exy=>?_⟩
  have h4:=hd x hx
  rw[exy,ha' y hy] at h4
  cases h4
theorem part_down {s' s:Ste} (hs:s.valid=true) (hv:s'.values=s.values) (H:Sub s'.heap s.heap) {pre:List Int} :
  ∀ (xs:List Atm) (seen out:List Int),(pre++seen).Nodup→partAtoms s (pre++seen) xs=some out→(∀ c∈out,c∉pre→c∉seen→allocB s'.heap c=true)→∃ out',out=pre++out'∧partAtoms s' seen xs=some out':=by
 intro xs
 induction xs with
 | nil=>intro seen out _ h _;simp only[partAtoms,Option.some.injEq] at h;exact ⟨seen,h.symm,rfl⟩
 | cons x xs ih=>
  intro seen out hn h ha
  simp only[partAtoms,Option.bind_eq_some_iff] at h ⊢
  obtain ⟨cs,h1,seen',h2,h3⟩:=h
  have e:=addAll_mem _ _ _ h2
  have hn':=addAll_spec _ _ _ h2 hn
  rw[e,List.append_assoc] at h3 hn'
  obtain ⟨g1,new,g2,g3⟩:=partAtoms_spec hs _ _ _ h3 hn'
  have hsub:∀ c∈cs,c∈out:=fun c hc=>by rw[g2];simp[hc]
  have hcs:∀ c∈cs,c∉pre∧c∉seen:=fun c hc=>by
   constructor
   ·intro hp
    rw[List.nodup_append] at hn'
    exact hn'.2.2 c hp c (List.mem_append_right _ hc) rfl
   ·intro hp
    rw[←List.append_assoc,List.nodup_append] at hn'
    exact hn'.2.2 c (List.mem_append_right _ hp) c hc rfl
  obtain ⟨out',g4,g5⟩:=ih _ _ hn' h3 fun c hc h1 h2=>ha c hc h1 fun h=>h2 (List.mem_append_left _ h)
  refine ⟨out',g4,cs,atom_down hv H h1 fun c hc=>ha c (hsub c hc) (hcs c hc).1 (hcs c hc).2,seen++cs,?_,g5⟩
  apply addAll_some
  rw[List.nodup_append] at hn'
  exact hn'.2.1
theorem partAtoms_append (s:Ste) (ys:List Atm):∀ (xs:List Atm) (seen:List Int),partAtoms s seen (xs++ys)=(partAtoms s seen xs).bind fun out=>partAtoms s out ys:=by
 intro xs
 induction xs with
 | nil=>intro seen;rfl
 | cons x xs ih=>
  intro seen
  simp only[List.cons_append,partAtoms]
  cases atomCells s x with
  | none=>rfl
  | some cs=>
   simp only[Option.bind_some]
   cases addAll seen cs with
   | none=>rfl
   | some seen'=>exact ih seen'
/-! states -/
theorem partOf_some {s:Ste} {a:Asn} {out:List Int}:partOf s a=some out↔s.valid=true∧a.valid=true∧factsHold a.facts s.values=true∧partAtoms s [] a.atoms=some out:=by
 unfold partOf
 split
 ·rename_i h
  simp only[Bool.and_eq_true] at h
  exact ⟨fun e=>⟨h.1.1,h.1.2,h.2,e⟩,fun e=>e.2.2.2⟩
 ·rename_i h
  constructor
  ·intro e;cases e
  ·rintro ⟨h1,h2,h3,-⟩
   exact absurd (by rw[h1,h2,h3];rfl) h
theorem partOf_spec {s:Ste} {a:Asn} {out:List Int} (h:partOf s a=some out):out.Nodup∧∀ c∈out,addrB c=true∧allocB s.heap c=true:=by
 obtain ⟨h1,-,-,h4⟩:=partOf_some.1 h
 obtain ⟨g1,new,g2,g3⟩:=partAtoms_spec h1 _ _ _ h4 List.nodup_nil
 rw[List.nil_append] at g2
 subst g2
 exact ⟨g1,g3⟩
theorem holds_iff {s:Ste} {a:Asn}:holdsF s a=true↔∃ out,partOf s a=some out∧∀ c,allocB s.heap c=true→c∈out:=by
 unfold holdsF
 cases h:partOf s a with
 | none=>simp
 | some out=>
  have hsp:=partOf_spec h
  have h1:∀ x∈out,0≤x:=fun x hx=>by have:=(hsp.2 x hx).1;simp[addrB] at this;omega
  have h2:∀ x∈usedL s.heap 8,0≤x:=fun x hx=>by have:=(usedL_mem _ _ _).1 hx;omega
  simp only[Option.isSome_some,Option.getD_some,Bool.true_and,beq_iff_eq,Int.natCast_inj,Option.some.injEq,exists_eq_left']
  rw[bitsOf_eq h1 h2]
  constructor
  ·intro h3 c hc
   have:=(cont_alloc hc).1
   simp[addrB] at this
   exact (h3 c).2 ((usedL_mem _ _ _).2 ⟨by omega,by omega,hc⟩)
  ·intro h3 x
   rw[usedL_mem]
   constructor
   ·intro hx
    have:=hsp.2 x hx
    have h4:=this.1
    simp[addrB] at h4
    exact ⟨by omega,by omega,this.2⟩
   ·intro hx
    exact h3 x hx.2.2
theorem cellsL_mem {S:Nat} {x:Int}:x∈cellsL S 8↔1≤x∧x≤8∧S.testBit x.toNat=true:=by
 unfold cellsL
 simp only[List.mem_map,List.mem_filter,List.mem_range'_1]
 constructor
 ·rintro ⟨n,⟨h1,h2⟩,rfl⟩;exact ⟨by omega,by omega,h2⟩
 ·rintro ⟨h1,h2,h3⟩
  obtain ⟨n,rfl⟩:=Int.eq_ofNat_of_zero_le (show 0≤x by omega)
  exact ⟨n,⟨by omega,h3⟩,rfl⟩
theorem cells_mem {out:List Int} (h:∀ c∈out,addrB c=true) {x:Int}:x∈cellsL (bitsOf out) 8↔x∈out:=by
 have h1:∀ c∈out,1≤c∧c≤8:=fun c hc=>by have:=h c hc;simpa [addrB] using this
 rw[cellsL_mem,testBit_bitsOf fun c hc=>by have:=h1 c hc;omega]
 constructor
 ·rintro ⟨g1,g2,g3⟩
  rw[decide_eq_true_eq,Int.toNat_of_nonneg (by omega)] at g3
  exact g3
 ·intro hx
  have:=h1 x hx
  exact ⟨this.1,this.2,by rw[decide_eq_true_eq,Int.toNat_of_nonneg (by omega)];exact hx⟩
theorem cellsL_nodup (S:Nat):(cellsL S 8).Nodup:=by
 unfold cellsL
 unfold List.Nodup
 rw[List.pairwise_map]
 refine List.Pairwise.imp (R:=fun a b=>a<b) (fun h e=>by omega) ?_
 exact (List.pairwise_lt_range' (s:=1) (n:=8)).filter _
def keepH (h:List Int) (p:Int→Bool):List Int:=(List.range' 1 8).map fun n:Nat=>if p (n:Int) then cont h n else -1
def keepS (s:Ste) (p:Int→Bool):Ste:=⟨s.values,keepH s.heap p⟩
theorem cont_keep {h:List Int} {p:Int→Bool} {x:Int}:cont (keepH h p) x=if p x then cont h x else -1:=by
 unfold cont
 by_cases ha:addrB x=true
 ·rw[if_pos ha,if_pos ha]
  have ha':=ha
  simp only[addrB,decide_eq_true_eq] at ha'
  unfold keepH
  rw[List.getElem?_map,List.getElem?_range' (by omega)]
  have e:((1+1 * (x - 1).toNat:Nat):Int)=x:=by omega
  simp only[Option.map_some,Option.getD_some,e]
  unfold cont
  rw[if_pos ha]
 ·rw[if_neg ha,if_neg ha]
  split<;>rfl
theorem alloc_keep {h:List Int} {p:Int→Bool} {x:Int}:allocB (keepH h p) x=(p x&&allocB h x):=by
 unfold allocB
 rw[cont_keep]
 cases p x<;>simp
theorem keep_sub (h:List Int) (p:Int→Bool):Sub (keepH h p) h:=by
 intro x hx
 rw[alloc_keep,Bool.and_eq_true] at hx
 exact ⟨hx.2,by rw[cont_keep,if_pos hx.1]⟩
theorem keep_valid {s:Ste} (hs:s.valid=true) (p:Int→Bool):(keepS s p).valid=true:=by
 have hs':=hs
 simp only[Ste.valid,Bool.and_eq_true,decide_eq_true_eq] at hs ⊢
 refine ⟨⟨hs.1.1,by simp[keepS,keepH]⟩,hs.2.1,?_⟩
 rw[List.all_eq_true]
 intro x hx
 obtain ⟨n,hn,rfl⟩:=List.mem_map.1 hx
 split
 ·have:=cont_le hs.2.2 (n:Int)
  simp[cellB,valB];omega
 ·simp[cellB]
/-! the laws -/
theorem nodup_le:∀ {l m:List Int},l.Nodup→(∀ x∈l,x∈m)→l.length≤m.length:=by
 intro l
 induction l with
 | nil=>intro m _ _;simp
 | cons x l ih=>
  intro m hn h
  rw[List.nodup_cons] at hn
  have hx:=h x List.mem_cons_self
  have:=ih (m:=m.erase x) hn.2 fun y hy=>(List.mem_erase_of_ne (fun (e:y=x)=>hn.1 (by rw[←e];exact hy))).2 (h y (List.mem_cons_of_mem _ hy))
  rw[List.length_erase_of_mem hx] at this
  have:=List.length_pos_of_mem hx
  rw[List.length_cons]
  omega
theorem facts_star {a b:Asn} {vs:List Int} (hf:factsValid (a.facts++b.facts)=true) (ha:factsValid a.facts=true) (hb:factsValid b.facts=true):factsHold (a.facts++b.facts) vs=(factsHold a.facts vs&&factsHold b.facts vs):=by
 unfold factsHold
 rw[hf,ha,hb,List.all_append]
 cases decide (vs.length=8)<;>cases a.facts.all (Fct.holds vs)<;>simp
theorem Asn.valid_facts {a:Asn} (h:a.valid=true):factsValid a.facts=true:=by
 simp only[Asn.valid,Bool.and_eq_true] at h;exact h.1
theorem star_none {s:Ste} {a b c:Asn} (hc:starF a b=some c) (h:partOf s a=none):holdsF s c=false:=by
 rw[Bool.eq_false_iff]
 intro hh
 obtain ⟨out,g1,-⟩:=holds_iff.1 hh
 obtain ⟨h1,h2,h3,h4⟩:=partOf_some.1 g1
 unfold starF at hc
 split at hc
 ·rename_i hv
  obtain rfl:=Option.some.inj hc
  simp only[Bool.and_eq_true] at hv
  have hfs:factsHold (a.facts++b.facts) s.values=true:=h3
  rw[facts_star (Asn.valid_facts hv.2) (Asn.valid_facts hv.1.1) (Asn.valid_facts hv.1.2),Bool.and_eq_true] at hfs
  have h5:partAtoms s [] (a.atoms++b.atoms)=some out:=h4
  rw[partAtoms_append,Option.bind_eq_some_iff] at h5
  obtain ⟨o,h6,-⟩:=h5
  have:=partOf_some.2 ⟨h1,hv.1.1,hfs.1,h6⟩
  rw[h] at this;cases this
 ·cases hc
theorem star_law {s:Ste} {a b c:Asn} (hc:starF a b=some c) {out:List Int} (h:partOf s a=some out) {p:Int→Bool} (hp:∀ x,addrB x=true→(p x=true↔x∉out)):holdsF s c=holdsF (keepS s p) b:=by
 unfold starF at hc
 split at hc
 case isFalse=>cases hc
 rename_i hv
 obtain rfl:=Option.some.inj hc
 simp only[Bool.and_eq_true] at hv
 obtain ⟨h1,h2,h3,h4⟩:=partOf_some.1 h
 have hsp:=partOf_spec h
 have hfs:=facts_star (vs:=s.values) (Asn.valid_facts hv.2) (Asn.valid_facts hv.1.1) (Asn.valid_facts hv.1.2)
 rw[h3,Bool.true_and] at hfs
 have happ:partAtoms s [] (a.atoms++b.atoms)=partAtoms s out b.atoms:=by rw[partAtoms_append,h4];rfl
 rw[Bool.eq_iff_iff,holds_iff,holds_iff]
 constructor
 ·rintro ⟨o,g1,g2⟩
  obtain ⟨-,-,g3,g4⟩:=partOf_some.1 g1
  have g3':factsHold (a.facts++b.facts) s.values=true:=g3
  have g4':partAtoms s [] (a.atoms++b.atoms)=some o:=g4
  rw[happ] at g4'
  rw[hfs] at g3'
  have hall:=partOf_spec g1
  obtain ⟨o',e,g5⟩:=part_down (s':=keepS s p) (s:=s) h1 rfl (keep_sub _ _) (pre:=out) b.atoms [] o (by simpa using hsp.1) (by simpa using g4') fun x hx hxo _=>by
   show allocB (keepH s.heap p) x=true
   have:=hall.2 x hx
   rw[alloc_keep,(hp x this.1).2 hxo,this.2];rfl
  refine ⟨o',partOf_some.2 ⟨keep_valid h1 p,hv.1.2,g3',g5⟩,fun x hx=>?_⟩
  have hx':(p x&&allocB s.heap x)=true:=by rw[←alloc_keep];exact hx
  rw[Bool.and_eq_true] at hx'
  have h6:=g2 x hx'.2
  rw[e] at h6
  rcases List.mem_append.1 h6 with h6|h6
  ·exact absurd h6 ((hp x (cont_alloc hx'.2).1).1 hx'.1)
  ·exact h6
 ·rintro ⟨o,g1,g2⟩
  obtain ⟨-,-,g3,g4⟩:=partOf_some.1 g1
  have hup:=part_up (s':=keepS s p) (s:=s) (keep_valid h1 p) rfl (keep_sub _ _) hsp.1 (fun x hx=>by
   show allocB (keepH s.heap p) x=false
   rw[alloc_keep]
   have:=hp x (hsp.2 x hx).1
   cases hpx:p x
   ·rfl
   ·exact absurd hx (this.1 hpx)) b.atoms [] o List.nodup_nil (by simp) g4
  rw[List.append_nil,←happ] at hup
  refine ⟨out++o,partOf_some.2 ⟨h1,hv.2,?_,hup⟩,fun x hx=>?_⟩
  ·show factsHold (a.facts++b.facts) s.values=true
   rw[hfs];exact g3
  ·by_cases hxo:x∈out
   ·exact List.mem_append_left _ hxo
   ·refine List.mem_append_right _ (g2 x ?_)
    show allocB (keepH s.heap p) x=true
    rw[alloc_keep,(hp x (cont_alloc hx).1).2 hxo,hx];rfl
end Go.Proofs.Ytjjokmlmknllhaa

/- Contracts: impl's changes of cells. -/
namespace Go.Proofs.Ytjjokmlmknllhaa
open Go Go.RowKit Go.Proofs
end Go.Proofs.Ytjjokmlmknllhaa

/- Contracts: impl's states with some cells alone. -/
namespace Go.Proofs.Ytjjokmlmknllhaa
open Go Go.RowKit Go.Proofs
def maskH (h:List Int) (S k:Nat):List Int:=h.mapIdx fun i v=>if i<k∧S.testBit (i+1)=false then -1 else v
theorem maskH_zero (h:List Int) (S:Nat):maskH h S 0=h:=by
 apply List.ext_getElem?
 intro i
 simp[maskH,List.getElem?_mapIdx]
theorem maskH_len (h:List Int) (S k:Nat):(maskH h S k).length=h.length:=by simp[maskH]
theorem maskH_keep {h:List Int} {S k:Nat} (hb:S.testBit (k+1)=true):maskH h S (k+1)=maskH h S k:=by
 apply List.ext_getElem?
 intro i
 simp only[maskH,List.getElem?_mapIdx]
 congr 1
 funext v
 by_cases e:i=k
 ·subst e;rw[hb];simp
 ·by_cases h1:i<k
  ·simp[h1,show i<k+1 from by omega]
  ·simp[h1,show ¬i<k+1 from by omega]
theorem maskH_drop {h:List Int} {S k:Nat} (hb:S.testBit (k+1)=false) (hk:k<h.length):maskH h S (k+1)=(maskH h S k).set k (-1):=by
 apply List.ext_getElem?
 intro i
 rw[List.getElem?_set,maskH_len]
 by_cases e:k=i
 ·subst e
  rw[if_pos rfl,if_pos hk]
  simp only[maskH,List.getElem?_mapIdx]
  rw[List.getElem?_eq_getElem hk]
  simp[hb]
 ·rw[if_neg e]
  simp only[maskH,List.getElem?_mapIdx]
  congr 1
  funext v
  by_cases h1:i<k
  ·simp[h1,show i<k+1 from by omega]
  ·simp[h1,show ¬i<k+1 from by omega]
theorem maskH_all {h:List Int} {S:Nat} (hl:h.length=8):maskH h S 8=keepH h (fun x=>S.testBit x.toNat):=by
 apply List.ext_getElem?
 intro i
 by_cases hi:i<8
 ·simp only[maskH,keepH,List.getElem?_mapIdx,List.getElem?_map]
  rw[List.getElem?_eq_getElem (by omega),List.getElem?_range' (by omega)]
  have e1:((1+1 * i:Nat):Int).toNat=i+1:=by omega
  have e2:cont h ((1+1 * i:Nat):Int)=h[i]:=by
   unfold cont
   rw[if_pos (by simp only[addrB,decide_eq_true_eq];omega),show (((1+1 * i:Nat):Int) - 1).toNat=i from by omega,List.getElem?_eq_getElem (by omega)]
   rfl
  simp only[Option.map_some,e1,e2,hi,true_and]
  cases S.testBit (i+1)<;>simp
 ·rw[List.getElem?_eq_none (by rw[maskH_len];omega),List.getElem?_eq_none (by simp[keepH];omega)]
set_option maxRecDepth 100000 in
set_option maxHeartbeats 1600000 in
theorem c_impl_stateWith {lo hi:Nat} (v:Value) (s:Ste) (S:Nat) (w:World) (h:StateV w lo hi v s) (hs:s.valid=true) (hS:S<65536) :
  Calls Try.prog 31 #[v,.int .u16 S] w fun e w'=>∃ r,e=.returned r∧StateO w' w.heap.size r (keepS s fun x=>S.testBit x.toNat)∧Below w.heap.size w w':=by
 have hV:=Lib.hid h
 obtain ⟨A1,c1,A2,c2,rfl,-,-⟩:=h
 have H8:=Lib.hid (Ste.valid_len hs).2
 have HS:=Lib.hid hS
 clear hs hS
 go_enter Try.func31,Try.ntmps31
 obtain ⟨k0,k1⟩:=blk2 w tSt tSt #[.slice A1 s.values.length c1,.slice A2 s.heap.length c2] #[.slice none 0 0,.slice none 0 0]
 go_wp2_with fail
 refine (c_impl_copyState _ s _ (hV.out.below bel)).mono ?_
 rintro e w1 ⟨r,rfl,o,hB1⟩
 have hB:=bgo (w:=w) bel hB1
 have hz:w.heap.size≤(((w.alloc (.cells #[.slice A1 s.values.length c1,.slice A2 s.heap.length c2] tSt)).alloc (.cells #[.slice none 0 0,.slice none 0 0] tSt))).heap.size:=by simp;omega
 (replace k1:=k1.next hB1;replace qk1:=k1.cell;replace rk1:=k1.frozen;replace lk1:=k1.lt)
 clear hB1 k0
 obtain ⟨fv,av,rfl,o1,o2,dj⟩:=o
 obtain ⟨F,e1,rfl,-⟩:=o1.reads
 obtain ⟨G,e2,rfl,-⟩:=o2.reads
 have O1:=Lib.hid (o1.lower (base':=w.heap.size) hz)
 have O2:=Lib.hid (o2.lower (base':=w.heap.size) hz)
 have HD:=Lib.hid dj
 have hzw:=hB.size
 have hB2:Below w.heap.size w (w1.alloc (.cells #[.slice F s.values.length e1,.slice G s.heap.length e2] tSt)):=bbox hB _
 have hBw:Below w1.heap.size w1 (w1.alloc (.cells #[.slice F s.values.length e1,.slice G s.heap.length e2] tSt)):=bbox (Below.refl _ _) _
 have k2:Blk (w1.alloc (.cells #[.slice F s.values.length e1,.slice G s.heap.length e2] tSt)) w1.heap.size tSt #[.slice F s.values.length e1,.slice G s.heap.length e2]:=Blk.new _ _ _
 have P1:=Lib.hid (O1.out.below hBw)
 have P2:=Lib.hid (O2.out.below hBw)
 replace k1:=k1.alloc (.cells #[.slice F s.values.length e1,.slice G s.heap.length e2] tSt)
 have hl1:w.heap.size+1<w1.heap.size:=lk1
 clear o1 o2 dj hB O1 O2 hBw hz
 go_wp2_with fail
 go_loopw [6] (fun i wr=>∃ k:Nat,k≤8∧i=.int .i64 ((k:Int)+1)∧Blk wr (w.heap.size+1) tSt #[.slice none 0 0,.slice none 0 0]∧Blk wr w1.heap.size tSt #[.slice F s.values.length e1,.slice G s.heap.length e2]∧Hid (IntsO wr w.heap.size (.slice F s.values.length e1) s.values)∧Hid (IntsO wr w.heap.size (.slice G s.heap.length e2) (maskH s.heap S k))∧Hid (Below w.heap.size w wr)) (fun i _=>10 - (intOf i).toNat)
 case atStart=>exact ⟨0,by omega,rfl,k1,k2,P1.out,by rw[maskH_zero];exact P2.out,hB2⟩
 case round=>
  clear k1 k2 hB2 qk1 rk1 lk1 P1 P2
  obtain ⟨k,hk,rfl,k1,k2,HF,HG,HB⟩:=hrel
  (replace qk1:=k1.cell;replace rk1:=k1.frozen;replace lk1:=k1.lt;replace qk2:=k2.cell;replace rk2:=k2.frozen;replace lk2:=k2.lt)
  have hsz:=HB.out.size
  by_cases hlt:k<8
  ·have hki:(k:Int)+1≤8:=by omega
   have hv:addrB ((k:Int)+1)=true:=by simp only[addrB,decide_eq_true_eq];omega
   have ht:((k:Int)+1).toNat=k+1:=by omega
   go_wp2_with fail
   refine (c_impl_cellHas S _ _ HS.out).mono ?_
   rintro e w2 ⟨rfl,rfl⟩
   rw[hv,ht]
   clear hv ht
   cases hb:S.testBit (k+1)
   ·have HM:=Lib.hid (maskH_drop (h:=s.heap) hb (by have:=H8.out;omega))
    clear hb
    have hnl:(k:Int)<(s.heap.length:Int):=by have:=H8.out;omega
    have HX:=Lib.hid (maskH_len s.heap S k)
    obtain ⟨g,cur,-,rfl,hg,kg,hc,hset⟩:=HG.out.cell_ (k:=k) (by rw[maskH_len];have:=H8.out;omega)
    have q:=kg.cell k
    rw[hc] at q
    obtain ⟨y,hy⟩:∃ y,y=(maskH s.heap S k)[k]'(by rw[maskH_len];have:=H8.out;omega):=⟨_,rfl⟩
    rw[←hy] at q
    have f:=kg.frozen k
    have hgl:=kg.lt
    have HSET:=Lib.hid (hset (-1))
    have hne1:w.heap.size+1≠g:=k1.ne_ kg (by decide)
    have hne2:w1.heap.size≠g:=k2.ne_ kg (by decide)
    have H12:=Lib.hid (And.intro hne1 hne2)
    clear hset hc hy
    go_wp2_with fail
    go_round
    case rel=>exact ⟨k+1,by omega,by go_num,k1.far (p:=⟨g,k,none⟩) H12.out.1 _,k2.far (p:=⟨g,k,none⟩) H12.out.2 _,HF.out.set_ne (q:=⟨g,k,none⟩) (fun e=>HD.out g e rfl) _,by rw[HM.out];exact HSET.out,HB.out.setCell (p:=⟨g,k,none⟩) hg _⟩
    case measure=>simp[intOf];omega
   ·have HM:=Lib.hid (maskH_keep (h:=s.heap) hb)
    clear hb
    go_wp2_with fail
    go_round
    case rel=>exact ⟨k+1,by omega,by go_num,k1,k2,HF.out,by rw[HM.out];exact HG.out,HB.out⟩
    case measure=>simp[intOf];omega
  ·obtain rfl:k=8:=by omega
   have hne:w1.heap.size≠w.heap.size+1:=by omega
   have HM:=Lib.hid (maskH_all (S:=S) H8.out)
   go_wp2_with fail
   refine bodyPost_ret (v:=.agg #[.slice F s.values.length e1,.slice G s.heap.length e2]) (by simp[results,Try.results31,go_sem,qk1]) rfl ⟨_,rfl,⟨_,_,rfl,?_,?_,HD.out⟩,?_⟩
   ·exact (HF.out.setT k1 (by decide) 0 _).setT (k1.set_ 0 _) (by decide) 1 _
   ·show IntsO _ _ _ (keepH s.heap fun x=>S.testBit x.toNat)
    rw[←HM.out]
    exact (HG.out.setT k1 (by decide) 0 _).setT (k1.set_ 0 _) (by decide) 1 _
   ·exact (HB.out.setCell (p:=⟨w.heap.size+1,0,none⟩) (by simp only;omega) _).setCell (p:=⟨w.heap.size+1,1,none⟩) (by simp only;omega) _
end Go.Proofs.Ytjjokmlmknllhaa

/- Contracts: impl's KeepCells and DropCells, for allocated cells that differ. -/
namespace Go.Proofs.Ytjjokmlmknllhaa
open Go Go.RowKit Go.Proofs
theorem keepS_congr {s:Ste} {p q:Int→Bool} (h:∀ x,addrB x=true→p x=q x):keepS s p=keepS s q:=by
 unfold keepS keepH
 congr 1
 apply List.map_congr_left
 intro n hn
 rw[List.mem_range'_1] at hn
 rw[h n (by simp only[addrB,decide_eq_true_eq];omega)]
theorem cells_nonneg {s:Ste} {cs:List Int} (hc:∀ c∈cs,allocB s.heap c=true):∀ c∈cs,1≤c∧c≤8:=fun c h=>by
 have:=(cont_alloc (hc c h)).1
 simpa [addrB] using this
theorem cells_lt {s:Ste} {cs:List Int} (hc:∀ c∈cs,allocB s.heap c=true) (k:Nat):bitsOf (cs.take k)<512:=by
 have:=bitsOf_lt (l:=cs.take k) (k:=9) (fun x hx=>by have:=cells_nonneg hc x (List.mem_of_mem_take hx);omega)
 simpa using this
theorem cells_new {s:Ste} {cs:List Int} (hc:∀ c∈cs,allocB s.heap c=true) (hn:cs.Nodup) {k:Nat} (hk:k<cs.length):(bitsOf (cs.take k)).testBit (cs[k]).toNat=false:=by
 rw[testBit_bitsOf (fun x hx=>by have:=cells_nonneg hc x (List.mem_of_mem_take hx);omega),decide_eq_false_iff_not]
 have h1:=cells_nonneg hc cs[k] (List.getElem_mem hk)
 rw[Int.toNat_of_nonneg (by omega)]
 intro hm
 obtain ⟨i,hi,e⟩:=List.getElem_of_mem hm
 rw[List.length_take] at hi
 rw[List.getElem_take] at e
 exact List.pairwise_iff_getElem.1 hn i k (by omega) hk (by omega) e
set_option maxRecDepth 100000 in
set_option maxHeartbeats 3200000 in
theorem c_impl_chosenCells {lo hi lo' hi':Nat} (v:Value) (s:Ste) (A:Option Addr) (c:Nat) (cs:List Int) (w:World) (h:StateV w lo hi v s) (hA:IntsV w lo' hi' A cs) (hs:s.valid=true) (hc:∀ c∈cs,allocB s.heap c=true) (hn:cs.Nodup) :
  Calls Try.prog 30 #[v,.slice A cs.length c] w fun e w'=>e=.returned (.tuple #[.int .u16 (bitsOf cs),.bool true])∧Below w.heap.size w w':=by
 have hV:=Lib.hid h
 have HX:=Lib.hid hA
 have HL:=Lib.hid hA.le
 obtain ⟨A1,c1,A2,c2,rfl,-,-⟩:=h
 have H8:=Lib.hid (Ste.valid_len hs).2
 have HS:=Lib.hid hs
 have HC:=Lib.hid hc
 have HN:=Lib.hid hn
 clear hs hc hn hA
 go_enter Try.func30,Try.ntmps30
 have k0:Blk (w.alloc (.cells #[.slice A1 s.values.length c1,.slice A2 s.heap.length c2] tSt)) w.heap.size tSt #[.slice A1 s.values.length c1,.slice A2 s.heap.length c2]:=blks
 go_wp2_with fail
 refine (c_impl_StateValid _ s _ (hV.out.below bel)).mono ?_
 rintro e w1 ⟨rfl,hB1⟩
 rw[HS.out]
 have hB:Hid (Below w.heap.size w w1):=bgo (w:=w) bel hB1
 (replace k0:=k0.next hB1;replace qk0:=k0.cell;replace rk0:=k0.frozen;replace lk0:=k0.lt)
 clear hB1
 go_wp2_with fail
 go_loopw [6,14] (fun S i wr=>∃ k:Nat,k≤cs.length∧i=.int .i64 k∧S=.int .u16 (bitsOf (cs.take k))∧Blk wr w.heap.size tSt #[.slice A1 s.values.length c1,.slice A2 s.heap.length c2]∧Hid (Below w.heap.size w wr)) (fun _ i _=>cs.length - (intOf i).toNat)
 case atStart=>exact ⟨0,Nat.zero_le _,rfl,by rw[List.take_zero];rfl,k0,hB⟩
 case round=>
  clear k0 hB qk0 rk0 lk0
  obtain ⟨k,hk,rfl,rfl,k0,HB⟩:=hrel
  have hcl:=HL.out
  (replace qk0:=k0.cell;replace rk0:=k0.frozen;replace lk0:=k0.lt)
  by_cases hlt:k<cs.length
  ·obtain ⟨b,off,e,g0⟩:=(HX.out.below HB.out).at hlt
   subst e
   have hki:(k:Int)<(cs.length:Int):=by omega
   have hb8:=cells_nonneg HC.out cs[k] (List.getElem_mem hlt)
   have hal:Hid (allocB s.heap cs[k]=true):=HC.out _ (List.getElem_mem hlt)
   have hnew:Hid ((bitsOf (cs.take k)).testBit (cs[k]).toNat=false):=cells_new HC.out HN.out hlt
   have HTK:Hid (bitsOf (cs.take (k+1))=bitsOf (cs.take k)|||1 <<< (cs[k]).toNat):=by show _=_;rw[List.take_succ_eq_append_getElem hlt,bitsOf_snoc]
   have HLT:=Lib.hid (cells_lt HC.out k)
   obtain ⟨f,hf⟩:∃ f,f=cs[k]:=⟨_,rfl⟩
   rw[←hf] at g0 hb8 hal hnew HTK
   clear hf
   obtain ⟨m,rfl⟩:∃ m:Nat,f=(m:Int)+1:=⟨(f - 1).toNat,by omega⟩
   have hm8:m<8:=by omega
   have ev:addrB ((m:Int)+1)=true:=by simp only[addrB,decide_eq_true_eq];omega
   have et:((m:Int)+1).toNat=m+1:=by omega
   go_wp2_with fail
   refine (c_impl_allocated _ s _ _ (hV.out.below HB.out) H8.out).mono ?_
   rintro e w2 ⟨rfl,hB2⟩
   rw[hal.out]
   have hB3:Hid (Below w.heap.size w w2):=bgo HB.out hB2
   (replace k0:=k0.next hB2;replace qk0:=k0.cell;replace rk0:=k0.frozen;replace lk0:=k0.lt)
   clear hB2
   go_wp2_with fail
   refine (c_impl_cellHas _ _ _ (by have:=HLT.out;omega)).mono ?_
   rintro e w3 ⟨rfl,rfl⟩
   rw[ev,hnew.out]
   clear ev
   go_wp2_with fail
   go_round
   case rel=>
    refine ⟨k+1,by omega,by go_num,?_,k0,hB3⟩
    rw[HTK.out,et]
    congr 1
    exact bit_or _ _ (by have:=HLT.out;omega) (by omega)
   case measure=>simp[intOf];omega
  ·obtain rfl:k=cs.length:=by omega
   go_wp2_with fail
   go_ret2
   exact ⟨by rw[List.take_length];rfl,HB.out⟩
theorem not_bits {S:Nat} (h:S<65536) (n:Nat) (hn:n<16):(65535 - S).testBit n = !S.testBit n:=by
 have:=Nat.testBit_two_pow_sub_succ (x:=S) (n:=16) (by omega) n
 rw[show 2 ^ 16 - (S+1)=65535 - S from by omega] at this
 rw[this]
 simp[hn]
theorem xor_max {S:Nat} (h:S<65536):bits .xor .u16 IntKind.u16.max (S:Int)=((65535 - S:Nat):Int):=by
 show IntKind.u16.wrap ((BitVec.ofInt 16 (65535:Int) ^^^ BitVec.ofInt 16 (S:Int)).toNat:Int)=_
 rw[BitVec.toNat_xor,ofInt_u16 S h,show (65535:Int)=((65535:Nat):Int) from rfl,ofInt_u16 65535 (by omega)]
 have e:65535 ^^^ S=65535 - S:=by
  apply Nat.eq_of_testBit_eq
  intro n
  rw[Nat.testBit_xor]
  by_cases hn:n<16
  ·rw[not_bits h n hn,show 65535=2 ^ 16 - 1 from rfl,Nat.testBit_two_pow_sub_one]
   simp[hn]
  ·have h1:65535<2 ^ n:=Nat.lt_of_lt_of_le (by omega:65535<2 ^ 16) (Nat.pow_le_pow_right (by omega) (by omega))
   rw[Nat.testBit_lt_two_pow h1,Nat.testBit_lt_two_pow (show S<2 ^ n by omega),Nat.testBit_lt_two_pow (show 65535 - S<2 ^ n by omega)]
   rfl
 rw[e,wrap_u16 _ (by omega)]
set_option maxRecDepth 100000 in
set_option maxHeartbeats 1600000 in
theorem c_impl_DropCells {lo hi lo' hi':Nat} (v:Value) (s:Ste) (A:Option Addr) (c:Nat) (cs:List Int) (w:World) (h:StateV w lo hi v s) (hA:IntsV w lo' hi' A cs) (hs:s.valid=true) (hc:∀ c∈cs,allocB s.heap c=true) (hn:cs.Nodup) :
  Calls Try.prog 11 #[v,.slice A cs.length c] w fun e w'=>∃ r,e=.returned (.tuple #[r,.bool true])∧StateO w' w.heap.size r (keepS s fun x=>!decide (x∈cs))∧Below w.heap.size w w':=by
 have hV:=Lib.hid h
 have HX:=Lib.hid hA
 obtain ⟨A1,c1,A2,c2,rfl,-,-⟩:=h
 have HS:=Lib.hid hs
 have HC:=Lib.hid hc
 have HN:=Lib.hid hn
 have HLT:Hid (bitsOf cs<65536):=by show _<_;have:=cells_lt hc cs.length;rw[List.take_length] at this;omega
 have HK:Hid (keepS s (fun x=>(65535 - bitsOf cs).testBit x.toNat)=keepS s fun x=>!decide (x∈cs)):=by
  refine keepS_congr fun x hx=>?_
  simp only[addrB,decide_eq_true_eq] at hx
  rw[not_bits HLT.out _ (by omega),testBit_bitsOf (fun c h=>by have:=cells_nonneg hc c h;omega),Int.toNat_of_nonneg (by omega)]
 clear hs hc hn hA
 go_enter Try.func11,Try.ntmps11
 obtain ⟨k0,k1⟩:=blk2 w tSt tSt #[.slice A1 s.values.length c1,.slice A2 s.heap.length c2] #[.slice none 0 0,.slice none 0 0]
 go_wp2_with fail
 refine (c_impl_chosenCells _ s A c cs _ (hV.out.below bel) (HX.out.below bel) HS.out HC.out HN.out).mono ?_
 rintro e w1 ⟨rfl,hB1⟩
 have hB:=bgo (w:=w) bel hB1
 (replace k0:=k0.next hB1;replace qk0:=k0.cell;replace rk0:=k0.frozen;replace lk0:=k0.lt;replace k1:=k1.next hB1;replace qk1:=k1.cell;replace rk1:=k1.frozen;replace lk1:=k1.lt)
 clear hB1
 go_wp2_with fail
 rw[xor_max HLT.out]
 refine (c_impl_stateWith _ s (65535 - bitsOf cs) _ (hV.out.below hB) HS.out (by omega)).mono ?_
 rintro e w2 ⟨r,rfl,o,hB2⟩
 have hz:=hB.size
 (replace hB:=bgo hB hB2;replace k0:=k0.next hB2;replace qk0:=k0.cell;replace rk0:=k0.frozen;replace lk0:=k0.lt;replace k1:=k1.next hB2;replace qk1:=k1.cell;replace rk1:=k1.frozen;replace lk1:=k1.lt)
 clear hB2
 obtain ⟨s',hs'⟩:∃ s',s'=keepS s fun x=>!decide (x∈cs):=⟨_,rfl⟩
 have HK2:=Lib.hid hs'
 rw[HK.out,←hs'] at o
 clear hs'
 obtain ⟨fv,av,rfl,o1,o2,dj⟩:=o
 obtain ⟨F,e1,rfl,-⟩:=o1.reads
 obtain ⟨G,e2,rfl,-⟩:=o2.reads
 have O1:=Lib.hid (o1.lower (base':=w.heap.size) hz)
 have O2:=Lib.hid (o2.lower (base':=w.heap.size) hz)
 have HD:=Lib.hid dj
 clear o1 o2 dj
 go_wp2_with fail
 refine bodyPost_ret (v:=.tuple #[.agg #[.slice F s'.values.length e1,.slice G s'.heap.length e2],.bool true]) (by simp[results,Try.results11,go_sem,qk1]) rfl ⟨_,rfl,?_,?_⟩
 ·rw[←HK2.out]
  exact ⟨_,_,rfl,(O1.out.setT k1 (by decide) 0 _).setT (k1.set_ 0 _) (by decide) 1 _,(O2.out.setT k1 (by decide) 0 _).setT (k1.set_ 0 _) (by decide) 1 _,HD.out⟩
 ·exact (hB.setCell (p:=⟨w.heap.size+1,0,none⟩) (by simp only;omega) _).setCell (p:=⟨w.heap.size+1,1,none⟩) (by simp only;omega) _
end Go.Proofs.Ytjjokmlmknllhaa

/- Contracts: impl's KeepCells and DropCells where the cells are refused. -/
namespace Go.Proofs.Ytjjokmlmknllhaa
open Go Go.RowKit Go.Proofs
def okC (s:Ste) (cs:List Int):Prop:=s.valid=true∧(∀ c∈cs,allocB s.heap c=true)∧cs.Nodup
theorem nodup_snoc {cs:List Int} {k:Nat} (hk:k<cs.length) (h:(cs.take k).Nodup) (hm:cs[k]∉cs.take k):(cs.take (k+1)).Nodup:=by
 rw[List.take_succ_eq_append_getElem hk,List.nodup_append]
 refine ⟨h,by simp,fun a ha b hb e=>?_⟩
 rw[List.mem_singleton] at hb
 exact hm (by rw[←hb,←e];exact ha)
theorem all_snoc {p:Int→Prop} {cs:List Int} {k:Nat} (hk:k<cs.length) (h:∀ c∈cs.take k,p c) (hm:p cs[k]):∀ c∈cs.take (k+1),p c:=fun c hc=>by
 rw[List.take_succ_eq_append_getElem hk,List.mem_append,List.mem_singleton] at hc
 rcases hc with h1|h1
 ·exact h c h1
 ·rw[h1];exact hm
theorem take_lt {s:Ste} {cs:List Int} {k:Nat} (hc:∀ c∈cs.take k,allocB s.heap c=true):bitsOf (cs.take k)<512:=by
 have:=cells_lt (s:=s) (cs:=cs.take k) hc (cs.take k).length
 rwa [List.take_length] at this
set_option maxRecDepth 100000 in
set_option maxHeartbeats 3200000 in
theorem c_impl_chosenNo {lo hi lo' hi':Nat} (v:Value) (s:Ste) (A:Option Addr) (c:Nat) (cs:List Int) (w:World) (h:StateV w lo hi v s) (hA:IntsV w lo' hi' A cs) (hno:¬okC s cs) :
  Calls Try.prog 30 #[v,.slice A cs.length c] w fun e w'=>e=.returned (.tuple #[.int .u16 0,.bool false])∧Below w.heap.size w w':=by
 have hV:=Lib.hid h
 have HX:=Lib.hid hA
 have HL:=Lib.hid hA.le
 obtain ⟨A1,c1,A2,c2,rfl,-,-⟩:=h
 have HNO:Hid (¬okC s cs):=Lib.hid hno
 clear hA hno
 go_enter Try.func30,Try.ntmps30
 have k0:Blk (w.alloc (.cells #[.slice A1 s.values.length c1,.slice A2 s.heap.length c2] tSt)) w.heap.size tSt #[.slice A1 s.values.length c1,.slice A2 s.heap.length c2]:=blks
 go_wp2_with fail
 refine (c_impl_StateValid _ s _ (hV.out.below bel)).mono ?_
 rintro e w1 ⟨rfl,hB1⟩
 have hB:Hid (Below w.heap.size w w1):=bgo (w:=w) bel hB1
 (replace k0:=k0.next hB1;replace qk0:=k0.cell;replace rk0:=k0.frozen;replace lk0:=k0.lt)
 clear hB1
 cases hs:s.valid
 ·clear HNO
  go_wp2_with fail
  go_ret2
  exact ⟨rfl,hB⟩
 have H8:=Lib.hid (Ste.valid_len hs).2
 have HN2:Hid (¬((∀ c∈cs,allocB s.heap c=true)∧cs.Nodup)):=Lib.hid fun h2=>HNO.out ⟨hs,h2⟩
 clear hs HNO
 go_wp2_with fail
 go_loopw [6,14] (fun S i wr=>∃ k:Nat,k≤cs.length∧i=.int .i64 k∧S=.int .u16 (bitsOf (cs.take k))∧Hid ((∀ c∈cs.take k,allocB s.heap c=true)∧(cs.take k).Nodup)∧Blk wr w.heap.size tSt #[.slice A1 s.values.length c1,.slice A2 s.heap.length c2]∧Hid (Below w.heap.size w wr)) (fun _ i _=>cs.length - (intOf i).toNat)
 case atStart=>exact ⟨0,Nat.zero_le _,rfl,by rw[List.take_zero];rfl,by rw[List.take_zero];exact Lib.hid ⟨by simp,by simp⟩,k0,hB⟩
 case round=>
  clear k0 hB qk0 rk0 lk0
  obtain ⟨k,hk,rfl,rfl,HOK,k0,HB⟩:=hrel
  have hcl:=HL.out
  (replace qk0:=k0.cell;replace rk0:=k0.frozen;replace lk0:=k0.lt)
  by_cases hlt:k<cs.length
  ·obtain ⟨b,off,e,g0⟩:=(HX.out.below HB.out).at hlt
   subst e
   have hki:(k:Int)<(cs.length:Int):=by omega
   have HTK:Hid (bitsOf (cs.take (k+1))=bitsOf (cs.take k)|||1 <<< (cs[k]).toNat):=by show _=_;rw[List.take_succ_eq_append_getElem hlt,bitsOf_snoc]
   have HLT:=Lib.hid (take_lt HOK.out.1)
   have HMEM:Hid (∀ n:Nat,(bitsOf (cs.take k)).testBit n=decide ((n:Int)∈cs.take k)):=Lib.hid fun n=>testBit_bitsOf (fun x hx=>by have:=cells_nonneg HOK.out.1 x hx;omega) n
   have HALL:=Lib.hid (fun h=>all_snoc (p:=fun c=>allocB s.heap c=true) hlt HOK.out.1 h)
   have HND:=Lib.hid (nodup_snoc hlt HOK.out.2)
   obtain ⟨f,hf⟩:∃ f,f=cs[k]:=⟨_,rfl⟩
   rw[←hf] at g0 HTK HALL HND
   clear hf
   go_wp2_with fail
   refine (c_impl_allocated _ s _ _ (hV.out.below HB.out) H8.out).mono ?_
   rintro e w2 ⟨rfl,hB2⟩
   have hB3:Hid (Below w.heap.size w w2):=bgo HB.out hB2
   (replace k0:=k0.next hB2;replace qk0:=k0.cell;replace rk0:=k0.frozen;replace lk0:=k0.lt)
   clear hB2
   cases ha:allocB s.heap f
   ·clear HALL HND HTK HMEM HOK ha
    go_wp2_with fail
    go_ret2
    exact ⟨rfl,hB3⟩
   have hb8:1≤f∧f≤8:=by
    have:=(cont_alloc ha).1
    simpa [addrB] using this
   have HAL2:=Lib.hid (HALL.out ha)
   clear ha HALL
   obtain ⟨m,rfl⟩:∃ m:Nat,f=(m:Int)+1:=⟨(f - 1).toNat,by omega⟩
   have hm8:m<8:=by omega
   have ev:addrB ((m:Int)+1)=true:=by simp only[addrB,decide_eq_true_eq];omega
   have et:((m:Int)+1).toNat=m+1:=by omega
   go_wp2_with fail
   refine (c_impl_cellHas _ _ _ (by have:=HLT.out;omega)).mono ?_
   rintro e w3 ⟨rfl,rfl⟩
   rw[ev,et,HMEM.out]
   by_cases hmem:(m:Int)+1∈cs.take k
   ·have hd:decide (((m+1:Nat):Int)∈cs.take k)=true:=by rw[decide_eq_true_iff];simpa using hmem
    rw[hd]
    clear HND HTK HMEM HOK HAL2 hmem hd
    go_wp2_with fail
    go_ret2
    exact ⟨rfl,hB3⟩
   ·have hd:decide (((m+1:Nat):Int)∈cs.take k)=false:=by rw[decide_eq_false_iff_not];simpa using hmem
    have HND2:=Lib.hid (HND.out hmem)
    rw[hd]
    clear hd hmem HND HOK HMEM ev
    go_wp2_with fail
    go_round
    case rel=>
     refine ⟨k+1,by omega,by go_num,?_,Lib.hid ⟨HAL2.out,HND2.out⟩,k0,hB3⟩
     rw[HTK.out,et]
     congr 1
     exact bit_or _ _ (by have:=HLT.out;omega) (by omega)
    case measure=>simp[intOf];omega
  ·obtain rfl:k=cs.length:=by omega
   refine absurd ?_ HN2.out
   have:=HOK.out
   rwa [List.take_length] at this
set_option maxRecDepth 100000 in
set_option maxHeartbeats 1600000 in
theorem c_impl_DropNo {lo hi lo' hi':Nat} (v:Value) (s:Ste) (A:Option Addr) (c:Nat) (cs:List Int) (w:World) (h:StateV w lo hi v s) (hA:IntsV w lo' hi' A cs) (hno:¬okC s cs) :
  Calls Try.prog 11 #[v,.slice A cs.length c] w fun e w'=>e=.returned (.tuple #[.agg #[.slice none 0 0,.slice none 0 0],.bool false])∧Below w.heap.size w w':=by
 have hV:=Lib.hid h
 have HX:=Lib.hid hA
 obtain ⟨A1,c1,A2,c2,rfl,-,-⟩:=h
 have HNO:Hid (¬okC s cs):=Lib.hid hno
 clear hA hno
 go_enter Try.func11,Try.ntmps11
 obtain ⟨k0,k1⟩:=blk2 w tSt tSt #[.slice A1 s.values.length c1,.slice A2 s.heap.length c2] #[.slice none 0 0,.slice none 0 0]
 go_wp2_with fail
 refine (c_impl_chosenNo _ s A c cs _ (hV.out.below bel) (HX.out.below bel) HNO.out).mono ?_
 rintro e w1 ⟨rfl,hB1⟩
 have hB:=bgo (w:=w) bel hB1
 (replace k0:=k0.next hB1;replace qk0:=k0.cell;replace rk0:=k0.frozen;replace lk0:=k0.lt;replace k1:=k1.next hB1;replace qk1:=k1.cell;replace rk1:=k1.frozen;replace lk1:=k1.lt)
 clear hB1
 go_wp2_with fail
 refine bodyPost_ret (v:=.tuple #[.agg #[.slice none 0 0,.slice none 0 0],.bool false]) (by simp[results,Try.results11,go_sem,qk1]) rfl ⟨rfl,?_⟩
 exact (hB.setCell (p:=⟨w.heap.size+1,0,none⟩) (by simp only;omega) _).setCell (p:=⟨w.heap.size+1,1,none⟩) (by simp only;omega) _
end Go.Proofs.Ytjjokmlmknllhaa

/- Contracts: equal states (impl.StateSame). -/
namespace Go.Proofs.Ytjjokmlmknllhaa
open Go Go.RowKit Go.Proofs
attribute [local go_sem ↓] Go.wp_at_zero Go.wp_at_succ
end Go.Proofs.Ytjjokmlmknllhaa
