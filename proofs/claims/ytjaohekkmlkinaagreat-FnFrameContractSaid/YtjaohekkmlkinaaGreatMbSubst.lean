/- Sets of terms as flags: the spec's contracts. -/
import Derived.Test.YtjaohekkmlkinaaGreatMbTidyP
import Derived.Test.YtjaohekkmlkinaaGreatMbDrawC
import Derived.Laws.CopyOwn
set_option linter.unusedSimpArgs false
set_option linter.unusedVariables false
set_option maxRecDepth 100000
set_option maxHeartbeats 25600000
namespace Go.Proofs.YtjaohekkmlkinaaGreat
section
open Go Go.RowKit Go.Proofs
attribute [local go_sem ↓] Go.wp_at_zero Go.wp_at_succ
theorem termsL_ok {a:Asn} (h:a.valid=true):∀ t∈mz a,jq t=true:=by
 simp only[Asn.valid,factsValid,Bool.and_eq_true,List.all_eq_true] at h;intro t ht;simp only[mz,List.mem_append,List.mem_flatMap] at ht;rcases ht with ⟨f,hf,ht⟩|⟨f,hf,ht⟩
 ·have:=h.1.2 f hf;simp only[Fct.valid,Bool.and_eq_true] at this;simp only[factT,List.mem_cons,List.not_mem_nil,or_false] at ht;rcases ht with rfl|rfl
  ·exact this.1
  ·exact this.2
 ·have:=h.2.2 f hf;simp only[Atm.valid,Bool.and_eq_true] at this;simp only[atomT,List.mem_cons,List.not_mem_nil,or_false] at ht;rcases ht with rfl|rfl
  ·exact this.1.2
  ·exact this.2
theorem termsL_atoms {a:Asn} {k:Nat} (h:k<a.atoms.length):a.atoms[k].a∈mz a∧a.atoms[k].b∈mz a:=by
 simp only[mz,List.mem_append,List.mem_flatMap];exact ⟨Or.inr ⟨_,List.getElem_mem h,by simp[atomT]⟩,Or.inr ⟨_,List.getElem_mem h,by simp[atomT]⟩⟩
theorem tins_flags (S m:Nat) (hm:m≤8):((encB (zj S)).toArray).setIfInBounds m (.bool true)=(encB (zj (tins S (m:Int)))).toArray:=by
 rw[flags_upd,tins,if_pos (zjA.2 (by omega)),Int.toNat_natCast]
theorem BoolsO.ofBlk {w:World} {g base S:Nat} (h:Blk w g tB (encB (zj S)).toArray) (hb:base≤g):BoolsO w base (.slice (some ⟨g,0,none⟩) 9 9) (zj S):=
 ⟨own_of_blk (n:=9) (cap:=9) h hb (by simp[zj]) (by intro j hj;simp) (Nat.le_refl _) (by decide) (by simp[zj]),by simp[zj,Lim]⟩
theorem mkB9 (w:World):(Instr.makeSlice 124 (.int .i64 9) (.int .i64 9)).run Tryz.prog w=.ok (.slice (some ⟨w.heap.size,0,none⟩) 9 9) (w.alloc (.cells (encB (zj 0)).toArray tB)):=
 (mkB 9 (by decide) w).trans (by rw[show (madeCells #[.bool false] (9 * 1))=(encB (zj 0)).toArray from by kernel_rfl])
theorem flags_at {w:World} {lo hi b o K m:Nat} (h:BoolsV w lo hi (some ⟨b,o,none⟩) (zj K)) (hm:m≤8):w.cell? ⟨b,o+m,none⟩=some (.bool (K.testBit m)):=by
 have:=h.cl (k:=m) (by rw[zjB];omega);rw[this];have e:=flagsOf_get K m (by omega);rw[List.getElem?_eq_getElem (by rw[zjB];omega)] at e;rw[Option.some.inj e]
theorem flags_addr {w:World} {lo hi K:Nat} {A:Option Addr} (h:BoolsV w lo hi A (zj K)):∃ b o,A=some ⟨b,o,none⟩∧b<w.heap.size:=h.blt (k:=0) (by rw[zjB];omega)
theorem c_spec_l10Busy {lo hi:Nat} (A:Option Addr) (c:Nat) (xs:List Int) (w:World) (h:IntsV w lo hi A xs):Calls Tryz.prog 109 #[.slice A xs.length c] w fun e w'=>∃ r,e=.returned r∧BoolsO w' w.heap.size r (zj (tset xs))∧Below w.heap.size w w':=by
 have hl:=h.le;have hmk:=mkB9;have HT:aJ (tset xs=xs.foldl tins 0):=by show _=_;unfold tset;rfl
 (go_enter Tryz.func109,Tryz.ntmps109);go_wp2;clear hmk
 go_loopw [4] (fun i wr=>∃ (k T:Nat),k≤xs.length∧i=.int .i64 k∧aJ (tset xs=(xs.drop k).foldl tins T)∧Blk wr w.heap.size tB (encB (zj T)).toArray∧Below w.heap.size w wr) (fun i _=>xs.length - (intOf i).toNat)
 case atStart=>exact ⟨0,0,Nat.zero_le _,rfl,HT.o,blks,bel⟩
 case round=>
  obtain ⟨k,T,hk,rfl,HA,k0,hB⟩:=hrel;by_cases hlt:k<xs.length
  ·obtain ⟨b,off,rfl,c0⟩:=(h.bz hB).at hlt;have HD:=ax (foldl_step tins T xs k hlt);have hne:=block_lt_of_cell c0;cases ht:jq xs[k]
   ·have HS:aJ (tins T xs[k]=T):=by simp[aJ,tins,ht]
    go_wp2_with (go_at_call 174;refine (c_spec_l1Is _ _).mono ?_;rintro e w' ⟨rfl,rfl⟩)
    go_round
    case rel=>exact ⟨k+1,T,by omega,by go_num,by show _=_;rw[HA.o,HD.o,HS.o],k0,hB⟩
    case measure=>simp[intOf];omega
   ·have hb:=zjA.1 ht;obtain ⟨m,hm⟩:=Int.eq_ofNat_of_zero_le hb.1;have HM:=ax hm;have m8:m≤8:=by omega
    have m8':(m:Int)<9:=by omega
    rw[hm] at c0 ht;have q3:wr.cell? ⟨w.heap.size,m,none⟩=some (.bool (T.testBit m)):=(k0.cell m).trans (flags_cell T _ rfl (by omega));have r3:=k0.frozen;clear hm hb;(go_wp2_with (go_at_call 174;refine (c_spec_l1Is _ _).mono ?_;rintro e w' ⟨rfl,rfl⟩))
    go_round
    case rel=>
     refine ⟨k+1,tins T xs[k],by omega,by go_num,by show _=_;rw[HA.o,HD.o],?_,bel⟩;rw[HM.o,←tins_flags _ _ m8];exact k0.set_ _ _
    case measure=>simp[intOf];omega
  ·obtain rfl:k=xs.length:=by omega
   go_wp2;go_ret;refine ⟨_,rfl,?_,hB⟩;rw[HA.o,List.drop_length];exact BoolsO.ofBlk k0 (Nat.le_refl _)
theorem flags2 (T m1 m2:Nat) (h1:m1≤8) (h2:m2≤8):(((encB (zj T)).toArray).setIfInBounds m1 (.bool true)).setIfInBounds m2 (.bool true)=(encB (zj (tins (tins T (m1:Int)) (m2:Int)))).toArray:=by
 rw[tins_flags _ _ h1,tins_flags _ _ h2]
theorem Blk.two {w:World} {g T m1 m2:Nat} (h:Blk w g tB (encB (zj T)).toArray) (h1:m1≤8) (h2:m2≤8):Blk ((w.setCell ⟨g,m1,none⟩ (.bool true)).setCell ⟨g,m2,none⟩ (.bool true)) g tB (encB (zj (tins (tins T (m1:Int)) (m2:Int)))).toArray:=by
 rw[←flags2 _ _ _ h1 h2];exact (h.set_ _ _).set_ _ _
theorem Blk.twice {w:World} {g T m1:Nat} (h:Blk w g tB (encB (zj T)).toArray) (h1:m1≤8):Blk (w.setCell ⟨g,m1,none⟩ (.bool true)) g tB (encB (zj (tins (tins T (m1:Int)) (m1:Int)))).toArray:=by
 rw[←tins_flags _ _ h1,←tins_flags _ _ h1]
 have e:∀ (a:Array Value) (i:Nat) (u:Value),(a.setIfInBounds i u).setIfInBounds i u=a.setIfInBounds i u:=by
  intro a i u;apply Array.ext_getElem?;intro j;by_cases e:i=j
  ·subst e;rw[Array.getElem?_setIfInBounds_self,Array.size_setIfInBounds,Array.getElem?_setIfInBounds_self]
  ·rw[Array.getElem?_setIfInBounds_ne e]
 rw[e];exact h.set_ _ _
theorem c_spec_l3Terms {lo hi:Nat} (v:Value) (a:Asn) (w:World) (h:AsnV w lo hi v a) (hv:∀ t∈mz a,jq t=true):Calls Tryz.prog 85 #[v] w fun e w'=>∃ r,e=.returned r∧BoolsO w' w.heap.size r (zj (tset (mz a)))∧Below w.heap.size w w':=by
 obtain ⟨A1,c1,A2,c2,rfl,h1,h2⟩:=h;have hl1:=h1.le;have hl2:=h2.le;have hmk:=mkB9;have HV:=ax hv;have HT:=ax (tset_terms a);clear hv;(go_enter Tryz.func85,Tryz.ntmps85);go_wp2;clear hmk
 go_loopw [4] (fun i wr=>∃ (k T:Nat),k≤a.facts.length∧i=.int .i64 k∧aJ (a.facts.foldl (fun S f=>tins (tins S f.a) f.b) 0=(a.facts.drop k).foldl (fun S f=>tins (tins S f.a) f.b) T)∧Blk wr w.heap.size 37 #[.slice A1 a.facts.length c1,.slice A2 a.atoms.length c2]∧Blk wr (w.heap.size+1) tB (encB (zj T)).toArray∧Below w.heap.size w wr) (fun i _=>a.facts.length - (intOf i).toNat)
 case atStart=>exact ⟨0,0,Nat.zero_le _,rfl,rfl,blks,blks,bel⟩
 case round=>
  obtain ⟨k,T,hk,rfl,HA,k0,k1,hB⟩:=hrel;have qk0:=k0.cell;by_cases hlt:k<a.facts.length
  ·obtain ⟨b,off,rfl,hbl⟩:=h1.blt hlt;obtain ⟨g0,g1,g2⟩:=(h1.bz hB).cl hlt;have HD:=ax (foldl_step (fun S (f:Fct)=>tins (tins S f.a) f.b) T a.facts k hlt);have hm:=termsL_facts (List.getElem_mem hlt);have b1:=zjA.1 (HV.o _ hm.1);have b2:=zjA.1 (HV.o _ hm.2);obtain ⟨m1,e1⟩:=Int.eq_ofNat_of_zero_le b1.1;obtain ⟨m2,e2⟩:=Int.eq_ofNat_of_zero_le b2.1;have E1:=ax e1;have E2:=ax e2;rw[e1] at g1;rw[e2] at g2;have m18:(m1:Int)<9:=by omega
   have m28:(m2:Int)<9:=by omega
   have q1:wr.cell? ⟨w.heap.size+1,m1,none⟩=some (.bool (T.testBit m1)):=(k1.cell m1).trans (flags_cell T _ rfl (by omega));have q2:wr.cell? ⟨w.heap.size+1,m2,none⟩=some (.bool (T.testBit m2)):=(k1.cell m2).trans (flags_cell T _ rfl (by omega));have r3:=k1.frozen;clear e1 e2 hm b1 b2;by_cases he:m1=m2
   ·subst he;(go_wp2_with fail)
    go_round
    case rel=>
     refine ⟨k+1,tins (tins T (m1:Int)) (m1:Int),by omega,by go_num,by show _=_;rw[HA.o,HD.o,E1.o,E2.o],?_,?_,bel⟩
     ·first|exact k0.far (by simp) _|exact (k0.far (by simp) _).far (by simp) _
     ·first|exact k1.twice (by omega)|exact k1.two (by omega) (by omega)
    case measure=>simp[intOf];omega
   ·have he2:=Ne.symm he;(go_wp2_with fail)
    go_round
    case rel=>
     refine ⟨k+1,tins (tins T (m1:Int)) (m2:Int),by omega,by go_num,by show _=_;rw[HA.o,HD.o,E1.o,E2.o],(k0.far (by simp) _).far (by simp) _,k1.two (by omega) (by omega),bel⟩
    case measure=>simp[intOf];omega
  ·obtain rfl:k=a.facts.length:=by omega
   have HA2:=ax (show a.facts.foldl (fun S f=>tins (tins S f.a) f.b) 0=T by rw[HA.o,List.drop_length];rfl);(go_wp2_with fail)
   go_loopw [5] (fun i wx=>∃ (k T':Nat),k≤a.atoms.length∧i=.int .i64 k∧aJ (a.atoms.foldl (fun S f=>tins (tins S f.a) f.b) T=(a.atoms.drop k).foldl (fun S f=>tins (tins S f.a) f.b) T')∧Blk wx w.heap.size 37 #[.slice A1 a.facts.length c1,.slice A2 a.atoms.length c2]∧Blk wx (w.heap.size+1) tB (encB (zj T')).toArray∧Below w.heap.size w wx) (fun i _=>a.atoms.length - (intOf i).toNat)
   case atStart=>exact ⟨0,T,Nat.zero_le _,rfl,rfl,k0,k1,hB⟩
   case round=>
    clear k0 qk0 k1 hB;obtain ⟨k,T',hk,rfl,HB,k0,k1,hB⟩:=hrel;have qk0:=k0.cell;by_cases hlt2:k<a.atoms.length
    ·obtain ⟨b,off,rfl,hbl⟩:=h2.blt hlt2;obtain ⟨g0,g1,g2⟩:=(h2.bz hB).cl hlt2;have HD:=ax (foldl_step (fun S (f:Atm)=>tins (tins S f.a) f.b) T' a.atoms k hlt2);have hm:=termsL_atoms hlt2;have b1:=zjA.1 (HV.o _ hm.1);have b2:=zjA.1 (HV.o _ hm.2);obtain ⟨m1,e1⟩:=Int.eq_ofNat_of_zero_le b1.1;obtain ⟨m2,e2⟩:=Int.eq_ofNat_of_zero_le b2.1;have E1:=ax e1;have E2:=ax e2;rw[e1] at g1;rw[e2] at g2;have m18:(m1:Int)<9:=by omega
     have m28:(m2:Int)<9:=by omega
     have q1:wr.cell? ⟨w.heap.size+1,m1,none⟩=some (.bool (T'.testBit m1)):=(k1.cell m1).trans (flags_cell T' _ rfl (by omega));have q2:wr.cell? ⟨w.heap.size+1,m2,none⟩=some (.bool (T'.testBit m2)):=(k1.cell m2).trans (flags_cell T' _ rfl (by omega));have r3:=k1.frozen;clear e1 e2 hm b1 b2;by_cases he:m1=m2
     ·subst he;(go_wp2_with fail)
      go_round
      case rel=>
       refine ⟨k+1,tins (tins T' (m1:Int)) (m1:Int),by omega,by go_num,by show _=_;rw[HB.o,HD.o,E1.o,E2.o],?_,?_,bel⟩
       ·first|exact k0.far (by simp) _|exact (k0.far (by simp) _).far (by simp) _
       ·first|exact k1.twice (by omega)|exact k1.two (by omega) (by omega)
      case measure=>simp[intOf];omega
     ·have he2:=Ne.symm he;(go_wp2_with fail)
      go_round
      case rel=>
       refine ⟨k+1,tins (tins T' (m1:Int)) (m2:Int),by omega,by go_num,by show _=_;rw[HB.o,HD.o,E1.o,E2.o],(k0.far (by simp) _).far (by simp) _,k1.two (by omega) (by omega),bel⟩
      case measure=>simp[intOf];omega
    ·obtain rfl:k=a.atoms.length:=by omega
     (go_wp2_with fail);go_ret;refine ⟨_,rfl,?_,hB⟩;rw[HT.o,HA2.o,HB.o,List.drop_length];exact BoolsO.ofBlk k1 (by omega)
theorem c_impl_copyInts {lo hi:Nat} (A:Option Addr) (c:Nat) (xs:List Int) (w:World) (h:IntsV w lo hi A xs):Calls Tryz.prog 107 #[.slice A xs.length c] w fun e w'=>∃ r,e=.returned r∧IntsO w' w.heap.size r xs∧Below w.heap.size w w':=by
 have hl:=h.le;have hmk:=mkI xs.length h.lim;have hb0:Below w.heap.size w (w.alloc (.cells (madeCells #[.int .i64 0] (xs.length)) tI)):=bel;have hV:=ax (h.bz hb0);(go_enter Tryz.func107,Tryz.ntmps107);(go_wp2_with (with_reducible refine wpList_copy_splice rfl _ _ 31 31 rfl tI Tryz.underlying31 (by kernel_rfl) (some ⟨w.heap.size,0,none⟩) A xs.length xs.length xs.length c rfl rfl w.heap.size 0 (madeCells #[.int .i64 0] (xs.length)).toList tI ?c1 (encI xs) ?c2 ?c3 ?c4 (encI_one _) w.heap.size w hb0 (Nat.le_refl _) ?_))
 case c1=>simpa using heap_alloc_new w (.cells (madeCells #[.int .i64 0] xs.length) tI)
 case c2=>simp
 case c3=>
  intro h0;obtain ⟨b,o,rfl,_,_,hc⟩:=hV.o.raw.2 (by simpa using h0)
  exact ⟨_,rfl,fun j u hu=>by
   rw[show (⟨b,o,none⟩:Addr).add j=⟨b,o+j,none⟩ from by unfold Addr.add;split<;>simp_all]
   exact hc j _ (by rw[List.getElem?_map,hu];rfl)⟩
 case c4=>simp[size_madeCells]
 intro w' hH hB;clear hmk;go_wp2;go_ret;have hs:=hH.out;rw[show splice (madeCells #[Value.int .i64 0] (xs.length)).toList 0 (encI xs)=encI xs from by simp[splice,size_madeCells]] at hs;exact ⟨_,rfl,⟨own_of_blk (cap:=xs.length) hs (Nat.le_refl _) (by simp) (by intro j hj;simp) (Nat.le_refl _) (by unfold maxLen;omega) (by simp),h.lim⟩,hB⟩
def disjB (T C:Nat):Bool:=(List.range 9).all fun n=>!(T.testBit n&&C.testBit n)
theorem disjB_iff {T C:Nat} (hT:T<512):(C &&& T=0)↔disjB T C=true:=by
 unfold disjB;rw[List.all_eq_true];constructor
 ·intro h n _;have:=congrArg (fun s=>Nat.testBit s n) h;simp only[Nat.testBit_and,Nat.zero_testBit] at this;rw[Bool.and_comm,this];rfl
 ·intro h;apply Nat.eq_of_testBit_eq;intro n;rw[Nat.testBit_and,Nat.zero_testBit];by_cases hn:n<9
  ·have hq:=h n (List.mem_range.mpr hn);cases h1:T.testBit n<;>cases h2:C.testBit n<;>simp_all
  ·have:T.testBit n=false:=Nat.testBit_lt_two_pow (Nat.lt_of_lt_of_le hT (Nat.pow_le_pow_right (n:=2) (by decide) (show 9≤n by omega)));rw[this,Bool.and_false]
theorem c_spec_l11Free {lo hi lo' hi':Nat} (v:Value) (a:Asn) (B:Option Addr) (c C:Nat) (w:World) (h:AsnV w lo hi v a) (h':BoolsV w lo' hi' B (zj C)) (hv:a.valid=true) :
  Calls Tryz.prog 108 #[v,.slice B 9 c] w fun e w'=>e=.returned (.bool (disjB (tset (mz a)) C))∧Below w.heap.size w w':=by
 have hV:=ax h;have HT:=ax (termsL_ok hv);have h'':=ax h';obtain ⟨pb,ob,rfl,lpb⟩:=flags_addr h';obtain ⟨A1,c1,A2,c2,rfl,h1,h2⟩:=h;clear hv;(go_enter Tryz.func108,Tryz.ntmps108);(go_wp2_with fail);refine (c_spec_l3Terms _ a _ (hV.o.bz bel) HT.o).mono ?_;rintro e w1 ⟨r,rfl,oT,hB1⟩;have hB:=bgo (w:=w) bel hB1;have fC:=h''.o.bz hB;generalize hTe:tset (mz a)=T at oT;have HTE:=ax hTe;clear hTe;obtain ⟨Tb,ct,rfl,fT⟩:=oT.rj;rw[zjB];obtain ⟨pt,ot,rfl,lpt⟩:=flags_addr fT;clear hB1 oT h' h'';have HD:aJ (disjB T C=(List.range 9).all fun n=>!(T.testBit n&&C.testBit n)):=rfl;(go_wp2_with fail)
 go_loop [6] (fun i=>∃ k:Nat,k≤9∧i=.int .i64 k∧aJ (disjB T C=((List.range 9).drop k).all fun n=>!(T.testBit n&&C.testBit n))) (fun i=>9 - (intOf i).toNat)
 case atStart=>exact ⟨0,by omega,rfl,HD.o⟩
 case round=>
  obtain ⟨k,hk,rfl,HA⟩:=hrel;by_cases hlt:k<9
  ·have HN:aJ (((List.range 9).drop k).all (fun n=>!(T.testBit n&&C.testBit n))=(!(T.testBit k&&C.testBit k)&&((List.range 9).drop (k+1)).all fun n=>!(T.testBit n&&C.testBit n))):=by
    show _=_;rw[all_drop _ (List.range 9) k (by simpa using hlt)];simp
   have f1:=flags_at fT (m:=k) (by omega);have f2:=flags_at fC (m:=k) (by omega);have k9:(k:Int)<9:=by omega
   cases ht:T.testBit k
   ·rw[ht] at f1;have HZ:=ax ht;clear ht;(go_wp2_with fail)
    go_round
    case rel=>exact ⟨k+1,by omega,by go_num,by show _=_;rw[HA.o,HN.o,HZ.o];rfl⟩
    case measure=>simp[intOf];omega
   ·cases hc:C.testBit k
    all_goals
     rw[ht] at f1;rw[hc] at f2;have HZ:=ax ht;have HC:=ax hc;clear ht hc;(go_wp2_with fail)
    ·go_round
     case rel=>exact ⟨k+1,by omega,by go_num,by show _=_;rw[HA.o,HN.o,HZ.o,HC.o];rfl⟩
     case measure=>simp[intOf];omega
    ·go_ret;exact ⟨zjD (by rw[HTE.o,HA.o,HN.o,HZ.o,HC.o];rfl),hB⟩
  ·obtain rfl:k=9:=by omega
   (go_wp2_with fail);go_ret;exact ⟨zjD (by rw[HTE.o,HA.o];rfl),hB⟩
theorem FactsV.one' {w:World} {g:Nat} {e:Bool} {x y:Int} (h:Blk w g tF #[.bool e,.int .i64 x,.int .i64 y]):FactsV w g (g+1) (some ⟨g,0,none⟩) [⟨e,x,y⟩]:=FactsV.one (f:=⟨e,x,y⟩) h
theorem AtomsV.one' {w:World} {g:Nat} {e:Int} {x y:Int} (h:Blk w g tA #[.int .i64 e,.int .i64 x,.int .i64 y]):AtomsV w g (g+1) (some ⟨g,0,none⟩) [⟨e,x,y⟩]:=AtomsV.one (f:=⟨e,x,y⟩) h
theorem map_take {α β:Type} (f:α→β) (xs:List α) (k:Nat) (hk:k<xs.length):(xs.take (k+1)).map f=(xs.take k).map f++[f xs[k]]:=by
 rw[List.take_succ_eq_append_getElem hk,List.map_append];rfl
end
end Go.Proofs.YtjaohekkmlkinaaGreat
