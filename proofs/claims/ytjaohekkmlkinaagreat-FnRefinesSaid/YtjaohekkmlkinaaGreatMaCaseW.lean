/- Sets of terms as flags: the spec's contracts. -/
import Derived.Test.YtjaohekkmlkinaaGreatMaStar
import Derived.Test.YtjaohekkmlkinaaGreatMaTidyP
import Derived.Laws.CopyOwn
set_option linter.unusedSimpArgs false
set_option linter.unusedVariables false
set_option maxRecDepth 100000
set_option maxHeartbeats 25600000
namespace Go.Proofs.YtjaohekkmlkinaaGreat
section
open Go Go.RowKit Go.Proofs
attribute [local go_sem ↓] Go.wp_at_zero Go.wp_at_succ
theorem termsL_ok {a:Asn} (h:a.valid=true):∀ t∈mz a,jq t=true:=by
 simp only[Asn.valid,factsValid,Bool.and_eq_true,List.all_eq_true] at h;intro t ht;simp only[mz,List.mem_append,List.mem_flatMap] at ht;rcases ht with ⟨f,hf,ht⟩|⟨f,hf,ht⟩
 ·have:=h.1.2 f hf;simp only[Fct.valid,Bool.and_eq_true] at this;simp only[factT,List.mem_cons,List.not_mem_nil,or_false] at ht;rcases ht with rfl|rfl
  ·exact this.1
  ·exact this.2
 ·have:=h.2.2 f hf;simp only[Atm.valid,Bool.and_eq_true] at this;simp only[atomT,List.mem_cons,List.not_mem_nil,or_false] at ht;rcases ht with rfl|rfl
  ·exact this.1.2
  ·exact this.2
theorem termsL_atoms {a:Asn} {k:Nat} (h:k<a.atoms.length):a.atoms[k].a∈mz a∧a.atoms[k].b∈mz a:=by
 simp only[mz,List.mem_append,List.mem_flatMap];exact ⟨Or.inr ⟨_,List.getElem_mem h,by simp[atomT]⟩,Or.inr ⟨_,List.getElem_mem h,by simp[atomT]⟩⟩
theorem tins_flags (S m:Nat) (hm:m≤8):((encB (zj S)).toArray).setIfInBounds m (.bool true)=(encB (zj (tins S (m:Int)))).toArray:=by
 rw[flags_upd,tins,if_pos (zjA.2 (by omega)),Int.toNat_natCast]
theorem BoolsO.ofBlk {w:World} {g base S:Nat} (h:Blk w g tB (encB (zj S)).toArray) (hb:base≤g):BoolsO w base (.slice (some ⟨g,0,none⟩) 9 9) (zj S):=
 ⟨own_of_blk (n:=9) (cap:=9) h hb (by simp[zj]) (by intro j hj;simp) (Nat.le_refl _) (by decide) (by simp[zj]),by simp[zj,Lim]⟩
theorem mkB9 (w:World):(Instr.makeSlice 124 (.int .i64 9) (.int .i64 9)).run Tryz.prog w=.ok (.slice (some ⟨w.heap.size,0,none⟩) 9 9) (w.alloc (.cells (encB (zj 0)).toArray tB)):=
 (mkB 9 (by decide) w).trans (by rw[show (madeCells #[.bool false] (9 * 1))=(encB (zj 0)).toArray from by kernel_rfl])
theorem flags_at {w:World} {lo hi b o K m:Nat} (h:BoolsV w lo hi (some ⟨b,o,none⟩) (zj K)) (hm:m≤8):w.cell? ⟨b,o+m,none⟩=some (.bool (K.testBit m)):=by
 have:=h.cl (k:=m) (by rw[zjB];omega);rw[this];have e:=flagsOf_get K m (by omega);rw[List.getElem?_eq_getElem (by rw[zjB];omega)] at e;rw[Option.some.inj e]
theorem flags_addr {w:World} {lo hi K:Nat} {A:Option Addr} (h:BoolsV w lo hi A (zj K)):∃ b o,A=some ⟨b,o,none⟩∧b<w.heap.size:=h.blt (k:=0) (by rw[zjB];omega)
theorem c_spec_l10Busy {lo hi:Nat} (A:Option Addr) (c:Nat) (xs:List Int) (w:World) (h:IntsV w lo hi A xs):Calls Tryz.prog 109 #[.slice A xs.length c] w fun e w'=>∃ r,e=.returned r∧BoolsO w' w.heap.size r (zj (tset xs))∧Below w.heap.size w w':=by
 have hl:=h.le;have hmk:=mkB9;have HT:aJ (tset xs=xs.foldl tins 0):=by show _=_;unfold tset;rfl
 (go_enter Tryz.func109,Tryz.ntmps109);go_wp2;clear hmk
 go_loopw [4] (fun i wr=>∃ (k T:Nat),k≤xs.length∧i=.int .i64 k∧aJ (tset xs=(xs.drop k).foldl tins T)∧Blk wr w.heap.size tB (encB (zj T)).toArray∧Below w.heap.size w wr) (fun i _=>xs.length - (intOf i).toNat)
 case atStart=>exact ⟨0,0,Nat.zero_le _,rfl,HT.o,blks,bel⟩
 case round=>
  obtain ⟨k,T,hk,rfl,HA,k0,hB⟩:=hrel;by_cases hlt:k<xs.length
  ·obtain ⟨b,off,rfl,c0⟩:=(h.bz hB).at hlt;have HD:=ax (foldl_step tins T xs k hlt);have hne:=block_lt_of_cell c0;cases ht:jq xs[k]
   ·have HS:aJ (tins T xs[k]=T):=by simp[aJ,tins,ht]
    go_wp2_with (go_at_call 174;refine (c_spec_l1Is _ _).mono ?_;rintro e w' ⟨rfl,rfl⟩)
    go_round
    case rel=>exact ⟨k+1,T,by omega,by go_num,by show _=_;rw[HA.o,HD.o,HS.o],k0,hB⟩
    case measure=>simp[intOf];omega
   ·have hb:=zjA.1 ht;obtain ⟨m,hm⟩:=Int.eq_ofNat_of_zero_le hb.1;have HM:=ax hm;have m8:m≤8:=by omega
    have m8':(m:Int)<9:=by omega
    rw[hm] at c0 ht;have q3:wr.cell? ⟨w.heap.size,m,none⟩=some (.bool (T.testBit m)):=(k0.cell m).trans (flags_cell T _ rfl (by omega));have r3:=k0.frozen;clear hm hb;(go_wp2_with (go_at_call 174;refine (c_spec_l1Is _ _).mono ?_;rintro e w' ⟨rfl,rfl⟩))
    go_round
    case rel=>
     refine ⟨k+1,tins T xs[k],by omega,by go_num,by show _=_;rw[HA.o,HD.o],?_,bel⟩;rw[HM.o,←tins_flags _ _ m8];exact k0.set_ _ _
    case measure=>simp[intOf];omega
  ·obtain rfl:k=xs.length:=by omega
   go_wp2;go_ret;refine ⟨_,rfl,?_,hB⟩;rw[HA.o,List.drop_length];exact BoolsO.ofBlk k0 (Nat.le_refl _)
theorem flags2 (T m1 m2:Nat) (h1:m1≤8) (h2:m2≤8):(((encB (zj T)).toArray).setIfInBounds m1 (.bool true)).setIfInBounds m2 (.bool true)=(encB (zj (tins (tins T (m1:Int)) (m2:Int)))).toArray:=by
 rw[tins_flags _ _ h1,tins_flags _ _ h2]
theorem Blk.two {w:World} {g T m1 m2:Nat} (h:Blk w g tB (encB (zj T)).toArray) (h1:m1≤8) (h2:m2≤8):Blk ((w.setCell ⟨g,m1,none⟩ (.bool true)).setCell ⟨g,m2,none⟩ (.bool true)) g tB (encB (zj (tins (tins T (m1:Int)) (m2:Int)))).toArray:=by
 rw[←flags2 _ _ _ h1 h2];exact (h.set_ _ _).set_ _ _
theorem Blk.twice {w:World} {g T m1:Nat} (h:Blk w g tB (encB (zj T)).toArray) (h1:m1≤8):Blk (w.setCell ⟨g,m1,none⟩ (.bool true)) g tB (encB (zj (tins (tins T (m1:Int)) (m1:Int)))).toArray:=by
 rw[←tins_flags _ _ h1,←tins_flags _ _ h1]
 have e:∀ (a:Array Value) (i:Nat) (u:Value),(a.setIfInBounds i u).setIfInBounds i u=a.setIfInBounds i u:=by
  intro a i u;apply Array.ext_getElem?;intro j;by_cases e:i=j
  ·subst e;rw[Array.getElem?_setIfInBounds_self,Array.size_setIfInBounds,Array.getElem?_setIfInBounds_self]
  ·rw[Array.getElem?_setIfInBounds_ne e]
 rw[e];exact h.set_ _ _
theorem c_spec_l3Terms {lo hi:Nat} (v:Value) (a:Asn) (w:World) (h:AsnV w lo hi v a) (hv:∀ t∈mz a,jq t=true):Calls Tryz.prog 85 #[v] w fun e w'=>∃ r,e=.returned r∧BoolsO w' w.heap.size r (zj (tset (mz a)))∧Below w.heap.size w w':=by
 obtain ⟨A1,c1,A2,c2,rfl,h1,h2⟩:=h;have hl1:=h1.le;have hl2:=h2.le;have hmk:=mkB9;have HV:=ax hv;have HT:=ax (tset_terms a);clear hv;(go_enter Tryz.func85,Tryz.ntmps85);go_wp2;clear hmk
 go_loopw [4] (fun i wr=>∃ (k T:Nat),k≤a.facts.length∧i=.int .i64 k∧aJ (a.facts.foldl (fun S f=>tins (tins S f.a) f.b) 0=(a.facts.drop k).foldl (fun S f=>tins (tins S f.a) f.b) T)∧Blk wr w.heap.size 37 #[.slice A1 a.facts.length c1,.slice A2 a.atoms.length c2]∧Blk wr (w.heap.size+1) tB (encB (zj T)).toArray∧Below w.heap.size w wr) (fun i _=>a.facts.length - (intOf i).toNat)
 case atStart=>exact ⟨0,0,Nat.zero_le _,rfl,rfl,blks,blks,bel⟩
 case round=>
  obtain ⟨k,T,hk,rfl,HA,k0,k1,hB⟩:=hrel;have qk0:=k0.cell;by_cases hlt:k<a.facts.length
  ·obtain ⟨b,off,rfl,hbl⟩:=h1.blt hlt;obtain ⟨g0,g1,g2⟩:=(h1.bz hB).cl hlt;have HD:=ax (foldl_step (fun S (f:Fct)=>tins (tins S f.a) f.b) T a.facts k hlt);have hm:=termsL_facts (List.getElem_mem hlt);have b1:=zjA.1 (HV.o _ hm.1);have b2:=zjA.1 (HV.o _ hm.2);obtain ⟨m1,e1⟩:=Int.eq_ofNat_of_zero_le b1.1;obtain ⟨m2,e2⟩:=Int.eq_ofNat_of_zero_le b2.1;have E1:=ax e1;have E2:=ax e2;rw[e1] at g1;rw[e2] at g2;have m18:(m1:Int)<9:=by omega
   have m28:(m2:Int)<9:=by omega
   have q1:wr.cell? ⟨w.heap.size+1,m1,none⟩=some (.bool (T.testBit m1)):=(k1.cell m1).trans (flags_cell T _ rfl (by omega));have q2:wr.cell? ⟨w.heap.size+1,m2,none⟩=some (.bool (T.testBit m2)):=(k1.cell m2).trans (flags_cell T _ rfl (by omega));have r3:=k1.frozen;clear e1 e2 hm b1 b2;by_cases he:m1=m2
   ·subst he;(go_wp2_with fail)
    go_round
    case rel=>
     refine ⟨k+1,tins (tins T (m1:Int)) (m1:Int),by omega,by go_num,by show _=_;rw[HA.o,HD.o,E1.o,E2.o],?_,?_,bel⟩
     ·first|exact k0.far (by simp) _|exact (k0.far (by simp) _).far (by simp) _
     ·first|exact k1.twice (by omega)|exact k1.two (by omega) (by omega)
    case measure=>simp[intOf];omega
   ·have he2:=Ne.symm he;(go_wp2_with fail)
    go_round
    case rel=>
     refine ⟨k+1,tins (tins T (m1:Int)) (m2:Int),by omega,by go_num,by show _=_;rw[HA.o,HD.o,E1.o,E2.o],(k0.far (by simp) _).far (by simp) _,k1.two (by omega) (by omega),bel⟩
    case measure=>simp[intOf];omega
  ·obtain rfl:k=a.facts.length:=by omega
   have HA2:=ax (show a.facts.foldl (fun S f=>tins (tins S f.a) f.b) 0=T by rw[HA.o,List.drop_length];rfl);(go_wp2_with fail)
   go_loopw [5] (fun i wx=>∃ (k T':Nat),k≤a.atoms.length∧i=.int .i64 k∧aJ (a.atoms.foldl (fun S f=>tins (tins S f.a) f.b) T=(a.atoms.drop k).foldl (fun S f=>tins (tins S f.a) f.b) T')∧Blk wx w.heap.size 37 #[.slice A1 a.facts.length c1,.slice A2 a.atoms.length c2]∧Blk wx (w.heap.size+1) tB (encB (zj T')).toArray∧Below w.heap.size w wx) (fun i _=>a.atoms.length - (intOf i).toNat)
   case atStart=>exact ⟨0,T,Nat.zero_le _,rfl,rfl,k0,k1,hB⟩
   case round=>
    clear k0 qk0 k1 hB;obtain ⟨k,T',hk,rfl,HB,k0,k1,hB⟩:=hrel;have qk0:=k0.cell;by_cases hlt2:k<a.atoms.length
    ·obtain ⟨b,off,rfl,hbl⟩:=h2.blt hlt2;obtain ⟨g0,g1,g2⟩:=(h2.bz hB).cl hlt2;have HD:=ax (foldl_step (fun S (f:Atm)=>tins (tins S f.a) f.b) T' a.atoms k hlt2);have hm:=termsL_atoms hlt2;have b1:=zjA.1 (HV.o _ hm.1);have b2:=zjA.1 (HV.o _ hm.2);obtain ⟨m1,e1⟩:=Int.eq_ofNat_of_zero_le b1.1;obtain ⟨m2,e2⟩:=Int.eq_ofNat_of_zero_le b2.1;have E1:=ax e1;have E2:=ax e2;rw[e1] at g1;rw[e2] at g2;have m18:(m1:Int)<9:=by omega
     have m28:(m2:Int)<9:=by omega
     have q1:wr.cell? ⟨w.heap.size+1,m1,none⟩=some (.bool (T'.testBit m1)):=(k1.cell m1).trans (flags_cell T' _ rfl (by omega));have q2:wr.cell? ⟨w.heap.size+1,m2,none⟩=some (.bool (T'.testBit m2)):=(k1.cell m2).trans (flags_cell T' _ rfl (by omega));have r3:=k1.frozen;clear e1 e2 hm b1 b2;by_cases he:m1=m2
     ·subst he;(go_wp2_with fail)
      go_round
      case rel=>
       refine ⟨k+1,tins (tins T' (m1:Int)) (m1:Int),by omega,by go_num,by show _=_;rw[HB.o,HD.o,E1.o,E2.o],?_,?_,bel⟩
       ·first|exact k0.far (by simp) _|exact (k0.far (by simp) _).far (by simp) _
       ·first|exact k1.twice (by omega)|exact k1.two (by omega) (by omega)
      case measure=>simp[intOf];omega
     ·have he2:=Ne.symm he;(go_wp2_with fail)
      go_round
      case rel=>
       refine ⟨k+1,tins (tins T' (m1:Int)) (m2:Int),by omega,by go_num,by show _=_;rw[HB.o,HD.o,E1.o,E2.o],(k0.far (by simp) _).far (by simp) _,k1.two (by omega) (by omega),bel⟩
      case measure=>simp[intOf];omega
    ·obtain rfl:k=a.atoms.length:=by omega
     (go_wp2_with fail);go_ret;refine ⟨_,rfl,?_,hB⟩;rw[HT.o,HA2.o,HB.o,List.drop_length];exact BoolsO.ofBlk k1 (by omega)
theorem FactsV.one' {w:World} {g:Nat} {e:Bool} {x y:Int} (h:Blk w g tF #[.bool e,.int .i64 x,.int .i64 y]):FactsV w g (g+1) (some ⟨g,0,none⟩) [⟨e,x,y⟩]:=FactsV.one (f:=⟨e,x,y⟩) h
theorem AtomsV.one' {w:World} {g:Nat} {e:Int} {x y:Int} (h:Blk w g tA #[.int .i64 e,.int .i64 x,.int .i64 y]):AtomsV w g (g+1) (some ⟨g,0,none⟩) [⟨e,x,y⟩]:=AtomsV.one (f:=⟨e,x,y⟩) h
theorem map_take {α β:Type} (f:α→β) (xs:List α) (k:Nat) (hk:k<xs.length):(xs.take (k+1)).map f=(xs.take k).map f++[f xs[k]]:=by
 rw[List.take_succ_eq_append_getElem hk,List.map_append];rfl
abbrev tTc:Nat:=131
theorem case_cell {w:World} {g:Nat} {c:List Int} {t:TypeId} (h:Blk w g t (encI c).toArray) {m:Nat} (hm:m<c.length):w.cell? ⟨g,m,none⟩=some (.int .i64 (cl c m)):=by
 rw[h.cell];simp[cl,List.getElem?_eq_getElem hm]
theorem c_impl_factHolds (f:Fct) (c:List Int) (g:Nat) (w:World) (hk:Blk w g tTc (encI c).toArray) (hc:c.length=9) (ha:0≤f.a∧f.a≤8) (hb:0≤f.b∧f.b≤8) :
  Calls Tryz.prog 249 #[.pointer (some ⟨g,0,none⟩),f.val] w fun e w'=>e=.returned (.bool (f.fits c))∧Below w.heap.size w w':=by
 obtain ⟨q,a,b⟩:=f;dsimp only at ha hb;obtain ⟨a,rfl⟩:=Int.eq_ofNat_of_zero_le ha.1;obtain ⟨b,rfl⟩:=Int.eq_ofNat_of_zero_le hb.1;have c1:=case_cell hk (m:=a) (by rw[hc];omega);have c2:=case_cell hk (m:=b) (by rw[hc];omega);have hlt:=hk.lt;have ha9:(a:Int)<9:=by omega
 have hb9:(b:Int)<9:=by omega
 clear ha hb;(go_enter Tryz.func249,Tryz.ntmps249);(go_wp2_with fail);(go_quiet (fail));go_wp2;go_ret;exact ⟨zjD rfl,bel⟩
theorem c_impl_isFilled (x:Atm) (c:List Int) (g:Nat) (w:World) (hk:Blk w g tTc (encI c).toArray) (hc:c.length=9) (ha:0≤x.a∧x.a≤8) (hb:0≤x.b∧x.b≤8) :
  Calls Tryz.prog 250 #[.pointer (some ⟨g,0,none⟩),x.val] w fun e w'=>e=.returned (.bool (x.fill c))∧Below w.heap.size w w':=by
 obtain ⟨q,a,b⟩:=x;dsimp only at ha hb;obtain ⟨a,rfl⟩:=Int.eq_ofNat_of_zero_le ha.1;obtain ⟨b,rfl⟩:=Int.eq_ofNat_of_zero_le hb.1;have c1:=case_cell hk (m:=a) (by rw[hc];omega);have c2:=case_cell hk (m:=b) (by rw[hc];omega);have hlt:=hk.lt;have ha9:(a:Int)<9:=by omega
 have hb9:(b:Int)<9:=by omega
 clear ha hb;cases hq:(q == 1)
 all_goals
  have HQ:=ax hq;(go_enter Tryz.func250,Tryz.ntmps250);(go_wp2_with fail);(go_quiet (fail));go_wp2;go_ret;exact ⟨zjD (by have:=HQ.o;(try simp at this);simp[Atm.fill,this];try rfl),bel⟩
theorem filledL_take (xs:List Atm) (c:List Int) (k:Nat) (hk:k<xs.length):filledL (xs.take (k+1)) c=filledL (xs.take k) c++if xs[k].fill c then [xs[k].cls c] else []:=by
 unfold filledL;rw[List.take_succ_eq_append_getElem hk,List.filter_append,List.map_append];cases h:xs[k].fill c<;>simp[h]
theorem filledL_len (xs:List Atm) (c:List Int):(filledL xs c).length≤xs.length:=by
 unfold filledL;rw[List.length_map];exact List.length_filter_le _ _
theorem c_impl_filled {lo hi:Nat} (A:Option Addr) (d:Nat) (xs:List Atm) (c:List Int) (g:Nat) (w:World) (h:AtomsV w lo hi A xs) (hk:Blk w g tTc (encI c).toArray) (hc:c.length=9) (hx:AtomsOk xs) :
  Calls Tryz.prog 204 #[.pointer (some ⟨g,0,none⟩),.slice A xs.length d] w fun e w'=>∃ r,e=.returned r∧AtomsO w' w.heap.size r (filledL xs c)∧Below w.heap.size w w':=by
 have hl:=h.le;have hgl:=hk.lt;(go_enter Tryz.func204,Tryz.ntmps204);(go_wp2_with fail)
 go_loopw [5,10] (fun r i wr=>∃ (k:Nat) (B:Option Addr) (n e:Nat),k≤xs.length∧i=.int .i64 k∧n=(filledL (xs.take k) c).length∧r=.slice B n e∧AtomsO wr w.heap.size (.slice B n e) (filledL (xs.take k) c)∧Below w.heap.size w wr) (fun _ i _=>xs.length - (intOf i).toNat)
 case atStart=>exact ⟨0,none,0,0,Nat.zero_le _,rfl,rfl,rfl,AtomsO.nil _ _,bel⟩
 case round=>
  obtain ⟨k,B,n,e,hkk,rfl,hn,rfl,of,hB⟩:=hrel;have HN:=ax hn
  have hnl:n≤k:=by
   rw[hn];exact Nat.le_trans (filledL_len _ _) (by simp;omega)
  clear hn;by_cases hlt:k<xs.length
  ·obtain ⟨b,off,rfl,hbl⟩:=h.blt hlt;obtain ⟨g0,g1,g2⟩:=(h.bz hB).cl hlt;have HT:=ax (filledL_take xs c k hlt);have hxk:=hx _ (List.getElem_mem hlt);obtain ⟨x,hxe⟩:∃ x,x=xs[k]:=⟨_,rfl⟩;have HX:=ax hxe;rw[←hxe] at g0 g1 g2 HT hxk;clear hxe;have kg:Blk wr g tTc (encI c).toArray:=hk.bz hB hgl;have hgr:=kg.lt;(go_wp2_with fail);refine (c_impl_isFilled x c g _ (kg.alloc _) hc hxk.1 hxk.2).mono ?_;rintro e w1 ⟨rfl,hB1⟩;have hBx:Below w.heap.size w w1:=bgo (w:=w) bel hB1;have hob:∀ g',(Value.slice B n e).ownBlock=some g'→g'<wr.heap.size:=fun g' e'=>(of.1.lt g' e').2;have kx:=(Blk.new wr tA #[.int .i64 x.kind,.int .i64 x.a,.int .i64 x.b]).nz hB1;replace of:=(of.bz (w':=wr.alloc (.cells #[.int .i64 x.kind,.int .i64 x.a,.int .i64 x.b] tA)) bel).bz hB1;replace kg:=(kg.alloc (.cells #[.int .i64 x.kind,.int .i64 x.a,.int .i64 x.b] tA)).nz hB1;have hw1:=hB1.size;simp only[World.size_alloc] at hw1;have hwz:=hB.size;clear hB1 g0 g1 g2;cases hf:x.fill c
   ·have HS:=ax (show filledL (xs.take (k+1)) c=filledL (xs.take k) c by rw[HT.o,hf];simp);clear hf;(go_wp2_with fail)
    go_round
    case rel=>exact ⟨k+1,B,n,e,by omega,by go_num,by rw[HS.o];exact HN.o,rfl,by rw[HS.o];exact of,hBx⟩
    case measure=>simp[intOf];omega
   ·have HS:=ax (show filledL (xs.take (k+1)) c=filledL (xs.take k) c++[x.cls c] by rw[HT.o,hf];simp);clear hf;obtain ⟨q,xa,xb⟩:=x;dsimp only at hxk kx;obtain ⟨⟨a1,a2⟩,⟨b1,b2⟩⟩:=hxk;obtain ⟨xa,rfl⟩:=Int.eq_ofNat_of_zero_le a1;obtain ⟨xb,rfl⟩:=Int.eq_ofNat_of_zero_le b1;have ha9:(xa:Int)<9:=by omega
    have hb9:(xb:Int)<9:=by omega
    have q1:∀ w':World,(∀ i,w'.cell? ⟨g,i,none⟩=(encI c).toArray[i]?)→w'.cell? ⟨g,xa,none⟩=some (.int .i64 (cl c xa)):=by
     intro w' hw';rw[hw'];simp[cl,List.getElem?_eq_getElem (show xa<c.length by omega)]
    have q2:∀ w':World,(∀ i,w'.cell? ⟨g,i,none⟩=(encI c).toArray[i]?)→w'.cell? ⟨g,xb,none⟩=some (.int .i64 (cl c xb)):=by
     intro w' hw';rw[hw'];simp[cl,List.getElem?_eq_getElem (show xb<c.length by omega)]
    have c1:=q1 _ kg.cell;have c2:=q2 _ kg.cell;have hnn:n+1≤1049600:=by omega
    clear a1 a2 b1 b2;(go_wp2_with fail);refine wp_region_noPanic ?_;refine wp_region_held_drew (S:=(fun w'=>w'.cell? ⟨g,xa,none⟩=some (.int .i64 (cl c xa))∧w'.cell? ⟨g,xb,none⟩=some (.int .i64 (cl c xb))∧(∀ i,w'.cell? ⟨wr.heap.size,i,none⟩=#[.int .i64 q,.int .i64 xa,.int .i64 xb][i]?))) (by kernel_rfl) (⟨c1,c2,Blk.cell blks⟩) (fun aH=>?_);refine tk2 0 rfl aH (h:=tk2 1 rfl aH (h:=tk2 2 rfl aH (h:=?_)));(try simp only[zz]);refine tk2 3 rfl aH (h:=tk2 4 rfl aH (h:=tk2 5 rfl aH (h:=?_)));(try simp only[zz]);refine tk2 6 rfl aH (h:=tk2 7 rfl aH (h:=tk2 8 rfl aH (h:=?_)));(try simp only[zz]);refine tk2 9 rfl aH (h:=tk2 10 rfl aH (h:=tk2 11 rfl aH (h:=?_)));(try simp only[zz]);refine tk2 12 rfl aH (h:=tk2 13 rfl aH (h:=tk2 14 rfl aH (h:=?_)));(try simp only[zz]);refine tk2 15 rfl aH (h:=?_);refine rdc 16 rfl fun K hK=>?_;(try simp only[zz]);go_simp;refine hK.out _ _ (⟨q1 _ (Blk.cell blks),q2 _ (Blk.cell blks),Blk.cell blks⟩) ?_;clear aH hK K;intro aH;(try simp only[zz]);refine rdc 17 rfl fun K hK=>?_;skip;(refine stepAL (base:=w.heap.size) (xs:=filledL (xs.take k) c) rfl _ _ rfl rfl (AtomsO.bz (w:=w1) of bel) rfl (AtomsV.one' blks) (by simp only[List.length_cons,List.length_nil];rw[←HN.o];omega) (by simp;omega) ?_;intro A' c' w2 of2 hg2 hB3;have z2:=Blk.zm (g:=g) (hg:=hg2) blks (AtomsO.bz (w:=w1) of bel).1 (by decide);have zf:Blk w2 wr.heap.size tA #[.int .i64 q,.int .i64 xa,.int .i64 xb]:=Blk.grown blks hg2 (fun e=>absurd (hob _ e.symm) (Nat.lt_irrefl _)));refine hK.out _ _ (⟨q1 _ z2.cell,q2 _ z2.cell,zf.cell⟩) ?_;clear aH hK K;intro aH;(try simp only[zz]);refine tk2 18 rfl aH (h:=?_);(try simp only[zz]);refine dn1 ?_;have hBw2:Below w.heap.size w w2:=Below.trans bel (hB3.mono (by omega));(go_wp2_with fail)
    go_round
    case rel=>exact ⟨k+1,A',_,c',by omega,by go_num,rfl,by rw[HS.o];simp,by rw[HS.o];exact of2,hBw2⟩
    case measure=>simp[intOf];omega
  ·obtain rfl:k=xs.length:=by omega
   (go_wp2_with fail);go_ret;refine ⟨_,rfl,?_,hB⟩;rw[List.take_length] at of;exact of
theorem possF_drop (c:List Int) (last:Int) (fs:List Fct) (k:Nat) (hk:k<fs.length):possF c last (fs.drop k)=(!(decide (fs[k].a≤last)&&decide (fs[k].b≤last) && !fs[k].fits c)&&possF c last (fs.drop (k+1))):=by
 unfold possF;rw[all_drop _ fs k hk]
theorem possA_drop (c:List Int) (last:Int) (seen:List Int) (xs:List Atm) (k:Nat) (hk:k<xs.length):possA c last seen (xs.drop k)=if inLast c last xs[k] then !decide (cl c xs[k].a=0) && !decide (cl c xs[k].a∈seen)&&possA c last (seen++[cl c xs[k].a]) (xs.drop (k+1)) else possA c last seen (xs.drop (k+1)):=by
 rw[List.drop_eq_getElem_cons hk];rfl
theorem tset_snoc (l:List Int) (t:Int):tset (l++[t])=tins (tset l) t:=by unfold tset;simp[List.foldl_append]
theorem c_impl_possible {lo hi:Nat} (v:Value) (a:Asn) (last:Int) (c:List Int) (g:Nat) (w:World) (h:AsnV w lo hi v a) (hk:Blk w g tTc (encI c).toArray) (hc:c.length=9) (hf:FactsOk a.facts) (hx:AtomsOk a.atoms)
  (hcl:∀ x∈a.atoms,x.a≤last→jq (cl c x.a)=true) :
  Calls Tryz.prog 248 #[.pointer (some ⟨g,0,none⟩),v,.int .i64 last] w fun e w'=>e=.returned (.bool (poss a c last))∧Below w.heap.size w w':=by
 obtain ⟨A1,c1,A2,c2,rfl,h1,h2⟩:=h;have hl1:=h1.le;have hl2:=h2.le;have hgl:=hk.lt;have HP:aJ (poss a c last=(possF c last a.facts&&possA c last [] a.atoms)):=rfl;have hFO:=ax hf;have hXO:=ax hx;have hCL:=ax hcl;clear hf hx hcl;(go_enter Tryz.func248,Tryz.ntmps248);(go_wp2_with fail)
 go_loopw [15] (fun i wr=>∃ k:Nat,k≤a.facts.length∧i=.int .i64 k∧aJ (possF c last a.facts=possF c last (a.facts.drop k))∧Blk wr w.heap.size 37 #[.slice A1 a.facts.length c1,.slice A2 a.atoms.length c2]∧Below w.heap.size w wr) (fun i _=>a.facts.length - (intOf i).toNat)
 case atStart=>exact ⟨0,Nat.zero_le _,rfl,rfl,blks,bel⟩
 case round=>
  obtain ⟨k,hkk,rfl,HA,kA,hB⟩:=hrel;have qA:=kA.cell;have lA:=kA.lt;by_cases hlt:k<a.facts.length
  ·obtain ⟨b,off,rfl,hbl⟩:=h1.blt hlt;obtain ⟨g0,g1,g2⟩:=(h1.bz hB).cl hlt;have HD:=ax (possF_drop c last a.facts k hlt);have hfk:=hFO.o _ (List.getElem_mem hlt);obtain ⟨f,hfe⟩:∃ f,f=a.facts[k]:=⟨_,rfl⟩;rw[←hfe] at g0 g1 g2 HD hfk;clear hfe;have kg:Blk wr g tTc (encI c).toArray:=hk.bz hB hgl;have hgr:=kg.lt;by_cases e1:f.a≤last
   ·by_cases e2:f.b≤last
    ·(go_wp2_with fail);refine (c_impl_factHolds f c g _ (kg.alloc _) hc hfk.1 hfk.2).mono ?_;rintro e w1 ⟨rfl,hB1⟩;have hBx:Below w.heap.size w w1:=bgo (w:=w) bel hB1;replace kA:=(kA.alloc (.cells #[.bool f.eq,.int .i64 f.a,.int .i64 f.b] tF)).nz hB1;cases hff:f.fits c
     ·have HZ:=ax (show possF c last a.facts=false by rw[HA.o,HD.o,hff,decide_eq_true e1,decide_eq_true e2];rfl);clear hff hB1 e1 e2;(go_wp2_with fail);go_ret;exact ⟨zjD (by rw[HP.o,HZ.o];rfl),hBx⟩
     ·have HZ:=ax (show possF c last (a.facts.drop k)=possF c last (a.facts.drop (k+1)) by rw[HD.o,hff];simp);clear hff hB1 e1 e2;(go_wp2_with fail)
      go_round
      case rel=>exact ⟨k+1,by omega,by go_num,by show _=_;rw[HA.o,HZ.o],kA,hBx⟩
      case measure=>simp[intOf];omega
    ·have HZ:=ax (show possF c last (a.facts.drop k)=possF c last (a.facts.drop (k+1)) by rw[HD.o,decide_eq_false e2];simp);(go_wp2_with fail)
     go_round
     case rel=>exact ⟨k+1,by omega,by go_num,by show _=_;rw[HA.o,HZ.o],blks,bel⟩
     case measure=>simp[intOf];omega
   ·have HZ:=ax (show possF c last (a.facts.drop k)=possF c last (a.facts.drop (k+1)) by rw[HD.o,decide_eq_false e1];simp);(go_wp2_with fail)
    go_round
    case rel=>exact ⟨k+1,by omega,by go_num,by show _=_;rw[HA.o,HZ.o],blks,bel⟩
    case measure=>simp[intOf];omega
  ·obtain rfl:k=a.facts.length:=by omega
   have HF:=ax (show poss a c last=possA c last [] a.atoms by rw[HP.o,HA.o,List.drop_length];rfl);clear HA HP;(go_wp2_with fail)
   go_loopw [9,39] (fun S i wr=>∃ (k:Nat) (seen:List Int),k≤a.atoms.length∧i=.int .i64 k∧S=.int .u16 (tset seen:Nat)∧aJ (poss a c last=possA c last seen (a.atoms.drop k))∧Below w.heap.size w wr) (fun _ i _=>a.atoms.length - (intOf i).toNat)
   case atStart=>exact ⟨0,[],Nat.zero_le _,rfl,by unfold tset;rfl,HF.o,hB⟩
   case round=>
    clear hB kA qA lA;obtain ⟨k,seen,hkk,rfl,rfl,HA,hB⟩:=hrel;have hT:=tset_lt seen;by_cases hlt:k<a.atoms.length
    ·obtain ⟨b,off,rfl,hbl⟩:=h2.blt hlt;obtain ⟨g0,g1,g2⟩:=(h2.bz hB).cl hlt;have HD:=ax (possA_drop c last seen a.atoms k hlt);have hxk:=hXO.o _ (List.getElem_mem hlt);have hcx:=hCL.o _ (List.getElem_mem hlt);obtain ⟨x,hxe⟩:∃ x,x=a.atoms[k]:=⟨_,rfl⟩;rw[←hxe] at g0 g1 g2 HD hxk hcx;clear hxe;have kg:Blk wr g tTc (encI c).toArray:=hk.bz hB hgl;have hgr:=kg.lt;have hno:x.a≤last→x.b≤last→x.fill c=true→inLast c last x=true:=fun h1 h2 h3=>by simp[inLast,h1,h2,h3]
     by_cases e1:x.a≤last
     ·by_cases e2:x.b≤last
      ·have hct:=hcx e1;(go_wp2_with fail);refine (c_impl_isFilled x c g _ (kg.alloc _) hc hxk.1 hxk.2).mono ?_;rintro e w1 ⟨rfl,hB1⟩;have hBx:Below w.heap.size w w1:=bgo (w:=w) bel hB1;have kx:=(Blk.new wr tA #[.int .i64 x.kind,.int .i64 x.a,.int .i64 x.b]).nz hB1;replace kg:=(kg.alloc (.cells #[.int .i64 x.kind,.int .i64 x.a,.int .i64 x.b] tA)).nz hB1;cases hff:x.fill c
       ·have HZ:=ax (show possA c last seen (a.atoms.drop k)=possA c last seen (a.atoms.drop (k+1)) by rw[HD.o,inLast,hff];simp);clear hff hB1;(go_wp2_with fail)
        go_round
        case rel=>exact ⟨k+1,seen,by omega,by go_num,rfl,by show _=_;rw[HA.o,HZ.o],hBx⟩
        case measure=>simp[intOf];omega
       ·have HI:=ax (hno e1 e2 hff);clear hff hB1 hno hcx;obtain ⟨vv,hvv⟩:∃ vv,vv=cl c x.a:=⟨_,rfl⟩;have HVV:=ax hvv;rw[←hvv] at hct
        have hbt:(tset seen).testBit vv.toNat=decide (vv∈seen):=by
         have:=zjA.1 hct;rw[tset_bit,decide_eq_decide];rw[Int.toNat_of_nonneg this.1];exact ⟨fun h=>h.2,fun h=>⟨hct,h⟩⟩
        obtain ⟨q,xa,xb⟩:=x;dsimp only at hxk kx e1 e2 hvv g0 g1 g2;obtain ⟨⟨a1,a2⟩,⟨b1,b2⟩⟩:=hxk;obtain ⟨xa,rfl⟩:=Int.eq_ofNat_of_zero_le a1;obtain ⟨xb,rfl⟩:=Int.eq_ofNat_of_zero_le b1;have hxa9:xa<9:=by omega
        have hxal:(xa:Int)<9:=by omega
        have cc:=case_cell kg (m:=xa) (by rw[hc];exact hxa9);rw[←hvv] at cc;have kxc:=kx.cell;clear hvv a1 a2 b1 b2;by_cases hz:vv=0
        ·have HZ:=ax (show poss a c last=false by rw[HA.o,HD.o,if_pos HI.o,←HVV.o,hz];simp);subst hz;(go_wp2_with fail);refine wp_region_noPanic ?_;refine wp_region_held_drew (S:=(fun w'=>w'.cell? ⟨g,xa,none⟩=some (.int .i64 0)∧(∀ i,w'.cell? ⟨wr.heap.size,i,none⟩=#[.int .i64 q,.int .i64 xa,.int .i64 xb][i]?))) (by kernel_rfl) (⟨cc,kxc⟩) (fun aH=>?_);refine tk2 0 rfl aH (h:=tk2 1 rfl aH (h:=tk2 2 rfl aH (h:=?_)));(try simp only[zz]);refine tk2 3 rfl aH (h:=tk2 4 rfl aH (h:=tk2 5 rfl aH (h:=?_)));(try simp only[zz]);refine tk2 6 rfl aH (h:=tk2 7 rfl aH (h:=?_));(try simp only[zz]);refine tku 8 rfl aH ?_;(try simp only[zz]);refine tku 9 rfl aH ?_;(try simp only[zz]);refine tku 10 rfl aH ?_;(try simp only[zz]);refine tku 11 rfl aH ?_;(try simp only[zz]);refine tku 12 rfl aH ?_;(try simp only[zz]);refine tku 13 rfl aH ?_;(try simp only[zz]);refine tku 14 rfl aH ?_;(try simp only[zz]);refine tku 15 rfl aH ?_;(try simp only[zz]);refine tk2 16 rfl aH (h:=?_);(try simp only[zz]);refine dn1 ?_;go_wp2;go_ret;exact ⟨zjD HZ.o.symm,bel⟩
        ·have hzb:(vv == 0)=false:=by simpa using hz
         have HNZ:=ax hz;clear hz;(go_wp2_with fail);(go_quiet ((go_at_call 140;exact Calls.quiet_of_same ((c_impl_tHas _ _ _ hT).mono fun _ _ ⟨a,b⟩=>⟨a,b.symm⟩))));have cc2:(w1.drewN nq).cell? ⟨g,xa,none⟩=some (.int .i64 vv):=cc;have kxc2:∀ i,(w1.drewN nq).cell? ⟨wr.heap.size,i,none⟩=#[.int .i64 q,.int .i64 xa,.int .i64 xb][i]?:=kxc;have hBx2:=below_drewN hBx nq;rw[hct,hbt];clear cc kxc kx kg hBx;generalize w1.drewN nq=w2 at cc2 kxc2 hBx2 ⊢;by_cases hse:vv∈seen
         ·have HZ:=ax (show poss a c last=false by rw[HA.o,HD.o,if_pos HI.o,←HVV.o,decide_eq_true hse];simp);go_wp2;go_ret;exact ⟨zjD HZ.o.symm,bel⟩
         ·have HZ:=ax (show poss a c last=possA c last (seen++[vv]) (a.atoms.drop (k+1)) by rw[HA.o,HD.o,if_pos HI.o,←HVV.o,decide_eq_false hse,decide_eq_false HNZ.o];simp);(go_wp2_with fail);(go_quiet ((go_at_call 135;exact Calls.quiet_of_same ((c_impl_with _ _ _ hT).mono fun _ _ ⟨a,b⟩=>⟨a,b.symm⟩))));(go_wp2_with fail)
          go_round
          case rel=>exact ⟨k+1,seen++[vv],by omega,by go_num,by rw[tset_snoc],HZ.o,bel⟩
          case measure=>simp[intOf];omega
      ·have HZ:=ax (show possA c last seen (a.atoms.drop k)=possA c last seen (a.atoms.drop (k+1)) by rw[HD.o,inLast,decide_eq_false e2];simp);(go_wp2_with fail)
       go_round
       case rel=>exact ⟨k+1,seen,by omega,by go_num,rfl,by show _=_;rw[HA.o,HZ.o],bel⟩
       case measure=>simp[intOf];omega
     ·have HZ:=ax (show possA c last seen (a.atoms.drop k)=possA c last seen (a.atoms.drop (k+1)) by rw[HD.o,inLast,decide_eq_false e1];simp);(go_wp2_with fail)
      go_round
      case rel=>exact ⟨k+1,seen,by omega,by go_num,rfl,by show _=_;rw[HA.o,HZ.o],bel⟩
      case measure=>simp[intOf];omega
    ·obtain rfl:k=a.atoms.length:=by omega
     (go_wp2_with fail);go_ret;exact ⟨zjD (by rw[HA.o,List.drop_length];rfl),hB⟩
end
end Go.Proofs.YtjaohekkmlkinaaGreat
