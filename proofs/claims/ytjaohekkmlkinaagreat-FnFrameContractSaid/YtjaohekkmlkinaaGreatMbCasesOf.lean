/- Contracts: impl's search for cases, an iterator. -/
import Derived.Test.YtjaohekkmlkinaaGreatMbRange
import Derived.Shelf.Abstract
import Derived.Test.YtjaohekkmlkinaaGreatMbKit
import Derived.Deep.RegionHeld3
set_option linter.unusedSimpArgs false
set_option linter.unusedVariables false
set_option maxRecDepth 100000
set_option maxHeartbeats 25600000
namespace Go.Proofs.YtjaohekkmlkinaaGreat
section
open Go Go.RowKit Go.Proofs
attribute [local go_sem ↓] Go.wp_at_zero Go.wp_at_succ
attribute [local go_sem] Oper.semAt_some
abbrev tAs:Nat:=37
abbrev case9 (c:List Int):Array Value:=#[.int .i64 (cl c 0),.int .i64 (cl c 1),.int .i64 (cl c 2),.int .i64 (cl c 3),.int .i64 (cl c 4),.int .i64 (cl c 5),.int .i64 (cl c 6),.int .i64 (cl c 7),.int .i64 (cl c 8)]
theorem case9_eq {c:List Int} (h:c.length=9):case9 c=(encI c).toArray:=by
 match c,h with
 | [c0,c1,c2,c3,c4,c5,c6,c7,c8],_=>rfl
theorem case9_set {c:List Int} (h:c.length=9) (m:Nat) (v:Int):(case9 c).setIfInBounds m (.int .i64 v)=case9 (c.set m v):=by
 rw[case9_eq h,case9_eq (by simpa using h)];simp[encI]
theorem Blk.case {w:World} {g:Nat} {t:TypeId} {c:List Int} (h:Blk w g t (case9 c)) (hc:c.length=9):Blk w g t (encI c).toArray:=by rw[←case9_eq hc];exact h
theorem Blk.caseSet {w:World} {g:Nat} {t:TypeId} {c:List Int} (h:Blk w g t (case9 c)) (hc:c.length=9) (m:Nat) (v:Int):Blk (w.setCell ⟨g,m,none⟩ (.int .i64 v)) g t (case9 (c.set m v)):=by
 rw[←case9_set hc];exact h.set_ _ _
theorem case9_cells {w:World} {g:Nat} {t:TypeId} {c:List Int} (h:Blk w g t (case9 c)) :
  w.cell? ⟨g,0,none⟩=some (.int .i64 (cl c 0))∧w.cell? ⟨g,1,none⟩=some (.int .i64 (cl c 1))∧w.cell? ⟨g,2,none⟩=some (.int .i64 (cl c 2))∧w.cell? ⟨g,3,none⟩=some (.int .i64 (cl c 3))∧w.cell? ⟨g,4,none⟩=some (.int .i64 (cl c 4))∧w.cell? ⟨g,5,none⟩=some (.int .i64 (cl c 5))∧w.cell? ⟨g,6,none⟩=some (.int .i64 (cl c 6))∧w.cell? ⟨g,7,none⟩=some (.int .i64 (cl c 7))∧w.cell? ⟨g,8,none⟩=some (.int .i64 (cl c 8)):=by
 have q:=h.cell;exact ⟨q 0,q 1,q 2,q 3,q 4,q 5,q 6,q 7,q 8⟩
theorem Rw.keepB {w w':World} {lo hi size n n₀:Nat} {A:Option Addr} {xs:List Value} (h:Rw w lo hi size A n xs) (hb:Below n₀ w w') (hh:hi≤n₀):Rw w' lo hi size A n xs:=h.keep fun b _ h2=>hb.block b (by omega)
theorem AsnV.keepB {w w':World} {lo hi n₀:Nat} {v:Value} {a:Asn} (h:AsnV w lo hi v a) (hb:Below n₀ w w') (hh:hi≤n₀):AsnV w' lo hi v a:=by
 obtain ⟨A1,c1,A2,c2,e,h1,h2⟩:=h;exact ⟨A1,c1,A2,c2,e,⟨h1.raw.keepB hb hh,h1.lim⟩,⟨h2.raw.keepB hb hh,h2.lim⟩⟩
abbrev CaseT (a:Asn) (S:Nat):={ c:List Int // c∈cases a S }
theorem CaseT.len {a:Asn} {S:Nat} (x:CaseT a S):x.1.length=9:=by
 have h:=x.2;unfold cases at h;exact (gen_ok S 9 zeros x.1 (by omega) rfl (List.mem_filter.1 h).1).1
theorem CaseT.pos {a:Asn} {S:Nat} (x:CaseT a S) (j:Nat) (hj:j<9):(S.testBit j=true→0≤cl x.1 j∧cl x.1 j≤j)∧(S.testBit j=false→cl x.1 j = -1):=by
 have h:=x.2;unfold cases at h;exact (gen_ok S 9 zeros x.1 (by omega) rfl (List.mem_filter.1 h).1).2.2 j (by omega) hj
def extAt (a:Asn) (S n:Nat) (c:List Int) (k:Nat):List (List Int):=if k<8 - n∧cl c k≠k then [] else if poss a (c.set (8 - n) k) (8 - n:Nat) then ext a S n (c.set (8 - n) k) else []
theorem ext_loop (a:Asn) (S n:Nat) (c:List Int) (h:S.testBit (8 - n)=true):ext a S (n+1) c=(List.range (9 - n)).flatMap (extAt a S n c):=by
 conv=>lhs;unfold ext
 rw[h,if_pos rfl];rfl
theorem range_pre {α:Type} {f:Nat→List α} {k n:Nat} (h:k<n) {ys:List α} (hy:ys <+: f k):(List.range k).flatMap f++ys <+: (List.range n).flatMap f:=by
 obtain ⟨zs,hz⟩:=hy;obtain ⟨m,rfl⟩:∃ m,n=k+(m+1):=⟨n - k - 1,by omega⟩;rw[List.range_add,List.range_succ_eq_map,List.map_cons,List.flatMap_append,List.flatMap_cons,Nat.add_zero,←hz];exact ⟨zs++(List.map (fun x=>k+x) (List.map Nat.succ (List.range m))).flatMap f,by simp[List.append_assoc]⟩
theorem Kept.setNew {T1 T2:TypeId} {n₀:Nat} {W W':World} (h:Kept T1 T2 n₀ W W') {p:Addr} (hp:W.heap.size≤p.block) (hn:n₀≤W.heap.size) (u:Value):Kept T1 T2 n₀ W (W'.setCell p u):=
 ⟨h.bz.setCell (by omega) _,fun g t cs ht hb=>(h.keep g t cs ht hb).far (by have:=hb.lt;omega) _⟩
theorem c_impl_extend {a:Asn} {S lo hi l n₀ B:Nat} {v:Value} (hv:a.valid=true) (hS:S<512) (hT:∀ t∈mz a,S.testBit t.toNat=true) (hhi:hi≤n₀)
  (J Jx:List (CaseT a S)→World→Prop) (hJ:AbT tTc B J)
  (hY:∀ m pre (x:CaseT a S) W,J pre W→(pre++[x]).map Subtype.val <+: cases a S→YieldAt Fence.wide m Tryz.prog l #[.agg (case9 x.1)] W fun e W'=>(e=.returned (.bool true)∧J (pre++[x]) W'∧Kept tTc tAs n₀ W W')∨(e=.returned (.bool false)∧Jx (pre++[x]) W')) :
  ∀ (n:Nat) (c:List Int) (pre:List (CaseT a S)) (W:World),n≤9→c.length=9→pre.map Subtype.val++ext a S n c <+: cases a S→(∀ j:Nat,j<9 - n→S.testBit j=true→0≤cl c j∧cl c j≤j)→AsnV W lo hi v a→B≤W.heap.size→n₀≤W.heap.size→J pre W→
   Calls Tryz.prog 202 #[.agg (case9 c),.int .i64 ((9 - n:Nat):Int),v,.int .u16 (S:Nat),.func (.yield l) #[] #[]] W fun e W'=>
    (e=.returned (.bool true)∧∃ ys:List (CaseT a S),ys.map Subtype.val=ext a S n c∧J (pre++ys) W'∧Kept tTc tAs n₀ W W')∨(e=.returned (.bool false)∧∃ ys:List (CaseT a S),ys.map Subtype.val <+: ext a S n c∧Jx (pre++ys) W'):=by
 intro n
 induction n with
 | zero=>
  intro c pre W _ hc hm _ hA hBW hn0 hJp;obtain ⟨A1,c1,A2,c2,rfl,-,-⟩:=hA;have hB0:Below W.heap.size W ((W.alloc (.cells (case9 c) tTc)).alloc (.cells #[.slice A1 a.facts.length c1,.slice A2 a.atoms.length c2] tAs)):=bel;have hJ1:=hJ.nz hJp hB0;have hx:c∈cases a S:=hm.subset (by simp[ext]);obtain ⟨fn,tmps,assign,body,hy,hR⟩:=hY 0 pre ⟨c,hx⟩ _ hJ1 (by simpa[ext] using hm);have hk0:=Kept.nz (T1:=tTc) (T2:=tAs) (n₀:=n₀) hB0 hn0;dsimp only at hy;have hR:=RoundIn.mono hR (R':=fun e W'=>(e=.returned (.bool true)∧J (pre++[⟨c,hx⟩]) W'∧Kept tTc tAs n₀ W W')∨(e=.returned (.bool false)∧Jx (pre++[⟨c,hx⟩]) W')) (fun e W' h=>h.elim (fun h=>Or.inl ⟨h.1,h.2.1,hk0.trans h.2.2⟩) Or.inr);clear hY hJ hk0 hJ1 hB0 hJp hm;refine (callsIn_wide (n:=1)).1 ?_;(refine callsIn_of_wp Tryz.func202 rfl trivial ?_ rfl;simp only[Tryz.ntmps202,List.size_toArray,List.length_cons,List.length_nil,Nat.reduceAdd,Nat.reduceSub,Array.replicate_succ,Array.replicate_zero,List.push_toArray,List.append_toArray,List.nil_append,List.cons_append])
  gi_wp2
  refine hR.mono ?_;rintro e W' (⟨rfl,h1,h2⟩|⟨rfl,h1⟩)
  ·gi_wp2
   go_ret;exact Or.inl ⟨rfl,[⟨c,hx⟩],by simp[ext],h1,h2⟩
  ·gi_wp2
   go_ret;exact Or.inr ⟨rfl,[⟨c,hx⟩],by simp[ext],h1⟩
 | succ n ih=>
  intro c pre W hn hc hm hcl hA hBW hn0 hJp;have hV:=ax hA;obtain ⟨A1,c1,A2,c2,rfl,-,-⟩:=hA;obtain ⟨m,hm8⟩:∃ m,m=8 - n:=⟨_,rfl⟩;have e1:((9 - n:Nat):Int)=(m:Int)+1:=by omega
  rw[show 9 - (n+1)=m from by omega] at hcl ⊢;have hmi:(m:Int)≤8:=by omega
  have hmi9:(m:Int)<9:=by omega
  have hit:jq (m:Int)=true:=by rw[zjA];omega
  have HO:=ax (Asn.valid_ok hv);have IH:=ax ih;have HJ:=ax hJ;have HJP:=ax hJp;have HM:=ax hm;have HCL:=ax hcl;have HM8:=ax hm8;have HT:=ax hT;have HC:=ax hc;have hmg:¬(8<(m:Int)):=by omega
  have hmn:=ax hn;have E1:=ax e1;clear ih hJ hJp hY hm hcl hT hm8 hc hn e1;obtain ⟨W2,hW2⟩:∃ W2,W2=((W.alloc (.cells (case9 c) tTc)).alloc (.cells #[.slice A1 a.facts.length c1,.slice A2 a.atoms.length c2] tAs)):=⟨_,rfl⟩;have k0:Blk W2 W.heap.size tTc (case9 c):=by rw[hW2];exact blks
  have k1:Blk W2 (W.heap.size+1) tAs #[.slice A1 a.facts.length c1,.slice A2 a.atoms.length c2]:=by rw[hW2];exact blks
  have hB:Below W.heap.size W W2:=by rw[hW2];exact bel
  have HW2:=ax hW2;clear hW2;(go_enter Tryz.func202,Tryz.ntmps202);(go_wp2_with fail);refine (c_impl_tHas S (m:Int) _ hS).mono ?_;rintro e W3 ⟨rfl,rfl⟩;rw[hit,Int.toNat_natCast,Bool.true_and,←HW2.o];have lk0:=k0.lt;have lk1:=k1.lt;have rk0:=k0.frozen;clear HW2;cases ht:S.testBit m
  ·have HTS:=ax ht
   have HE:aJ (ext a S (n+1) c=ext a S n (c.set m (-1))):=by
    show _=_
    conv=>lhs;unfold ext
    rw[←HM8.o,ht];rfl
   have k0':=k0.caseSet HC.o m (-1);obtain ⟨p0,p1,p2,p3,p4,p5,p6,p7,p8⟩:=case9_cells k0';have qm:W2.cell? ⟨W.heap.size,m,none⟩=some (.int .i64 (cl c m)):=case_cell (k0.case HC.o) (by rw[HC.o];omega);have qk1:=(k1.far (p:=⟨W.heap.size,m,none⟩) (by simp) (.int .i64 (-1))).cell;have hB3:Below W.heap.size W (W2.setCell ⟨W.heap.size,m,none⟩ (.int .i64 (-1))):=bel;have hz:=hB3.size;clear ht k0 k1 k0' hB;(go_wp2_with fail)
   have ih1:=IH.o (c.set m (-1)) pre _ (by have:=hmn.o;omega) (by simpa using HC.o) (by rw[←HE.o];exact HM.o) (fun j hj hSj=>by
    have:=HM8.o;rw[cl_set HC.o (by omega) _ (by omega)];by_cases ej:j=m
    ·subst ej;rw[HTS.o] at hSj;cases hSj
    ·rw[if_neg (by omega)];exact HCL.o j (by omega) hSj) (hV.o.bz hB3) (Nat.le_trans hBW hz) (Nat.le_trans hn0 hz) (HJ.o.nz HJP.o hB3)
   rw[E1.o] at ih1;refine ih1.mono ?_;clear ih1;rintro e W' (⟨rfl,ys,y1,y2,y3⟩|⟨rfl,ys,y1,y2⟩)
   ·have Y:=ax (⟨y1,y2,y3⟩:_∧_∧_);clear y1 y2 y3;(go_wp2_with fail);go_ret;exact Or.inl ⟨rfl,ys,by rw[HE.o];exact Y.o.1,Y.o.2.1,(Kept.nz hB3 hn0).trans Y.o.2.2⟩
   ·have Y:=ax (⟨y1,y2⟩:_∧_);clear y1 y2;(go_wp2_with fail);go_ret;exact Or.inr ⟨rfl,ys,by rw[HE.o];exact Y.o.1,Y.o.2⟩
  ·have HTS:=ax ht;have HE:=ax (ext_loop a S n c (by rw[←HM8.o];exact ht));clear ht;(go_wp2_with fail)
   go_loopw [11] (fun i wr=>∃ (k:Nat) (d:List Int) (ys:List (CaseT a S)),k≤m+1∧i=.int .i64 k∧aJ (d.length=9)∧aJ (∀ v,d.set m v=c.set m v)∧aJ (ys.map Subtype.val=(List.range k).flatMap (extAt a S n c))∧Blk wr W.heap.size tTc (case9 d)∧Blk wr (W.heap.size+1) tAs #[.slice A1 a.facts.length c1,.slice A2 a.atoms.length c2]∧aJ (J (pre++ys) wr)∧aJ (Kept tTc tAs n₀ W wr)) (fun i _=>9 - (intOf i).toNat)
   case atStart=>exact ⟨0,c,[],Nat.zero_le _,rfl,HC,fun _=>rfl,rfl,k0,k1,by rw[List.append_nil];exact HJ.o.nz HJP.o hB,Kept.nz hB hn0⟩
   case round=>
    clear k0 k1 lk0 lk1 rk0 hB;obtain ⟨k,d,ys,hk,rfl,HDL,HDS,HYS,k0,k1,HJW,HKW⟩:=hrel;have lk0:=k0.lt;have lk1:=k1.lt;have rk0:=k0.frozen;by_cases hlt:k≤m
    ·have hki:(k:Int)≤(m:Int):=by omega
     have hk9:(k:Int)<9:=by omega
     have hkc:wr.cell? ⟨W.heap.size,k,none⟩=some (.int .i64 (cl d k)):=case_cell (k0.case HDL.o) (by rw[HDL.o];omega);have HNX:aJ ((List.range (k+1)).flatMap (extAt a S n c)=(List.range k).flatMap (extAt a S n c)++extAt a S n c k):=by show _=_;rw[List.range_succ,List.flatMap_append];simp
     have hdc:k<m→cl d k=cl c k:=fun h=>by
      have h1:=cl_set HDL.o (t:=m) (by omega) 0 (j:=(k:Int)) (by omega);have h2:=cl_set HC.o (t:=m) (by omega) 0 (j:=(k:Int)) (by omega);rw[if_neg (by omega)] at h1 h2;rw[←h1,←h2,HDS.o]
     have HDC:=ax hdc;clear hdc;by_cases hskip:k<m∧cl c k≠k
     ·have HX:aJ (extAt a S n c k=[]):=by show _=_;rw[extAt,if_pos (by rw[←HM8.o];exact hskip)]
      have hkm:(k:Int)<(m:Int):=by omega
      have hne:(cl d k != (k:Int))=true:=by rw[HDC.o hskip.1];simpa using hskip.2
      clear hskip hki hlt;(go_wp2_with fail)
      go_round
      case rel=>exact ⟨k+1,d,ys,by omega,by go_num,HDL,HDS,by show _=_;rw[HNX.o,HX.o,List.append_nil];exact HYS.o,k0,k1,HJW,HKW⟩
      case measure=>simp[intOf];omega
     ·have hsk2:k<m→(cl d k != (k:Int))=false:=fun h=>by
       rw[HDC.o h]
       cases Int.decEq (cl c k) k with
       | isTrue h=>simp[h]
       | isFalse h'=>exact absurd ⟨h,h'⟩ hskip
      have HX:aJ (extAt a S n c k=if poss a (c.set m k) m then ext a S n (c.set m k) else []):=by
       show _=_;rw[extAt,←HM8.o,if_neg hskip]
      clear hskip;have k0':Blk (wr.setCell ⟨W.heap.size,m,none⟩ (.int .i64 k)) W.heap.size tTc (case9 (c.set m k)):=by rw[←HDS.o k];exact k0.caseSet HDL.o m k
      have k1':=k1.far (p:=⟨W.heap.size,m,none⟩) (by simp) (.int .i64 (k:Int));have qk1:=k1'.cell;have qm:wr.cell? ⟨W.heap.size,m,none⟩=some (.int .i64 (cl d m)):=case_cell (k0.case HDL.o) (by rw[HDL.o];omega);have HKW':=ax (HKW.o.setNew (p:=⟨W.heap.size,m,none⟩) (Nat.le_refl _) hn0 (.int .i64 (k:Int)));have HJW':=ax (HJ.o.set HJW.o k0 hBW m (.int .i64 (k:Int)));have HA':=ax (hV.o.keepB HKW'.o.bz hhi);have hcs:(c.set m (k:Int)).length=9:=by simpa using HC.o
      have HCS:=ax hcs
      have hcl':∀ j:Nat,j≤m→S.testBit j=true→0≤cl (c.set m (k:Int)) j∧cl (c.set m (k:Int)) j≤j:=fun j hj hSj=>by
       rw[cl_set HC.o (by omega) _ (by omega)]
       split
       ·omega
       ·exact HCL.o j (by omega) hSj
      have HCL':=ax hcl'
      have hpo:∀ x∈a.atoms,x.a≤(m:Int)→jq (cl (c.set m (k:Int)) x.a)=true:=fun x hx hxm=>by
       have h0:=(HO.o.2 x hx).1;obtain ⟨t,et⟩:=Int.eq_ofNat_of_zero_le h0.1;have hb:=HT.o x.a (by simp only[mz,List.mem_append,List.mem_flatMap];exact Or.inr ⟨x,hx,by simp[atomT]⟩);rw[et] at hb hxm ⊢;have:=hcl' t (by omega) (by simpa using hb);rw[zjA];omega
      have HPO:=ax hpo;clear hcl' hpo hcs k1;have K1':=ax k1';clear k1';have hwz:W.heap.size≤wr.heap.size:=by omega
      obtain hkm|hkm:k<m∨k=m:=by omega
      case' inl=>have h1:(k:Int)<(m:Int):=by omega
      case' inl=>have h2:=hsk2 hkm
      case' inr=>have h1:¬(k:Int)<(m:Int):=by omega
      all_goals
       clear hkm hsk2;(go_wp2_with fail);refine (c_impl_possible _ a (m:Int) (c.set m (k:Int)) W.heap.size _ HA'.o (k0'.case HCS.o) HCS.o HO.o.1 HO.o.2 HPO.o).mono ?_;rintro e w1 ⟨rfl,hB1⟩;have k0:=k0'.nz hB1;have k1:=K1'.o.nz hB1;replace qk1:=k1.cell;obtain ⟨p0,p1,p2,p3,p4,p5,p6,p7,p8⟩:=case9_cells k0;have hz:=hB1.size;simp only[World.size_setCell] at hz;have HKW1:=ax (HKW'.o.trans (Kept.nz hB1 (by simp only[World.size_setCell];omega)));have HJ1:=ax (HJ.o.nz HJW'.o hB1);have HA1:=ax (hV.o.keepB HKW1.o.bz hhi);clear hB1 qm k0' rk0;cases hps:poss a (c.set m (k:Int)) (m:Int)
       ·have HX2:=ax (show extAt a S n c k=[] by rw[HX.o,hps];rfl);clear hps;(go_wp2_with fail)
        go_round
        case rel=>exact ⟨k+1,c.set m (k:Int),ys,by omega,by go_num,HCS,fun v=>by rw[List.set_set],by show _=_;rw[HNX.o,HX2.o,List.append_nil];exact HYS.o,k0,k1,HJ1,HKW1⟩
        case measure=>simp[intOf];omega
       ·have HX2:=ax (show extAt a S n c k=ext a S n (c.set m (k:Int)) by rw[HX.o,hps];rfl);clear hps;have hk9n:k<9 - n:=by have:=HM8.o;have:=hmn.o;omega
        have ih1:=IH.o (c.set m (k:Int)) (pre++ys) w1 (by have:=hmn.o;omega) HCS.o (by
         refine List.IsPrefix.trans ?_ HM.o;rw[HE.o,List.map_append,HYS.o,List.append_assoc]
         exact (List.prefix_append_right_inj _).2 (range_pre hk9n (by rw[HX2.o];exact List.prefix_rfl))) (fun j hj=>HCL'.o j (by have:=HM8.o;have:=hmn.o;omega)) HA1.o (by omega) (by omega) HJ1.o
        rw[E1.o] at ih1;have IH1:=ax ih1;clear ih1;(go_wp2_with fail);refine IH1.o.mono ?_;rintro e W' (⟨rfl,ys2,y1,y2,y3⟩|⟨rfl,ys2,y1,y2⟩)
        ·have z0:=y3.keep _ _ _ (Or.inl rfl) k0;have z1:=y3.keep _ _ _ (Or.inr rfl) k1;have Y:=ax (⟨y1,y2,y3⟩:_∧_∧_);clear y1 y2 y3 k0 k1 qk1 p0 p1 p2 p3 p4 p5 p6 p7 p8;(go_wp2_with fail)
         go_round
         case rel=>exact ⟨k+1,c.set m (k:Int),ys++ys2,by omega,by go_num,HCS,fun v=>by rw[List.set_set],by show _=_;rw[HNX.o,HX2.o,List.map_append,Y.o.1,HYS.o],z0,z1,by rw[←List.append_assoc];exact Y.o.2.1,HKW1.o.trans Y.o.2.2⟩
         case measure=>simp[intOf];omega
        ·have Y:=ax (⟨y1,y2⟩:_∧_);clear y1 y2 k0 k1 qk1 p0 p1 p2 p3 p4 p5 p6 p7 p8;(go_wp2_with fail);go_ret;refine Or.inr ⟨rfl,ys++ys2,?_,by rw[←List.append_assoc];exact Y.o.2⟩;rw[HE.o,List.map_append,HYS.o];exact range_pre hk9n (by rw[HX2.o];exact Y.o.1)
    ·obtain rfl:k=m+1:=by omega
     (go_wp2_with fail);go_ret;refine Or.inl ⟨rfl,ys,?_,HJW.o,HKW.o⟩;rw[HE.o,HYS.o,show 9 - n=m+1 from by have:=HM8.o;have:=hmn.o;omega]
abbrev tTS:Nat:=100
def caseS (a:Asn) (F:Nat):Nat:=tins (tset (mz a)) 0|||F
theorem caseS_lt {a:Asn} {F:Nat} (h:F<512):caseS a F<512:=Nat.or_lt_two_pow (n:=9) (tins_lt (tset_lt _) 0) h
theorem caseS_bit (a:Asn) (F n:Nat):(caseS a F).testBit n=(decide (jq (n:Int)=true∧(n:Int)∈mz a) || decide (n=0) || F.testBit n):=by
 unfold caseS;rw[Nat.testBit_or,tins_bit,tset_bit]
 congr 2
 rw[decide_eq_decide];constructor
 ·rintro ⟨_,h⟩;omega
 ·intro h;subst h;exact ⟨by decide,rfl⟩
theorem caseS_zero (a:Asn) (F:Nat):(caseS a F).testBit 0=true:=by rw[caseS_bit];simp
theorem caseS_terms {a:Asn} (h:a.valid=true) (F:Nat):∀ t∈mz a,(caseS a F).testBit t.toNat=true:=by
 intro t ht;have hb:=termsL_ok h t ht;have:=zjA.1 hb;rw[caseS_bit];have e:((t.toNat:Nat):Int)=t:=by omega
 rw[e];simp[hb,ht]
theorem caseS_not {a:Asn} (h:a.valid=true) (F:Nat):∀ t:Nat,(caseS a F).testBit t=false→(∀ f∈a.facts,f.a≠t∧f.b≠t)∧(∀ x∈a.atoms,x.a≠t∧x.b≠t):=by
 intro t ht
 have key:(t:Int)∉mz a:=fun hm=>by
  have:=caseS_terms h F _ hm;rw[Int.toNat_natCast,ht] at this;cases this
 refine ⟨fun f hf=>⟨fun e=>key ?_,fun e=>key ?_⟩,fun x hx=>⟨fun e=>key ?_,fun e=>key ?_⟩⟩
 all_goals simp only[mz,List.mem_append,List.mem_flatMap]
 ·exact Or.inl ⟨f,hf,by simp[factT,e]⟩
 ·exact Or.inl ⟨f,hf,by simp[factT,e]⟩
 ·exact Or.inr ⟨x,hx,by simp[atomT,e]⟩
 ·exact Or.inr ⟨x,hx,by simp[atomT,e]⟩
theorem ext_caseS {a:Asn} (h:a.valid=true) (F:Nat):ext a (caseS a F) 9 zeros=cases a (caseS a F):=ext_cases (Asn.valid_ok h).1 (Asn.valid_ok h).2 (caseS_not h F)
theorem c_seq {a:Asn} {F lo hi n₀ gA gT:Nat} {A1 A2:Option Addr} {d1 d2:Nat} (w:World) (hv:a.valid=true) (hF:F<512) (hA:AsnV w lo hi (.agg #[.slice A1 a.facts.length d1,.slice A2 a.atoms.length d2]) a) (hhi:hi≤n₀) (hn:n₀≤w.heap.size)
  (kA:Blk w gA tAs #[.slice A1 a.facts.length d1,.slice A2 a.atoms.length d2]) (kT:Blk w gT tTS #[.int .u16 (caseS a F:Nat)]) :
  SeqT (α:=CaseT a (caseS a F)) Tryz.prog 201 #[.pointer (some ⟨gA,0,none⟩),.pointer (some ⟨gT,0,none⟩)] (fun x=>#[.agg (case9 x.1)]) tTc (Kept tTc tAs n₀) (fun p=>p.map Subtype.val <+: cases a (caseS a F)) (fun xs=>xs.map Subtype.val=cases a (caseS a F)) (fun pre=>pre.map Subtype.val <+: cases a (caseS a F)) w:=by
 intro n l J Jx W hW hJ hJx hY h0;have kA':=kA.nz hW;have kT':=kT.nz hW;have hA':=hA.bz hW;have hz:=hW.size;have hB1:Below W.heap.size W (W.alloc (.cells (case9 zeros) tTc)):=bel;have h1:=c_impl_extend hv (caseS_lt hF) (caseS_terms hv F) hhi J Jx hJ hY 9 zeros [] _ (by omega) rfl (by rw[ext_caseS hv];simp) (fun j hj=>by omega) (hA'.bz hB1) hB1.size (by have:=hB1.size;omega) (hJ.nz h0 hB1);rw[show ((9 - 9:Nat):Int)=0 from rfl,ext_caseS hv] at h1;have H1:=ax h1;have lA:=kA'.lt;have lT:=kT'.lt;have qA:=kA'.cell;have qT:=kT'.cell;clear h1 hY hJ hJx h0 hA' hA;refine callsIn_wide.2 ?_;(go_enter Tryz.func201,Tryz.ntmps201);(go_wp2_with fail);refine H1.o.mono ?_;rintro e W' (⟨rfl,ys,y1,y2,-⟩|⟨rfl,ys,y1,y2⟩)
 ·have Y:=ax (⟨y1,y2⟩:_∧_);clear y1 y2;(go_wp2_with fail)
  go_end0
  exact ⟨⟨_,rfl⟩,.inl ⟨ys,Y.o.1,Y.o.2⟩⟩
 ·have Y:=ax (⟨y1,y2⟩:_∧_);clear y1 y2;(go_wp2_with fail)
  go_end0
  exact ⟨⟨_,rfl⟩,.inr ⟨ys,Y.o.1,Y.o.2⟩⟩
theorem c_impl_possibleCases {lo hi:Nat} (A1 A2:Option Addr) (d1 d2:Nat) (a:Asn) (F:Nat) (w:World) (h:AsnV w lo hi (.agg #[.slice A1 a.facts.length d1,.slice A2 a.atoms.length d2]) a) (hF:F<512) :
  Calls Tryz.prog 152 #[.agg #[.slice A1 a.facts.length d1,.slice A2 a.atoms.length d2],.int .u16 (F:Nat)] w fun e w'=>∃ gA gT,e=.returned (.func (.func 201) #[] #[.pointer (some ⟨gA,0,none⟩),.pointer (some ⟨gT,0,none⟩)])∧
   w.heap.size≤gA∧w.heap.size≤gT∧Blk w' gA tAs #[.slice A1 a.facts.length d1,.slice A2 a.atoms.length d2]∧Blk w' gT tTS #[.int .u16 (caseS a F:Nat)]∧Below w.heap.size w w':=by
 have hV:=ax h;clear h;have hT:=tset_lt (mz a);have hT2:=tins_lt hT 0;have hU:=u16_or_nat (tins (tset (mz a)) 0) F (by omega) (by omega);(go_enter Tryz.func152,Tryz.ntmps152);(go_wp2_with fail);refine (c_impl_termsIn _ a _ (hV.o.bz bel)).mono ?_;rintro e w1 ⟨rfl,hB1⟩;have k0:Blk w1 w.heap.size tAs #[.slice A1 a.facts.length d1,.slice A2 a.atoms.length d2]:=Blk.nz blks hB1;have hB:Below w.heap.size w w1:=bgo (w:=w) bel hB1;have hz:=hB1.size;simp only[World.size_alloc] at hz;clear hB1;(go_wp2_with fail);refine (c_impl_with _ 0 _ hT).mono ?_;rintro e w2 ⟨rfl,rfl⟩;(go_wp2_with fail);go_ret;refine ⟨w.heap.size,w1.heap.size,rfl,Nat.le_refl _,by omega,k0.alloc _,?_,bel⟩;exact Blk.new _ _ _
abbrev set9 (w:World) (g:Nat) (v0 v1 v2 v3 v4 v5 v6 v7 v8:Value):World:=(((((((((w.setCell ⟨g,0,none⟩ v0).setCell ⟨g,1,none⟩ v1).setCell ⟨g,2,none⟩ v2).setCell ⟨g,3,none⟩ v3).setCell ⟨g,4,none⟩ v4).setCell ⟨g,5,none⟩ v5).setCell ⟨g,6,none⟩ v6).setCell ⟨g,7,none⟩ v7).setCell ⟨g,8,none⟩ v8)
theorem Blk.nine {w:World} {g:Nat} {t:TypeId} {a0 a1 a2 a3 a4 a5 a6 a7 a8 v0 v1 v2 v3 v4 v5 v6 v7 v8:Value} (h:Blk w g t #[a0,a1,a2,a3,a4,a5,a6,a7,a8]):Blk (set9 w g v0 v1 v2 v3 v4 v5 v6 v7 v8) g t #[v0,v1,v2,v3,v4,v5,v6,v7,v8]:=by
 have h0:=h.set_ 0 v0;simp only[List.setIfInBounds_toArray,List.set_cons_zero] at h0;have h1:=h0.set_ 1 v1;simp only[List.setIfInBounds_toArray,List.set_cons_zero,List.set_cons_succ] at h1;have h2:=h1.set_ 2 v2;simp only[List.setIfInBounds_toArray,List.set_cons_zero,List.set_cons_succ] at h2;have h3:=h2.set_ 3 v3;simp only[List.setIfInBounds_toArray,List.set_cons_zero,List.set_cons_succ] at h3;have h4:=h3.set_ 4 v4;simp only[List.setIfInBounds_toArray,List.set_cons_zero,List.set_cons_succ] at h4;have h5:=h4.set_ 5 v5;simp only[List.setIfInBounds_toArray,List.set_cons_zero,List.set_cons_succ] at h5;have h6:=h5.set_ 6 v6;simp only[List.setIfInBounds_toArray,List.set_cons_zero,List.set_cons_succ] at h6;have h7:=h6.set_ 7 v7;simp only[List.setIfInBounds_toArray,List.set_cons_zero,List.set_cons_succ] at h7;have h8:=h7.set_ 8 v8;simp only[List.setIfInBounds_toArray,List.set_cons_zero,List.set_cons_succ] at h8;exact h8
theorem Blk.nineFar {w:World} {g g2:Nat} {t:TypeId} {cs:Array Value} {v0 v1 v2 v3 v4 v5 v6 v7 v8:Value} (h:Blk w g2 t cs) (hn:g2≠g):Blk (set9 w g v0 v1 v2 v3 v4 v5 v6 v7 v8) g2 t cs:=
 ((((((((h.far (p:=⟨g,0,none⟩) hn v0).far (p:=⟨g,1,none⟩) hn v1).far (p:=⟨g,2,none⟩) hn v2).far (p:=⟨g,3,none⟩) hn v3).far (p:=⟨g,4,none⟩) hn v4).far (p:=⟨g,5,none⟩) hn v5).far (p:=⟨g,6,none⟩) hn v6).far (p:=⟨g,7,none⟩) hn v7).far (p:=⟨g,8,none⟩) hn v8
theorem below9 {w w0:World} {B g:Nat} {v0 v1 v2 v3 v4 v5 v6 v7 v8:Value} (h:Below B w0 w) (hn:B≤g):Below B w0 (set9 w g v0 v1 v2 v3 v4 v5 v6 v7 v8):=
 ((((((((h.setCell (p:=⟨g,0,none⟩) hn v0).setCell (p:=⟨g,1,none⟩) hn v1).setCell (p:=⟨g,2,none⟩) hn v2).setCell (p:=⟨g,3,none⟩) hn v3).setCell (p:=⟨g,4,none⟩) hn v4).setCell (p:=⟨g,5,none⟩) hn v5).setCell (p:=⟨g,6,none⟩) hn v6).setCell (p:=⟨g,7,none⟩) hn v7).setCell (p:=⟨g,8,none⟩) hn v8
theorem keeps9 {w:World} {g:Nat} {v0 v1 v2 v3 v4 v5 v6 v7 v8:Value}:KeepsOthers w (set9 w g v0 v1 v2 v3 v4 v5 v6 v7 v8):=
 ((((((((KeepsOthers.setCell _ _ _).trans (KeepsOthers.setCell _ _ _)).trans (KeepsOthers.setCell _ _ _)).trans (KeepsOthers.setCell _ _ _)).trans (KeepsOthers.setCell _ _ _)).trans (KeepsOthers.setCell _ _ _)).trans (KeepsOthers.setCell _ _ _)).trans (KeepsOthers.setCell _ _ _)).trans (KeepsOthers.setCell _ _ _)
theorem Kept.putl {T1 T2:TypeId} {n₀ B:Nat} (hn:n₀≤B) (W:World) (l:Nat) (o o':Obj) (hl:B≤l) (h:W.heap[l]? = some o) (hc:o.isCells=false):Kept T1 T2 n₀ W (W.putObj l o'):=Kept.put o' (by omega) h hc
theorem Blk.putl {W:World} {g l:Nat} {t:TypeId} {cs:Array Value} {o:Obj} (o':Obj) (hb:Blk W g t cs) (hl:W.heap[l]? = some o) (ho:o.isCells=false):Blk (W.putObj l o') g t cs:=
 (World.putObj_heap_other (fun e=>by subst e;unfold Blk at hb;rw[hl] at hb;cases hb;cases ho)).trans hb
end
section
open Go Go.RowKit Go.Proofs
attribute [local go_sem ↓] Go.wp_at_zero Go.wp_at_succ
theorem IntsO.open_ {w:World} {base:Nat} {A:Option Addr} {n c k:Nat} {fs:List Int} (h:IntsO w base (.slice A n c) fs) (hk:k<fs.length):∃ g cur,n=fs.length∧A=some ⟨g,0,none⟩∧base≤g∧Blk w g tI cur∧cur[k]? = some (.int .i64 fs[k])∧
  (∀ v:Int,IntsO (w.setCell ⟨g,k,none⟩ (.int .i64 v)) base (.slice A n c) (fs.set k v)):=by
 obtain ⟨⟨hl,h2⟩,hL⟩:=h;rcases h2 with ⟨e,hn⟩|⟨g,cap,cur,e,hb,hh,hn,hm,hs,ht⟩
 ·omega
 ·injection e with e1 e2 e3;subst e1 e2 e3;have hK:Blk w g tI cur:=hh
  have hP:Pre cur (encI fs) (fs.length * 1):=by
   intro j hj;rw[←ht,List.getElem?_take,if_pos hj];simp
  refine ⟨g,cur,rfl,rfl,hb,hK,(hP _ (by omega)).trans (by simp[List.getElem?_eq_getElem hk]),?_⟩;intro v;refine ⟨?_,by rw[List.length_set];exact hL⟩;rw[show encI (fs.set k v)=(encI fs).set k (.int .i64 v) from by simp[encI,List.map_set],List.length_set];exact own_of_blk (hK.set_ k (.int .i64 v)) hb (by rw[List.length_set,hl]) (hP.setL k (.int .i64 v) (by rw[hs];exact Nat.mul_le_mul hn (Nat.le_refl _)) (by rw[hl];exact Nat.le_refl _)) hn hm (by simpa using hs)
def seekAt (a:Asn) (S n:Nat) (c:List Int) (k:Nat):List (List Int):=if k<8 - n∧cl c k≠k then [] else seek a S n (c.set (8 - n) k)
theorem seek_cut {a:Asn} {S:Nat} (n:Nat) {c:List Int} (h:(fitsS c a.facts&&earlyF c [] a.atoms)=false):seek a S n c=[]:=by
 cases n<;>(unfold seek;rw[h];rfl)
theorem seek_leaf {a:Asn} {S:Nat} {c:List Int} (h:(fitsS c a.facts&&earlyF c [] a.atoms)=true):seek a S 0 c=if apartF [] (filledL a.atoms c) then [c] else []:=by
 unfold seek;rw[h,if_pos rfl]
theorem seek_step {a:Asn} {S n:Nat} {c:List Int} (h:(fitsS c a.facts&&earlyF c [] a.atoms)=true):seek a S (n+1) c=if S.testBit (8 - n) then (List.range (9 - n)).flatMap (seekAt a S n c) else seek a S n c:=by
 conv=>lhs;unfold seek
 rw[h,if_pos rfl];rfl
theorem flatMap_first {α:Type} {f:Nat→List α} {k N:Nat} (hk:k<N) (h:(List.range k).flatMap f=[]) (hne:f k≠[]):∃ y,(f k).head? = some y∧((List.range N).flatMap f).head? = some y:=by
 obtain ⟨m,rfl⟩:∃ m,N=k+(m+1):=⟨N - k - 1,by omega⟩;rw[List.range_add,List.range_succ_eq_map,List.map_cons,List.flatMap_append,List.flatMap_cons,Nat.add_zero,h,List.nil_append]
 cases e:f k with
 | nil=>exact absurd e hne
 | cons y ys=>exact ⟨y,rfl,rfl⟩
def firstI (L:List (List Int)):List Int:=L.head?.getD []
theorem c_fits9 {lo hi lo' hi':Nat} (A B:Option Addr) (c0 c1:Nat) (fs:List Fct) (c:List Int) (w:World) (h:FactsV w lo hi A fs) (h':IntsV w lo' hi' B c) (hc:c.length=9) (hf:FactsOk fs) :
  Calls Tryz.prog 244 #[.slice A fs.length c0,.slice B 9 c1] w fun e w'=>e=.returned (.bool (fitsS c fs))∧w=w':=by
 have:=c_spec_l5Fits A B c0 c1 fs c w h h' hc hf;rwa [hc] at this
theorem c_early9 {lo hi lo' hi':Nat} (A B:Option Addr) (c0 c1:Nat) (xs:List Atm) (c:List Int) (w:World) (h:AtomsV w lo hi A xs) (h':IntsV w lo' hi' B c) (hc:c.length=9) (hx:AtomsOk xs) (hcl:∀ x∈xs,cl c x.a≤8) :
  Calls Tryz.prog 245 #[.slice A xs.length c0,.slice B 9 c1] w fun e w'=>e=.returned (.bool (earlyF c [] xs))∧Below w.heap.size w w':=by
 have:=c_spec_l5Early A B c0 c1 xs c w h h' hc hx hcl;rwa [hc] at this
theorem c_filled9 {lo hi lo' hi':Nat} (A B:Option Addr) (c0 c1:Nat) (xs:List Atm) (c:List Int) (w:World) (h:AtomsV w lo hi A xs) (h':IntsV w lo' hi' B c) (hc:c.length=9) (hx:AtomsOk xs) :
  Calls Tryz.prog 209 #[.slice A xs.length c0,.slice B 9 c1] w fun e w'=>∃ r,e=.returned r∧AtomsO w' w.heap.size r (filledL xs c)∧Below w.heap.size w w':=by
 have:=c_spec_l5Filled A B c0 c1 xs c w h h' hc hx;rwa [hc] at this
theorem openedB:(∀ j:Nat,j<9→cl opened j≤8)∧∀ (S:Nat) (j:Nat),j<9 - 8→S.testBit j=true→0≤cl opened j∧cl opened j≤j:=by
 refine ⟨fun j hj=>?_,fun S j hj _=>?_⟩
 ·obtain rfl|rfl|rfl|rfl|rfl|rfl|rfl|rfl|rfl:j=0∨j=1∨j=2∨j=3∨j=4∨j=5∨j=6∨j=7∨j=8:=by omega
  all_goals decide
 ·obtain rfl:j=0:=by omega
  decide
theorem seek_congr (a:Asn) {S S':Nat} (h:∀ j,1≤j→j<9→S.testBit j=S'.testBit j):∀ (n:Nat) (c:List Int),n≤8→seek a S n c=seek a S' n c:=by
 intro n
 induction n with
 | zero=>intro c _;rfl
 | succ n ih=>
  intro c hn;unfold seek;rw[h (8 - n) (by omega) (by omega)];have e:∀ c',seek a S n c'=seek a S' n c':=fun c'=>ih c' (by omega)
  split
  ·split
   ·apply flatMap_congr';intro k _;rw[e]
   ·exact e _
  ·rfl
theorem seek_caseS {a:Asn} (hv:a.valid=true) (F S:Nat) (h:∀ j,1≤j→j<9→S.testBit j=(caseS a F).testBit j):seek a S 8 opened=cases a (caseS a F):=by
 rw[seek_congr a h 8 opened (by omega)];exact seek_cases (Asn.valid_ok hv).1 (Asn.valid_ok hv).2 (caseS_zero a F) (caseS_not hv F)
end
section
open Go Go.RowKit Go.Proofs
theorem AsnI.setT {w:World} {lo hi:Nat} {v:Value} {x:Asn} (h:AsnI w lo hi v x) {g:Nat} {t:TypeId} {cs:Array Value} (hk:Blk w g t cs) (h1:t≠tF) (h2:t≠tA) (i:Nat) (u:Value):AsnI (w.setCell ⟨g,i,none⟩ u) lo hi v x:=by
 obtain ⟨fv,av,e,p1,p2⟩:=h;exact ⟨fv,av,e,⟨p1.1.setT hk h1 i u,p1.2⟩,⟨p2.1.setT hk h2 i u,p2.2⟩⟩
theorem IntsI.setT {w:World} {lo hi:Nat} {v:Value} {x:List Int} (h:IntsI w lo hi v x) {g:Nat} {t:TypeId} {cs:Array Value} (hk:Blk w g t cs) (h1:t≠tI) (i:Nat) (u:Value):IntsI (w.setCell ⟨g,i,none⟩ u) lo hi v x:=⟨h.1.setT hk h1 i u,h.2⟩
abbrev tIS:Nat:=31
theorem infoIS:(Tryz.prog.info? tIS).map (fun i=>(i.zero,i.size,i.bytes))=some (some (.slice none 0 0),1,24):=by kernel_rfl
section
variable {w w':World} {base base':Nat} {v:Value} {vs:List Value} {xss:List (List Int)}
end
section
variable {w w':World} {lo hi a b:Nat} {v:Value} {xss:List (List Int)}
end
end
section
open Go Go.RowKit Go.Proofs
attribute [local go_sem ↓] Go.wp_at_zero Go.wp_at_succ
attribute [local go_sem] Oper.semAt_some
structure KX (w w':World):Prop where
 os:w'.os=w.os
 tape:w'.tape=w.tape
 output:w'.output=w.output
 size:w.heap.size≤w'.heap.size
 keep:∀ (k:Nat) (o:Obj),w.heap[k]? = some o→(∀ cs,o≠.cells cs tIS (0,0))→w'.heap[k]? = some o
section
variable {w w' w1:World}
theorem KX.of (h:Below w.heap.size w w'):KX w w':=⟨h.os,h.tape,h.output,h.size,fun k o hk _=>(h.block k (Array.getElem?_eq_some_iff.1 hk).1).trans hk⟩
theorem KX.trans (h:KX w w1) (k:KX w1 w'):KX w w':=⟨k.os.trans h.os,k.tape.trans h.tape,k.output.trans h.output,Nat.le_trans h.size k.size,fun i o hi ho=>k.keep i o (h.keep i o hi ho) ho⟩
theorem KX.set (h:KX w w1) {p:Addr} (hp:w.heap.size≤p.block) (u:Value):KX w (w1.setCell p u):=
 ⟨h.os,h.tape,h.output,by have:=h.size;simpa using this,fun k o hk ho=>(Below.heap_setCell w1 p u k (by have:=(Array.getElem?_eq_some_iff.1 hk).1;omega)).trans (h.keep k o hk ho)⟩
theorem KX.app {v:Value} {base n:Nat} {vs:List Value} (h:w.ownsRow base tIS 1 v n vs) (hg:w.grownBy w' v.ownBlock):KX w w':=
 ⟨hg.os,hg.tape,hg.output,hg.size,fun k o hk ho=>(hg.block k (Array.getElem?_eq_some_iff.1 hk).1 (fun e=>by
  rcases h.2 with ⟨rfl,-⟩|⟨g,cap,cur,rfl,-,hh,-⟩
  ·cases e
  ·have e1:k=g:=by simpa[Value.ownBlock] using e
   subst e1;rw[hk] at hh
   exact ho cur (Option.some.inj hh))).trans hk⟩
theorem KX.blk (h:KX w w') {g:Nat} {t:TypeId} {cs:Array Value} (hb:Blk w g t cs) (ht:t≠tIS):Blk w' g t cs:=h.keep g _ hb fun c e=>by injection e with _ e2;exact ht e2
theorem KX.ints (h:KX w w') {base:Nat} {v:Value} {xs:List Int} (ho:IntsO w base v xs):IntsO w' base v xs:=by
 obtain ⟨⟨h1,h2⟩,h3⟩:=ho;refine ⟨⟨h1,?_⟩,h3⟩;rcases h2 with h2|⟨k,cap,cur,hv,hg,hh,r⟩
 ·exact Or.inl h2
 ·exact Or.inr ⟨k,cap,cur,hv,hg,h.blk (g:=k) hh (by decide),r⟩
end
theorem KX.keeps {w w':World} (h:KX w w'):KeepsOthers w w':=⟨h.size,fun k o hk ho=>h.keep k o hk fun cs e=>by subst e;cases ho⟩
section
variable {P:Program} {n:Nat}
end
section
variable {ops:Array Oper} {rest:List Oper} {o:Oper} {a:Act} {Q:Exit→Act→World→Prop} {w w0:World} {base:Nat} {v:Value} {vs:List Value} {xss:List (List Int)}
theorem rwS {w:World} {g:Nat} {sv:Value} (h:Blk w g tIS #[sv]):Rw w g (g+1) 1 (some ⟨g,0,none⟩) 1 [sv]:=
 ⟨rfl,fun _=>⟨g,0,rfl,Nat.le_refl _,Nat.lt_succ_self _,fun j u hu=>by
  match j,hu with
  | 0,hu=>simp at hu;subst hu;exact h.cell 0⟩⟩
end
end
end Go.Proofs.YtjaohekkmlkinaaGreat
