/- Contracts: impl's search for cases, an iterator. -/
import Derived.Test.YtgdfdmjnadnlnaaGreatCaseW
import Derived.Shelf.Abstract
set_option linter.unusedSimpArgs false
set_option linter.unusedVariables false
set_option maxRecDepth 100000
set_option maxHeartbeats 25600000
namespace Go.Proofs.YtgdfdmjnadnlnaaGreat
section
open Go Go.RowKit Go.Proofs
attribute [local go_sem ↓] Go.wp_at_zero Go.wp_at_succ
attribute [local go_sem] Oper.semAt_some
abbrev tAs:Nat:=36
abbrev case9 (c:List Int):Array Value:=#[.int .i64 (cl c 0),.int .i64 (cl c 1),.int .i64 (cl c 2),.int .i64 (cl c 3),.int .i64 (cl c 4),.int .i64 (cl c 5),.int .i64 (cl c 6),.int .i64 (cl c 7),.int .i64 (cl c 8)]
theorem case9_eq {c:List Int} (h:c.length=9):case9 c=(encI c).toArray:=by
 match c,h with
 | [c0,c1,c2,c3,c4,c5,c6,c7,c8],_=>rfl
theorem case9_set {c:List Int} (h:c.length=9) (m:Nat) (v:Int):(case9 c).setIfInBounds m (.int .i64 v)=case9 (c.set m v):=by
 rw[case9_eq h,case9_eq (by simpa using h)];simp[encI]
theorem Blk.case {w:World} {g:Nat} {t:TypeId} {c:List Int} (h:Blk w g t (case9 c)) (hc:c.length=9):Blk w g t (encI c).toArray:=by rw[←case9_eq hc];exact h
theorem Blk.caseSet {w:World} {g:Nat} {t:TypeId} {c:List Int} (h:Blk w g t (case9 c)) (hc:c.length=9) (m:Nat) (v:Int):Blk (w.setCell ⟨g,m,none⟩ (.int .i64 v)) g t (case9 (c.set m v)):=by
 rw[←case9_set hc];exact h.set_ _ _
theorem case9_cells {w:World} {g:Nat} {t:TypeId} {c:List Int} (h:Blk w g t (case9 c)) :
  w.cell? ⟨g,0,none⟩=some (.int .i64 (cl c 0))∧w.cell? ⟨g,1,none⟩=some (.int .i64 (cl c 1))∧w.cell? ⟨g,2,none⟩=some (.int .i64 (cl c 2))∧w.cell? ⟨g,3,none⟩=some (.int .i64 (cl c 3))∧w.cell? ⟨g,4,none⟩=some (.int .i64 (cl c 4))∧w.cell? ⟨g,5,none⟩=some (.int .i64 (cl c 5))∧w.cell? ⟨g,6,none⟩=some (.int .i64 (cl c 6))∧w.cell? ⟨g,7,none⟩=some (.int .i64 (cl c 7))∧w.cell? ⟨g,8,none⟩=some (.int .i64 (cl c 8)):=by
 have q:=h.cell;exact ⟨q 0,q 1,q 2,q 3,q 4,q 5,q 6,q 7,q 8⟩
theorem Rw.keepB {w w':World} {lo hi size n n₀:Nat} {A:Option Addr} {xs:List Value} (h:Rw w lo hi size A n xs) (hb:Below n₀ w w') (hh:hi≤n₀):Rw w' lo hi size A n xs:=h.keep fun b _ h2=>hb.block b (by omega)
theorem AsnV.keepB {w w':World} {lo hi n₀:Nat} {v:Value} {a:Asn} (h:AsnV w lo hi v a) (hb:Below n₀ w w') (hh:hi≤n₀):AsnV w' lo hi v a:=by
 obtain ⟨A1,c1,A2,c2,e,h1,h2⟩:=h;exact ⟨A1,c1,A2,c2,e,⟨h1.raw.keepB hb hh,h1.lim⟩,⟨h2.raw.keepB hb hh,h2.lim⟩⟩
abbrev CaseT (a:Asn) (S:Nat):={ c:List Int // c∈cases a S }
theorem CaseT.len {a:Asn} {S:Nat} (x:CaseT a S):x.1.length=9:=by
 have h:=x.2;unfold cases at h;exact (gen_ok S 9 zeros x.1 (by omega) rfl (List.mem_filter.1 h).1).1
theorem CaseT.pos {a:Asn} {S:Nat} (x:CaseT a S) (j:Nat) (hj:j<9):(S.testBit j=true→0≤cl x.1 j∧cl x.1 j≤j)∧(S.testBit j=false→cl x.1 j = -1):=by
 have h:=x.2;unfold cases at h;exact (gen_ok S 9 zeros x.1 (by omega) rfl (List.mem_filter.1 h).1).2.2 j (by omega) hj
def extAt (a:Asn) (S n:Nat) (c:List Int) (k:Nat):List (List Int):=if k<8 - n∧cl c k≠k then [] else if poss a (c.set (8 - n) k) (8 - n:Nat) then ext a S n (c.set (8 - n) k) else []
theorem ext_loop (a:Asn) (S n:Nat) (c:List Int) (h:S.testBit (8 - n)=true):ext a S (n+1) c=(List.range (9 - n)).flatMap (extAt a S n c):=by
 conv=>lhs;unfold ext
 rw[h,if_pos rfl];rfl
theorem range_pre {α:Type} {f:Nat→List α} {k n:Nat} (h:k<n) {ys:List α} (hy:ys <+: f k):(List.range k).flatMap f++ys <+: (List.range n).flatMap f:=by
 obtain ⟨zs,hz⟩:=hy;obtain ⟨m,rfl⟩:∃ m,n=k+(m+1):=⟨n - k - 1,by omega⟩;rw[List.range_add,List.range_succ_eq_map,List.map_cons,List.flatMap_append,List.flatMap_cons,Nat.add_zero,←hz];exact ⟨zs++(List.map (fun x=>k+x) (List.map Nat.succ (List.range m))).flatMap f,by simp[List.append_assoc]⟩
theorem Kept.setNew {T1 T2:TypeId} {n₀:Nat} {W W':World} (h:Kept T1 T2 n₀ W W') {p:Addr} (hp:W.heap.size≤p.block) (hn:n₀≤W.heap.size) (u:Value):Kept T1 T2 n₀ W (W'.setCell p u):=
 ⟨h.bz.setCell (by omega) _,fun g t cs ht hb=>(h.keep g t cs ht hb).far (by have:=hb.lt;omega) _⟩
theorem c_impl_extend {a:Asn} {S lo hi l n₀ B:Nat} {v:Value} (hv:a.valid=true) (hS:S<512) (hT:∀ t∈termsL a,S.testBit t.toNat=true) (hhi:hi≤n₀)
  (J Jx:List (CaseT a S)→World→Prop) (hJ:AbT tTc B J)
  (hY:∀ m pre (x:CaseT a S) W,J pre W→(pre++[x]).map Subtype.val <+: cases a S→YieldAt Fence.wide m Tryz.prog l #[.agg (case9 x.1)] W fun e W'=>(e=.returned (.bool true)∧J (pre++[x]) W'∧Kept tTc tAs n₀ W W')∨(e=.returned (.bool false)∧Jx (pre++[x]) W')) :
  ∀ (n:Nat) (c:List Int) (pre:List (CaseT a S)) (W:World),n≤9→c.length=9→pre.map Subtype.val++ext a S n c <+: cases a S→(∀ j:Nat,j<9 - n→S.testBit j=true→0≤cl c j∧cl c j≤j)→AsnV W lo hi v a→B≤W.heap.size→n₀≤W.heap.size→J pre W→
   Calls Tryz.prog 220 #[.agg (case9 c),.int .i64 ((9 - n:Nat):Int),v,.int .u16 (S:Nat),.func (.yield l) #[] #[]] W fun e W'=>
    (e=.returned (.bool true)∧∃ ys:List (CaseT a S),ys.map Subtype.val=ext a S n c∧J (pre++ys) W'∧Kept tTc tAs n₀ W W')∨(e=.returned (.bool false)∧∃ ys:List (CaseT a S),ys.map Subtype.val <+: ext a S n c∧Jx (pre++ys) W'):=by
 intro n
 induction n with
 | zero=>
  intro c pre W _ hc hm _ hA hBW hn0 hJp;obtain ⟨A1,c1,A2,c2,rfl,-,-⟩:=hA;have hB0:Below W.heap.size W ((W.alloc (.cells (case9 c) tTc)).alloc (.cells #[.slice A1 a.facts.length c1,.slice A2 a.atoms.length c2] tAs)):=bel;have hJ1:=hJ.nz hJp hB0;have hx:c∈cases a S:=hm.subset (by simp[ext]);obtain ⟨fn,tmps,assign,body,hy,hR⟩:=hY 0 pre ⟨c,hx⟩ _ hJ1 (by simpa [ext] using hm);have hk0:=Kept.nz (T1:=tTc) (T2:=tAs) (n₀:=n₀) hB0 hn0;dsimp only at hy;have hR:=RoundIn.mono hR (R':=fun e W'=>(e=.returned (.bool true)∧J (pre++[⟨c,hx⟩]) W'∧Kept tTc tAs n₀ W W')∨(e=.returned (.bool false)∧Jx (pre++[⟨c,hx⟩]) W')) (fun e W' h=>h.elim (fun h=>Or.inl ⟨h.1,h.2.1,hk0.trans h.2.2⟩) Or.inr);clear hY hJ hk0 hJ1 hB0 hJp hm;refine (callsIn_wide (n:=1)).1 ?_;(refine callsIn_of_wp Tryz.func220 rfl trivial ?_ rfl;simp only[Tryz.ntmps220,List.size_toArray,List.length_cons,List.length_nil,Nat.reduceAdd,Nat.reduceSub,Array.replicate_succ,Array.replicate_zero,List.push_toArray,List.append_toArray,List.nil_append,List.cons_append])
  gi_wp2
  refine hR.mono ?_;rintro e W' (⟨rfl,h1,h2⟩|⟨rfl,h1⟩)
  ·gi_wp2
   go_ret;exact Or.inl ⟨rfl,[⟨c,hx⟩],by simp[ext],h1,h2⟩
  ·gi_wp2
   go_ret;exact Or.inr ⟨rfl,[⟨c,hx⟩],by simp[ext],h1⟩
 | succ n ih=>
  intro c pre W hn hc hm hcl hA hBW hn0 hJp;have hV:=ax hA;obtain ⟨A1,c1,A2,c2,rfl,-,-⟩:=hA;obtain ⟨m,hm8⟩:∃ m,m=8 - n:=⟨_,rfl⟩;have e1:((9 - n:Nat):Int)=(m:Int)+1:=by omega
  rw[show 9 - (n+1)=m from by omega] at hcl ⊢;have hmi:(m:Int)≤8:=by omega
  have hmi9:(m:Int)<9:=by omega
  have hit:isTermB (m:Int)=true:=by rw[isTermB_iff];omega
  have HO:=ax (Asn.valid_ok hv);have IH:=ax ih;have HJ:=ax hJ;have HJP:=ax hJp;have HM:=ax hm;have HCL:=ax hcl;have HM8:=ax hm8;have HT:=ax hT;have HC:=ax hc;have hmg:¬(8<(m:Int)):=by omega
  have hmn:=ax hn;have E1:=ax e1;clear ih hJ hJp hY hm hcl hT hm8 hc hn e1;obtain ⟨W2,hW2⟩:∃ W2,W2=((W.alloc (.cells (case9 c) tTc)).alloc (.cells #[.slice A1 a.facts.length c1,.slice A2 a.atoms.length c2] tAs)):=⟨_,rfl⟩;have k0:Blk W2 W.heap.size tTc (case9 c):=by rw[hW2];exact blks
  have k1:Blk W2 (W.heap.size+1) tAs #[.slice A1 a.facts.length c1,.slice A2 a.atoms.length c2]:=by rw[hW2];exact blks
  have hB:Below W.heap.size W W2:=by rw[hW2];exact bel
  have HW2:=ax hW2;clear hW2;(go_enter Tryz.func220,Tryz.ntmps220);(go_wp2_with fail);refine (c_impl_tHas S (m:Int) _ hS).mono ?_;rintro e W3 ⟨rfl,rfl⟩;rw[hit,Int.toNat_natCast,Bool.true_and,←HW2.o];have lk0:=k0.lt;have lk1:=k1.lt;have rk0:=k0.frozen;clear HW2;cases ht:S.testBit m
  ·have HTS:=ax ht
   have HE:aJ (ext a S (n+1) c=ext a S n (c.set m (-1))):=by
    show _=_
    conv=>lhs;unfold ext
    rw[←HM8.o,ht];rfl
   have k0':=k0.caseSet HC.o m (-1);obtain ⟨p0,p1,p2,p3,p4,p5,p6,p7,p8⟩:=case9_cells k0';have qm:W2.cell? ⟨W.heap.size,m,none⟩=some (.int .i64 (cl c m)):=case_cell (k0.case HC.o) (by rw[HC.o];omega);have qk1:=(k1.far (p:=⟨W.heap.size,m,none⟩) (by simp) (.int .i64 (-1))).cell;have hB3:Below W.heap.size W (W2.setCell ⟨W.heap.size,m,none⟩ (.int .i64 (-1))):=bel;have hz:=hB3.size;clear ht k0 k1 k0' hB;(go_wp2_with fail)
   have ih1:=IH.o (c.set m (-1)) pre _ (by have:=hmn.o;omega) (by simpa using HC.o) (by rw[←HE.o];exact HM.o) (fun j hj hSj=>by
    have:=HM8.o;rw[cl_set HC.o (by omega) _ (by omega)];by_cases ej:j=m
    ·subst ej;rw[HTS.o] at hSj;cases hSj
    ·rw[if_neg (by omega)];exact HCL.o j (by omega) hSj) (hV.o.bz hB3) (Nat.le_trans hBW hz) (Nat.le_trans hn0 hz) (HJ.o.nz HJP.o hB3)
   rw[E1.o] at ih1;refine ih1.mono ?_;clear ih1;rintro e W' (⟨rfl,ys,y1,y2,y3⟩|⟨rfl,ys,y1,y2⟩)
   ·have Y:=ax (⟨y1,y2,y3⟩:_∧_∧_);clear y1 y2 y3;(go_wp2_with fail);go_ret;exact Or.inl ⟨rfl,ys,by rw[HE.o];exact Y.o.1,Y.o.2.1,(Kept.nz hB3 hn0).trans Y.o.2.2⟩
   ·have Y:=ax (⟨y1,y2⟩:_∧_);clear y1 y2;(go_wp2_with fail);go_ret;exact Or.inr ⟨rfl,ys,by rw[HE.o];exact Y.o.1,Y.o.2⟩
  ·have HTS:=ax ht;have HE:=ax (ext_loop a S n c (by rw[←HM8.o];exact ht));clear ht;(go_wp2_with fail)
   go_loopw [11] (fun i wr=>∃ (k:Nat) (d:List Int) (ys:List (CaseT a S)),k≤m+1∧i=.int .i64 k∧aJ (d.length=9)∧aJ (∀ v,d.set m v=c.set m v)∧aJ (ys.map Subtype.val=(List.range k).flatMap (extAt a S n c))∧Blk wr W.heap.size tTc (case9 d)∧Blk wr (W.heap.size+1) tAs #[.slice A1 a.facts.length c1,.slice A2 a.atoms.length c2]∧aJ (J (pre++ys) wr)∧aJ (Kept tTc tAs n₀ W wr)) (fun i _=>9 - (intOf i).toNat)
   case atStart=>exact ⟨0,c,[],Nat.zero_le _,rfl,HC,fun _=>rfl,rfl,k0,k1,by rw[List.append_nil];exact HJ.o.nz HJP.o hB,Kept.nz hB hn0⟩
   case round=>
    clear k0 k1 lk0 lk1 rk0 hB;obtain ⟨k,d,ys,hk,rfl,HDL,HDS,HYS,k0,k1,HJW,HKW⟩:=hrel;have lk0:=k0.lt;have lk1:=k1.lt;have rk0:=k0.frozen;by_cases hlt:k≤m
    ·have hki:(k:Int)≤(m:Int):=by omega
     have hk9:(k:Int)<9:=by omega
     have hkc:wr.cell? ⟨W.heap.size,k,none⟩=some (.int .i64 (cl d k)):=case_cell (k0.case HDL.o) (by rw[HDL.o];omega);have HNX:aJ ((List.range (k+1)).flatMap (extAt a S n c)=(List.range k).flatMap (extAt a S n c)++extAt a S n c k):=by show _=_;rw[List.range_succ,List.flatMap_append];simp
     have hdc:k<m→cl d k=cl c k:=fun h=>by
      have h1:=cl_set HDL.o (t:=m) (by omega) 0 (j:=(k:Int)) (by omega);have h2:=cl_set HC.o (t:=m) (by omega) 0 (j:=(k:Int)) (by omega);rw[if_neg (by omega)] at h1 h2;rw[←h1,←h2,HDS.o]
     have HDC:=ax hdc;clear hdc;by_cases hskip:k<m∧cl c k≠k
     ·have HX:aJ (extAt a S n c k=[]):=by show _=_;rw[extAt,if_pos (by rw[←HM8.o];exact hskip)]
      have hkm:(k:Int)<(m:Int):=by omega
      have hne:(cl d k != (k:Int))=true:=by rw[HDC.o hskip.1];simpa using hskip.2
      clear hskip hki hlt;(go_wp2_with fail)
      go_round
      case rel=>exact ⟨k+1,d,ys,by omega,by go_num,HDL,HDS,by show _=_;rw[HNX.o,HX.o,List.append_nil];exact HYS.o,k0,k1,HJW,HKW⟩
      case measure=>simp[intOf];omega
     ·have hsk2:k<m→(cl d k != (k:Int))=false:=fun h=>by
       rw[HDC.o h]
       cases Int.decEq (cl c k) k with
       | isTrue h=>simp[h]
       | isFalse h'=>exact absurd ⟨h,h'⟩ hskip
      have HX:aJ (extAt a S n c k=if poss a (c.set m k) m then ext a S n (c.set m k) else []):=by
       show _=_;rw[extAt,←HM8.o,if_neg hskip]
      clear hskip;have k0':Blk (wr.setCell ⟨W.heap.size,m,none⟩ (.int .i64 k)) W.heap.size tTc (case9 (c.set m k)):=by rw[←HDS.o k];exact k0.caseSet HDL.o m k
      have k1':=k1.far (p:=⟨W.heap.size,m,none⟩) (by simp) (.int .i64 (k:Int));have qk1:=k1'.cell;have qm:wr.cell? ⟨W.heap.size,m,none⟩=some (.int .i64 (cl d m)):=case_cell (k0.case HDL.o) (by rw[HDL.o];omega);have HKW':=ax (HKW.o.setNew (p:=⟨W.heap.size,m,none⟩) (Nat.le_refl _) hn0 (.int .i64 (k:Int)));have HJW':=ax (HJ.o.set HJW.o k0 hBW m (.int .i64 (k:Int)));have HA':=ax (hV.o.keepB HKW'.o.bz hhi);have hcs:(c.set m (k:Int)).length=9:=by simpa using HC.o
      have HCS:=ax hcs
      have hcl':∀ j:Nat,j≤m→S.testBit j=true→0≤cl (c.set m (k:Int)) j∧cl (c.set m (k:Int)) j≤j:=fun j hj hSj=>by
       rw[cl_set HC.o (by omega) _ (by omega)]
       split
       ·omega
       ·exact HCL.o j (by omega) hSj
      have HCL':=ax hcl'
      have hpo:∀ x∈a.atoms,x.a≤(m:Int)→isTermB (cl (c.set m (k:Int)) x.a)=true:=fun x hx hxm=>by
       have h0:=(HO.o.2 x hx).1;obtain ⟨t,et⟩:=Int.eq_ofNat_of_zero_le h0.1;have hb:=HT.o x.a (by simp only[termsL,List.mem_append,List.mem_flatMap];exact Or.inr ⟨x,hx,by simp[atomT]⟩);rw[et] at hb hxm ⊢;have:=hcl' t (by omega) (by simpa using hb);rw[isTermB_iff];omega
      have HPO:=ax hpo;clear hcl' hpo hcs k1;have K1':=ax k1';clear k1';have hwz:W.heap.size≤wr.heap.size:=by omega
      obtain hkm|hkm:k<m∨k=m:=by omega
      case' inl=>have h1:(k:Int)<(m:Int):=by omega
      case' inl=>have h2:=hsk2 hkm
      case' inr=>have h1:¬(k:Int)<(m:Int):=by omega
      all_goals
       clear hkm hsk2;(go_wp2_with fail);refine (c_impl_possible _ a (m:Int) (c.set m (k:Int)) W.heap.size _ HA'.o (k0'.case HCS.o) HCS.o HO.o.1 HO.o.2 HPO.o).mono ?_;rintro e w1 ⟨rfl,hB1⟩;have k0:=k0'.nz hB1;have k1:=K1'.o.nz hB1;replace qk1:=k1.cell;obtain ⟨p0,p1,p2,p3,p4,p5,p6,p7,p8⟩:=case9_cells k0;have hz:=hB1.size;simp only[World.size_setCell] at hz;have HKW1:=ax (HKW'.o.trans (Kept.nz hB1 (by simp only[World.size_setCell];omega)));have HJ1:=ax (HJ.o.nz HJW'.o hB1);have HA1:=ax (hV.o.keepB HKW1.o.bz hhi);clear hB1 qm k0' rk0;cases hps:poss a (c.set m (k:Int)) (m:Int)
       ·have HX2:=ax (show extAt a S n c k=[] by rw[HX.o,hps];rfl);clear hps;(go_wp2_with fail)
        go_round
        case rel=>exact ⟨k+1,c.set m (k:Int),ys,by omega,by go_num,HCS,fun v=>by rw[List.set_set],by show _=_;rw[HNX.o,HX2.o,List.append_nil];exact HYS.o,k0,k1,HJ1,HKW1⟩
        case measure=>simp[intOf];omega
       ·have HX2:=ax (show extAt a S n c k=ext a S n (c.set m (k:Int)) by rw[HX.o,hps];rfl);clear hps;have hk9n:k<9 - n:=by have:=HM8.o;have:=hmn.o;omega
        have ih1:=IH.o (c.set m (k:Int)) (pre++ys) w1 (by have:=hmn.o;omega) HCS.o (by
         refine List.IsPrefix.trans ?_ HM.o;rw[HE.o,List.map_append,HYS.o,List.append_assoc]
         exact (List.prefix_append_right_inj _).2 (range_pre hk9n (by rw[HX2.o];exact List.prefix_rfl))) (fun j hj=>HCL'.o j (by have:=HM8.o;have:=hmn.o;omega)) HA1.o (by omega) (by omega) HJ1.o
        rw[E1.o] at ih1;have IH1:=ax ih1;clear ih1;(go_wp2_with fail);refine IH1.o.mono ?_;rintro e W' (⟨rfl,ys2,y1,y2,y3⟩|⟨rfl,ys2,y1,y2⟩)
        ·have z0:=y3.keep _ _ _ (Or.inl rfl) k0;have z1:=y3.keep _ _ _ (Or.inr rfl) k1;have Y:=ax (⟨y1,y2,y3⟩:_∧_∧_);clear y1 y2 y3 k0 k1 qk1 p0 p1 p2 p3 p4 p5 p6 p7 p8;(go_wp2_with fail)
         go_round
         case rel=>exact ⟨k+1,c.set m (k:Int),ys++ys2,by omega,by go_num,HCS,fun v=>by rw[List.set_set],by show _=_;rw[HNX.o,HX2.o,List.map_append,Y.o.1,HYS.o],z0,z1,by rw[←List.append_assoc];exact Y.o.2.1,HKW1.o.trans Y.o.2.2⟩
         case measure=>simp[intOf];omega
        ·have Y:=ax (⟨y1,y2⟩:_∧_);clear y1 y2 k0 k1 qk1 p0 p1 p2 p3 p4 p5 p6 p7 p8;(go_wp2_with fail);go_ret;refine Or.inr ⟨rfl,ys++ys2,?_,by rw[←List.append_assoc];exact Y.o.2⟩;rw[HE.o,List.map_append,HYS.o];exact range_pre hk9n (by rw[HX2.o];exact Y.o.1)
    ·obtain rfl:k=m+1:=by omega
     (go_wp2_with fail);go_ret;refine Or.inl ⟨rfl,ys,?_,HJW.o,HKW.o⟩;rw[HE.o,HYS.o,show 9 - n=m+1 from by have:=HM8.o;have:=hmn.o;omega]
abbrev tTS:Nat:=103
def caseS (a:Asn) (F:Nat):Nat:=tins (tset (termsL a)) 0|||F
theorem caseS_lt {a:Asn} {F:Nat} (h:F<512):caseS a F<512:=Nat.or_lt_two_pow (n:=9) (tins_lt (tset_lt _) 0) h
theorem caseS_bit (a:Asn) (F n:Nat):(caseS a F).testBit n=(decide (isTermB (n:Int)=true∧(n:Int)∈termsL a) || decide (n=0) || F.testBit n):=by
 unfold caseS;rw[Nat.testBit_or,tins_bit,tset_bit]
 congr 2
 rw[decide_eq_decide];constructor
 ·rintro ⟨_,h⟩;omega
 ·intro h;subst h;exact ⟨by decide,rfl⟩
theorem caseS_zero (a:Asn) (F:Nat):(caseS a F).testBit 0=true:=by rw[caseS_bit];simp
theorem caseS_terms {a:Asn} (h:a.valid=true) (F:Nat):∀ t∈termsL a,(caseS a F).testBit t.toNat=true:=by
 intro t ht;have hb:=termsL_ok h t ht;have:=isTermB_iff.1 hb;rw[caseS_bit];have e:((t.toNat:Nat):Int)=t:=by omega
 rw[e];simp[hb,ht]
theorem caseS_not {a:Asn} (h:a.valid=true) (F:Nat):∀ t:Nat,(caseS a F).testBit t=false→(∀ f∈a.facts,f.a≠t∧f.b≠t)∧(∀ x∈a.atoms,x.a≠t∧x.b≠t):=by
 intro t ht
 have key:(t:Int)∉termsL a:=fun hm=>by
  have:=caseS_terms h F _ hm;rw[Int.toNat_natCast,ht] at this;cases this
 refine ⟨fun f hf=>⟨fun e=>key ?_,fun e=>key ?_⟩,fun x hx=>⟨fun e=>key ?_,fun e=>key ?_⟩⟩
 all_goals simp only[termsL,List.mem_append,List.mem_flatMap]
 ·exact Or.inl ⟨f,hf,by simp[factT,e]⟩
 ·exact Or.inl ⟨f,hf,by simp[factT,e]⟩
 ·exact Or.inr ⟨x,hx,by simp[atomT,e]⟩
 ·exact Or.inr ⟨x,hx,by simp[atomT,e]⟩
theorem ext_caseS {a:Asn} (h:a.valid=true) (F:Nat):ext a (caseS a F) 9 zeros=cases a (caseS a F):=ext_cases (Asn.valid_ok h).1 (Asn.valid_ok h).2 (caseS_not h F)
theorem c_seq {a:Asn} {F lo hi n₀ gA gT:Nat} {A1 A2:Option Addr} {d1 d2:Nat} (w:World) (hv:a.valid=true) (hF:F<512) (hA:AsnV w lo hi (.agg #[.slice A1 a.facts.length d1,.slice A2 a.atoms.length d2]) a) (hhi:hi≤n₀) (hn:n₀≤w.heap.size)
  (kA:Blk w gA tAs #[.slice A1 a.facts.length d1,.slice A2 a.atoms.length d2]) (kT:Blk w gT tTS #[.int .u16 (caseS a F:Nat)]) :
  SeqT (α:=CaseT a (caseS a F)) Tryz.prog 219 #[.pointer (some ⟨gA,0,none⟩),.pointer (some ⟨gT,0,none⟩)] (fun x=>#[.agg (case9 x.1)]) tTc (Kept tTc tAs n₀) (fun p=>p.map Subtype.val <+: cases a (caseS a F)) (fun xs=>xs.map Subtype.val=cases a (caseS a F)) (fun pre=>pre.map Subtype.val <+: cases a (caseS a F)) w:=by
 intro n l J Jx W hW hJ hJx hY h0;have kA':=kA.nz hW;have kT':=kT.nz hW;have hA':=hA.bz hW;have hz:=hW.size;have hB1:Below W.heap.size W (W.alloc (.cells (case9 zeros) tTc)):=bel;have h1:=c_impl_extend hv (caseS_lt hF) (caseS_terms hv F) hhi J Jx hJ hY 9 zeros [] _ (by omega) rfl (by rw[ext_caseS hv];simp) (fun j hj=>by omega) (hA'.bz hB1) hB1.size (by have:=hB1.size;omega) (hJ.nz h0 hB1);rw[show ((9 - 9:Nat):Int)=0 from rfl,ext_caseS hv] at h1;have H1:=ax h1;have lA:=kA'.lt;have lT:=kT'.lt;have qA:=kA'.cell;have qT:=kT'.cell;clear h1 hY hJ hJx h0 hA' hA;refine callsIn_wide.2 ?_;(go_enter Tryz.func219,Tryz.ntmps219);(go_wp2_with fail);refine H1.o.mono ?_;rintro e W' (⟨rfl,ys,y1,y2,-⟩|⟨rfl,ys,y1,y2⟩)
 ·have Y:=ax (⟨y1,y2⟩:_∧_);clear y1 y2;(go_wp2_with fail)
  go_end0
  exact ⟨⟨_,rfl⟩,.inl ⟨ys,Y.o.1,Y.o.2⟩⟩
 ·have Y:=ax (⟨y1,y2⟩:_∧_);clear y1 y2;(go_wp2_with fail)
  go_end0
  exact ⟨⟨_,rfl⟩,.inr ⟨ys,Y.o.1,Y.o.2⟩⟩
theorem c_impl_possibleCases {lo hi:Nat} (A1 A2:Option Addr) (d1 d2:Nat) (a:Asn) (F:Nat) (w:World) (h:AsnV w lo hi (.agg #[.slice A1 a.facts.length d1,.slice A2 a.atoms.length d2]) a) (hF:F<512) :
  Calls Tryz.prog 172 #[.agg #[.slice A1 a.facts.length d1,.slice A2 a.atoms.length d2],.int .u16 (F:Nat)] w fun e w'=>∃ gA gT,e=.returned (.func (.func 219) #[] #[.pointer (some ⟨gA,0,none⟩),.pointer (some ⟨gT,0,none⟩)])∧
   w.heap.size≤gA∧w.heap.size≤gT∧Blk w' gA tAs #[.slice A1 a.facts.length d1,.slice A2 a.atoms.length d2]∧Blk w' gT tTS #[.int .u16 (caseS a F:Nat)]∧Below w.heap.size w w':=by
 have hV:=ax h;clear h;have hT:=tset_lt (termsL a);have hT2:=tins_lt hT 0;have hU:=u16_or_nat (tins (tset (termsL a)) 0) F (by omega) (by omega);(go_enter Tryz.func172,Tryz.ntmps172);(go_wp2_with fail);refine (c_impl_termsIn _ a _ (hV.o.bz bel)).mono ?_;rintro e w1 ⟨rfl,hB1⟩;have k0:Blk w1 w.heap.size tAs #[.slice A1 a.facts.length d1,.slice A2 a.atoms.length d2]:=Blk.nz blks hB1;have hB:Below w.heap.size w w1:=bgo (w:=w) bel hB1;have hz:=hB1.size;simp only[World.size_alloc] at hz;clear hB1;(go_wp2_with fail);refine (c_impl_with _ 0 _ hT).mono ?_;rintro e w2 ⟨rfl,rfl⟩;(go_wp2_with fail);go_ret;refine ⟨w.heap.size,w1.heap.size,rfl,Nat.le_refl _,by omega,k0.alloc _,?_,bel⟩;exact Blk.new _ _ _
theorem head_pre {y:List Int} {L:List (List Int)} (h:[y] <+: L):L.head?.getD zeros=y∧L.isEmpty=false:=by
 obtain ⟨zs,rfl⟩:=h;exact ⟨rfl,rfl⟩
abbrev set9 (w:World) (g:Nat) (v0 v1 v2 v3 v4 v5 v6 v7 v8:Value):World:=(((((((((w.setCell ⟨g,0,none⟩ v0).setCell ⟨g,1,none⟩ v1).setCell ⟨g,2,none⟩ v2).setCell ⟨g,3,none⟩ v3).setCell ⟨g,4,none⟩ v4).setCell ⟨g,5,none⟩ v5).setCell ⟨g,6,none⟩ v6).setCell ⟨g,7,none⟩ v7).setCell ⟨g,8,none⟩ v8)
theorem Blk.nine {w:World} {g:Nat} {t:TypeId} {a0 a1 a2 a3 a4 a5 a6 a7 a8 v0 v1 v2 v3 v4 v5 v6 v7 v8:Value} (h:Blk w g t #[a0,a1,a2,a3,a4,a5,a6,a7,a8]):Blk (set9 w g v0 v1 v2 v3 v4 v5 v6 v7 v8) g t #[v0,v1,v2,v3,v4,v5,v6,v7,v8]:=by
 have h0:=h.set_ 0 v0;simp only[List.setIfInBounds_toArray,List.set_cons_zero] at h0;have h1:=h0.set_ 1 v1;simp only[List.setIfInBounds_toArray,List.set_cons_zero,List.set_cons_succ] at h1;have h2:=h1.set_ 2 v2;simp only[List.setIfInBounds_toArray,List.set_cons_zero,List.set_cons_succ] at h2;have h3:=h2.set_ 3 v3;simp only[List.setIfInBounds_toArray,List.set_cons_zero,List.set_cons_succ] at h3;have h4:=h3.set_ 4 v4;simp only[List.setIfInBounds_toArray,List.set_cons_zero,List.set_cons_succ] at h4;have h5:=h4.set_ 5 v5;simp only[List.setIfInBounds_toArray,List.set_cons_zero,List.set_cons_succ] at h5;have h6:=h5.set_ 6 v6;simp only[List.setIfInBounds_toArray,List.set_cons_zero,List.set_cons_succ] at h6;have h7:=h6.set_ 7 v7;simp only[List.setIfInBounds_toArray,List.set_cons_zero,List.set_cons_succ] at h7;have h8:=h7.set_ 8 v8;simp only[List.setIfInBounds_toArray,List.set_cons_zero,List.set_cons_succ] at h8;exact h8
theorem Blk.nineFar {w:World} {g g2:Nat} {t:TypeId} {cs:Array Value} {v0 v1 v2 v3 v4 v5 v6 v7 v8:Value} (h:Blk w g2 t cs) (hn:g2≠g):Blk (set9 w g v0 v1 v2 v3 v4 v5 v6 v7 v8) g2 t cs:=
 ((((((((h.far (p:=⟨g,0,none⟩) hn v0).far (p:=⟨g,1,none⟩) hn v1).far (p:=⟨g,2,none⟩) hn v2).far (p:=⟨g,3,none⟩) hn v3).far (p:=⟨g,4,none⟩) hn v4).far (p:=⟨g,5,none⟩) hn v5).far (p:=⟨g,6,none⟩) hn v6).far (p:=⟨g,7,none⟩) hn v7).far (p:=⟨g,8,none⟩) hn v8
theorem below9 {w w0:World} {B g:Nat} {v0 v1 v2 v3 v4 v5 v6 v7 v8:Value} (h:Below B w0 w) (hn:B≤g):Below B w0 (set9 w g v0 v1 v2 v3 v4 v5 v6 v7 v8):=
 ((((((((h.setCell (p:=⟨g,0,none⟩) hn v0).setCell (p:=⟨g,1,none⟩) hn v1).setCell (p:=⟨g,2,none⟩) hn v2).setCell (p:=⟨g,3,none⟩) hn v3).setCell (p:=⟨g,4,none⟩) hn v4).setCell (p:=⟨g,5,none⟩) hn v5).setCell (p:=⟨g,6,none⟩) hn v6).setCell (p:=⟨g,7,none⟩) hn v7).setCell (p:=⟨g,8,none⟩) hn v8
theorem keeps9 {w:World} {g:Nat} {v0 v1 v2 v3 v4 v5 v6 v7 v8:Value}:KeepsOthers w (set9 w g v0 v1 v2 v3 v4 v5 v6 v7 v8):=
 ((((((((KeepsOthers.setCell _ _ _).trans (KeepsOthers.setCell _ _ _)).trans (KeepsOthers.setCell _ _ _)).trans (KeepsOthers.setCell _ _ _)).trans (KeepsOthers.setCell _ _ _)).trans (KeepsOthers.setCell _ _ _)).trans (KeepsOthers.setCell _ _ _)).trans (KeepsOthers.setCell _ _ _)).trans (KeepsOthers.setCell _ _ _)
theorem Kept.putl {T1 T2:TypeId} {n₀ B:Nat} (hn:n₀≤B) (W:World) (l:Nat) (o o':Obj) (hl:B≤l) (h:W.heap[l]? = some o) (hc:o.isCells=false):Kept T1 T2 n₀ W (W.putObj l o'):=Kept.put o' (by omega) h hc
theorem Blk.putl {W:World} {g l:Nat} {t:TypeId} {cs:Array Value} {o:Obj} (o':Obj) (hb:Blk W g t cs) (hl:W.heap[l]? = some o) (ho:o.isCells=false):Blk (W.putObj l o') g t cs:=
 (World.putObj_heap_other (fun e=>by subst e;unfold Blk at hb;rw[hl] at hb;cases hb;cases ho)).trans hb
theorem c_impl_firstCase {lo hi:Nat} (v:Value) (a:Asn) (w:World) (h:AsnV w lo hi v a) (hhi:hi≤w.heap.size) (hv:a.valid=true) :
  Calls Tryz.prog 105 #[v] w fun e w'=>e=.returned (.tuple #[.agg (case9 ((cases a (caseS a 0)).head?.getD zeros)),.bool (!(cases a (caseS a 0)).isEmpty)])∧Below w.heap.size w w':=by
 have hV:=ax h;obtain ⟨A1,c1,A2,c2,rfl,-,-⟩:=h;refine (callsIn_wide (n:=3)).1 ?_;(refine callsIn_of_wp_marks Tryz.func105 rfl trivial ?_ rfl;simp only[Tryz.ntmps105,List.size_toArray,List.length_cons,List.length_nil,Nat.reduceAdd,Nat.reduceSub,Array.replicate_succ,Array.replicate_zero,List.push_toArray,List.append_toArray,List.nil_append,List.cons_append])
 gi_wp2_with fail
 refine ⟨trivial,(callsIn_wide.2 (c_impl_possibleCases A1 A2 c1 c2 a 0 _ (hV.o.bz bel) (by decide))).mono ?_⟩;rintro e w1 ⟨gA,gT,rfl,hA,hT,kA,kT,hB1⟩;have kR0:Blk w1 (w.heap.size+1) tTc #[.int .i64 0,.int .i64 0,.int .i64 0,.int .i64 0,.int .i64 0,.int .i64 0,.int .i64 0,.int .i64 0,.int .i64 0]:=Blk.nz blks hB1;have kR:Blk w1 (w.heap.size+1) tTc (case9 zeros):=kR0;clear kR0;have kO:Blk w1 (w.heap.size+1+1) 4 #[.bool false]:=Blk.nz blks hB1;have hB:Below w.heap.size w w1:=bgo (w:=w) bel hB1;have hz:=hB1.size;simp only[World.size_alloc] at hz hA hT;have hAw:=hV.o.bz hB;clear hB1
 gi_wp2_with fail
 refine wp_rangeT (gf:=219) (lb:=#[.pointer (some ⟨gA,0,none⟩),.pointer (some ⟨gT,0,none⟩)]) rfl (enters_of Tryz.func219 (by kernel_rfl) rfl)
  (c_seq (n₀:=w.heap.size) w1 hv (by decide) hAw hhi (by omega) kA kT) (fun h k=>h.trans k) (Kept.putl (by omega)) (Below.refl _ _) (fun _=>rfl)
  (fun pre W=>pre=[]∧Blk W (w.heap.size+1) tTc (case9 zeros)∧Blk W (w.heap.size+1+1) 4 #[.bool false]∧Below w.heap.size w W)
  (fun c pre W=>∃ x,c=.ret∧pre=[x]∧Blk W (w.heap.size+1) tTc (case9 x.1)∧Blk W (w.heap.size+1+1) 4 #[.bool true]∧Below w.heap.size w W)
  (fun s X Y row hs hg hr=>⟨hs.1,hs.2.1.turn hg hr (Or.inr (by omega)),hs.2.2.1.turn hg hr (Or.inr (by omega)),Below.turn hs.2.2.2 hg hr (by omega) hs.2.2.2.size⟩)
  (fun c s X Y row hs hg hr=>by
   obtain ⟨x,e1,e2,k1,k2,k3⟩:=hs
   exact ⟨x,e1,e2,k1.turn hg hr (Or.inr (by omega)),k2.turn hg hr (Or.inr (by omega)),Below.turn k3 hg hr (by omega) k3.size⟩)
  ⟨rfl,kR,kO,hB⟩ ?round ?done ?stop
 case round=>
  rintro l pre x W hl ⟨rfl,kR,kO,hB⟩ -;have hwz:=hB.size
  gi_wp2
  refine ⟨(KeepsOthers.alloc _ _).from _,Kept.alloc (by omega) _,fun o o' ho hc=>?_⟩;have kX:=(Blk.new W tTc (case9 x.1)).putl o' ho hc;have lO:=kO.lt;replace kR:=(kR.alloc (.cells (case9 x.1) tTc)).putl o' ho hc;replace kO:=(kO.alloc (.cells (case9 x.1) tTc)).putl o' ho hc;have hB':=(bbox hB (.cells (case9 x.1) tTc)).trans (Kept.put (T1:=tTc) (T2:=tAs) (n₀:=w.heap.size) o' (by omega) ho hc).bz;clear ho;obtain ⟨V,hVe⟩:∃ V,V=(W.alloc (.cells (case9 x.1) tTc)).putObj l o':=⟨_,rfl⟩;rw[←hVe] at kX kR kO hB' ⊢;clear hVe hB;obtain ⟨p0,p1,p2,p3,p4,p5,p6,p7,p8⟩:=case9_cells kX;obtain ⟨q0,q1,q2,q3,q4,q5,q6,q7,q8⟩:=case9_cells kR;have rR:=kR.frozen;have qO:=kO.cell 0;have rO:=kO.frozen
  gi_wp2
  refine ⟨(keeps9.trans (KeepsOthers.setCell _ _ _)).from _,x,rfl,rfl,?_,?_,?_⟩
  ·exact (Blk.nine kR).far (p:=⟨w.heap.size+1+1,0,none⟩) (by simp) _
  ·exact (kO.nineFar (by omega)).set_ 0 (.bool true)
  ·exact (below9 hB' (by omega)).setCell (p:=⟨w.heap.size+1+1,0,none⟩) (by simp only;omega) _
 case done=>
  rintro D ys W hD hS ⟨rfl,kR,kO,hB⟩ hK;have E:cases a (caseS a 0)=[]:=hS.symm;obtain ⟨q0,q1,q2,q3,q4,q5,q6,q7,q8⟩:=case9_cells kR;have rR:=kR.frozen;have qO:=kO.cell 0;have rO:=kO.frozen;have lO:=kO.lt;have lR:=kR.lt
  gi_wp2
  have zR:=(Blk.nine (v0:=.int .i64 0) (v1:=.int .i64 0) (v2:=.int .i64 0) (v3:=.int .i64 0) (v4:=.int .i64 0) (v5:=.int .i64 0) (v6:=.int .i64 0) (v7:=.int .i64 0) (v8:=.int .i64 0) kR).far (p:=⟨w.heap.size+1+1,0,none⟩) (by simp) (.bool false);have zO:=(kO.nineFar (g:=w.heap.size+1) (v0:=.int .i64 0) (v1:=.int .i64 0) (v2:=.int .i64 0) (v3:=.int .i64 0) (v4:=.int .i64 0) (v5:=.int .i64 0) (v6:=.int .i64 0) (v7:=.int .i64 0) (v8:=.int .i64 0) (by omega)).set_ 0 (.bool false);have zB:=(below9 (g:=w.heap.size+1) (v0:=.int .i64 0) (v1:=.int .i64 0) (v2:=.int .i64 0) (v3:=.int .i64 0) (v4:=.int .i64 0) (v5:=.int .i64 0) (v6:=.int .i64 0) (v7:=.int .i64 0) (v8:=.int .i64 0) hB (by omega)).setCell (p:=⟨w.heap.size+1+1,0,none⟩) (by simp only;omega) (.bool false);have zK:=((keeps9 (w:=W) (g:=w.heap.size+1) (v0:=.int .i64 0) (v1:=.int .i64 0) (v2:=.int .i64 0) (v3:=.int .i64 0) (v4:=.int .i64 0) (v5:=.int .i64 0) (v6:=.int .i64 0) (v7:=.int .i64 0) (v8:=.int .i64 0)).trans (KeepsOthers.setCell _ ⟨w.heap.size+1+1,0,none⟩ (.bool false))).same D _ hK rfl;obtain ⟨V,hVe⟩:∃ V,V=((set9 W (w.heap.size+1) (.int .i64 0) (.int .i64 0) (.int .i64 0) (.int .i64 0) (.int .i64 0) (.int .i64 0) (.int .i64 0) (.int .i64 0) (.int .i64 0)).setCell ⟨w.heap.size+1+1,0,none⟩ (.bool false)):=⟨_,rfl⟩;rw[←hVe] at zR zO zB zK ⊢;refine ⟨by simp,.inl ⟨_,_,rfl,run_takeDeferred zK,?_⟩⟩;have yR:Blk _ _ _ (case9 zeros):=zR.putl (.deferred none) zK rfl;have yO:=zO.putl (.deferred none) zK rfl;obtain ⟨p0,p1,p2,p3,p4,p5,p6,p7,p8⟩:=case9_cells yR;have pO:=yO.cell 0;refine ⟨.tuple #[.agg (case9 zeros),.bool false],?_,by rw[E];rfl,zB.trans (belowK_b (w:=w) (Nat.le_refl _) V D _ _ (by omega) zK rfl rfl)⟩;simp[results,Tryz.f105,go_sem,p0,p1,p2,p3,p4,p5,p6,p7,p8,pO]
 case stop=>
  rintro D c pre W hD hS ⟨x,rfl,rfl,kR,kO,hB⟩ hK;obtain ⟨q0,q1,q2,q3,q4,q5,q6,q7,q8⟩:=case9_cells kR;have qO:=kO.cell 0;have lO:=kO.lt;have lR:=kR.lt
  gi_wp2
  refine ⟨by simp,.inl ⟨_,_,rfl,run_takeDeferred hK,?_⟩⟩;have yR:=kR.putl (.deferred none) hK rfl;have yO:=kO.putl (.deferred none) hK rfl;obtain ⟨p0,p1,p2,p3,p4,p5,p6,p7,p8⟩:=case9_cells yR;have pO:=yO.cell 0;have E:=head_pre hS;refine ⟨.tuple #[.agg (case9 x.1),.bool true],?_,by rw[E.1,E.2];rfl,hB.trans (belowK_b (w:=w) (Nat.le_refl _) W D _ _ (by omega) hK rfl rfl)⟩;simp[results,Tryz.f105,go_sem,p0,p1,p2,p3,p4,p5,p6,p7,p8,pO]
theorem c_impl_Consistent {lo hi:Nat} (v:Value) (a:Asn) (w:World) (h:AsnV w lo hi v a) (hhi:hi≤w.heap.size) :
  Calls Tryz.prog 203 #[v] w fun e w'=>e=.returned (.bool (a.valid && !(cases a (caseS a 0)).isEmpty))∧Below w.heap.size w w':=by
 have hV:=ax h;obtain ⟨A1,c1,A2,c2,rfl,-,-⟩:=h;(go_enter Tryz.func203,Tryz.ntmps203);(go_wp2_with fail);refine (c_impl_AssertionValid _ a _ (hV.o.bz bel)).mono ?_;rintro e w1 ⟨rfl,hB1⟩;have k0:Blk w1 w.heap.size tAs #[.slice A1 a.facts.length c1,.slice A2 a.atoms.length c2]:=Blk.nz blks hB1;have hB:Below w.heap.size w w1:=bgo (w:=w) bel hB1;have hz:=hB1.size;simp only[World.size_alloc] at hz;clear hB1;have q0:=k0.cell;have l0:=k0.lt;cases hv:a.valid
 ·(go_wp2_with fail);go_ret;exact ⟨ret_bool (by simp[hv]),hB⟩
 ·have HV:=ax hv;(go_wp2_with fail);refine (c_impl_firstCase _ a _ (hV.o.bz hB) (by omega) HV.o).mono ?_;rintro e w2 ⟨rfl,hB2⟩;(go_wp2_with fail);go_ret;exact ⟨ret_bool (by simp[hv]),bbox (bgo hB hB2) _⟩
end
section
open Go
def fillM (M:Int→Int) (x:Atm):Bool:=decide (x.kind=1) || !decide (M x.a=M x.b)
structure Sat (M:Int→Int) (a:Asn):Prop where
 facts:∀ f∈a.facts,decide (M f.a=M f.b)=f.eq
 nil:∀ x∈a.atoms,fillM M x=true→M x.a≠M 0
 apart:((a.atoms.filter (fillM M)).map fun x=>M x.a).Nodup
theorem case_zero {a:Asn} {S:Nat} (hS:S.testBit 0=true) {d:List Int} (h:d∈cases a S):cl d 0=0:=by
 unfold cases at h;have hd:=(List.mem_filter.1 h).1;have:=((gen_ok S 9 zeros d (by omega) rfl hd).2.2 0 (by omega) (by omega)).1 hS;have h2:cl d ((0:Nat):Int)=cl d 0:=rfl;omega
theorem inLast_fillM {x:Atm} {c:List Int} (h:(0≤x.a∧x.a≤8)∧(0≤x.b∧x.b≤8)):inLast c 8 x=fillM (cl c) x:=by
 unfold inLast fillM Atm.fill;rw[decide_eq_true h.1.2,decide_eq_true h.2.2];rfl
theorem case_sat {a:Asn} (hv:a.valid=true) {S:Nat} (hS:S.testBit 0=true) {d:List Int} (h:d∈cases a S):Sat (cl d) a:=by
 have h0:=case_zero hS h;have hok:=Asn.valid_ok hv;unfold cases at h;have hf:=(List.mem_filter.1 h).2;have hp:=hf;rw[full_poss hok.1 hok.2] at hp;unfold poss at hp;unfold full at hf;rw[Bool.and_eq_true] at hf hp;have hA:=(possA_iff _ _ _ _).1 hp.2;refine ⟨fun f hm=>?_,fun x hm hfi=>?_,?_⟩
 ·have:=List.all_eq_true.1 hf.1 f hm;unfold Fct.fits at this;exact eq_of_beq this
 ·rw[h0];exact (hA.1 x hm (by rw[inLast_fillM (hok.2 x hm)];exact hfi)).1
 ·rw[←List.filter_congr fun x hm=>inLast_fillM (hok.2 x hm)];exact hA.2
def leastM (M:Int→Int) (S j:Nat):Nat:=((List.range (j+1)).find? fun k=>S.testBit k&&decide (M (k:Int)=M (j:Int))).getD j
def canon (M:Int→Int) (S:Nat):List Int:=(List.range 9).map fun j=>if S.testBit j then ((leastM M S j:Nat):Int) else -1
theorem least_spec {M:Int→Int} {S j:Nat} (hj:S.testBit j=true):leastM M S j≤j∧S.testBit (leastM M S j)=true∧M (leastM M S j:Nat)=M j∧∀ k,k<leastM M S j→S.testBit k=true→M (k:Nat)≠M j:=by
 unfold leastM
 cases h:(List.range (j+1)).find? fun k=>S.testBit k&&decide (M (k:Int)=M (j:Int)) with
 | none=>
  have:=List.find?_eq_none.1 h j (by simp);simp[hj] at this
 | some k=>
  obtain ⟨h1,h2,h3⟩:=List.find?_range_eq_some.1 h;simp only[Bool.and_eq_true,decide_eq_true_eq] at h1;refine ⟨by have:=List.mem_range.1 h2;simp only[Option.getD_some];omega,h1.1,h1.2,fun i hi hb e=>?_⟩;have:=h3 i hi;simp[hb,e] at this
theorem least_eq {M:Int→Int} {S i j:Nat} (hi:S.testBit i=true) (hj:S.testBit j=true):leastM M S i=leastM M S j↔M (i:Nat)=M (j:Nat):=by
 have h1:=least_spec (M:=M) hi;have h2:=least_spec (M:=M) hj;constructor
 ·intro e;rw[←h1.2.2.1,e,h2.2.2.1]
 ·intro e;rcases Nat.lt_trichotomy (leastM M S i) (leastM M S j) with h|h|h
  ·exact absurd (h1.2.2.1.trans e) (h2.2.2.2 _ h h1.2.1)
  ·exact h
  ·exact absurd (h2.2.2.1.trans e.symm) (h1.2.2.2 _ h h2.2.1)
theorem canon_length (M:Int→Int) (S:Nat):(canon M S).length=9:=by simp[canon]
theorem cl_canon {M:Int→Int} {S j:Nat} (hj:j<9):cl (canon M S) (j:Int)=if S.testBit j then ((leastM M S j:Nat):Int) else -1:=by
 unfold cl canon;rw[Int.toNat_natCast,List.getElem?_map,List.getElem?_range hj];rfl
theorem canon_gen (M:Int→Int) (S:Nat):∀ (n:Nat) (c:List Int),n≤9→c.length=9→(∀ j:Nat,j<9 - n→cl c j=cl (canon M S) j)→canon M S∈gen S n c:=by
 intro n
 induction n with
 | zero=>
  intro c _ hc h;unfold gen;rw[List.mem_singleton];apply List.ext_getElem (by rw[hc];exact canon_length M S);intro j h1 h2;have:=h j (by omega);simpa [cl,List.getElem?_eq_getElem h1,List.getElem?_eq_getElem h2] using this.symm
 | succ n ih=>
  intro c hn hc h;unfold gen;cases e:S.testBit (8 - n)
  ·simp only[Bool.false_eq_true,if_false];refine ih _ (by omega) (by simpa using hc) fun j hj=>?_;rw[cl_set hc (by omega) _ (by omega)]
   split
   ·rename_i hj';have:j=8 - n:=by omega
    subst this;rw[cl_canon (by omega),e];rfl
   ·exact h j (by omega)
  ·rw[if_pos rfl,List.mem_flatMap];have hl:=least_spec (M:=M) e;refine ⟨leastM M S (8 - n),by rw[List.mem_range];omega,?_⟩;rw[if_neg]
   ·refine ih _ (by omega) (by simpa using hc) fun j hj=>?_;rw[cl_set hc (by omega) _ (by omega)]
    split
    ·rename_i hj';have:j=8 - n:=by omega
     subst this;rw[cl_canon (by omega),e];rfl
    ·exact h j (by omega)
   ·rintro ⟨hlt,hne⟩;apply hne;rw[h _ (by omega),cl_canon (by omega),hl.2.1,if_pos rfl]
    congr 1
    exact (least_eq hl.2.1 e).2 hl.2.2.1
theorem cl_canon_eq {M:Int→Int} {S:Nat} {s t:Int} (hs:(0≤s∧s≤8)∧S.testBit s.toNat=true) (ht:(0≤t∧t≤8)∧S.testBit t.toNat=true):cl (canon M S) s=cl (canon M S) t↔M s=M t:=by
 obtain ⟨i,rfl⟩:=Int.eq_ofNat_of_zero_le hs.1.1;obtain ⟨j,rfl⟩:=Int.eq_ofNat_of_zero_le ht.1.1;rw[Int.toNat_natCast] at hs ht;rw[cl_canon (by omega),cl_canon (by omega),hs.2,ht.2,if_pos rfl,if_pos rfl,Int.natCast_inj];exact least_eq hs.2 ht.2
theorem sat_case {a:Asn} (hv:a.valid=true) {S:Nat} (h0:S.testBit 0=true) (hS:∀ t∈termsL a,S.testBit t.toNat=true) {M:Int→Int} (h:Sat M a):canon M S∈cases a S:=by
 have hok:=Asn.valid_ok hv;have hF:∀ f∈a.facts,S.testBit f.a.toNat=true∧S.testBit f.b.toNat=true:=fun f hf=>⟨hS _ (termsL_facts hf).1,hS _ (termsL_facts hf).2⟩
 have hX:∀ x∈a.atoms,S.testBit x.a.toNat=true∧S.testBit x.b.toNat=true:=fun x hx=>by
  have:x.a∈termsL a∧x.b∈termsL a:=by
   simp only[termsL,List.mem_append,List.mem_flatMap];exact ⟨Or.inr ⟨x,hx,by simp[atomT]⟩,Or.inr ⟨x,hx,by simp[atomT]⟩⟩
  exact ⟨hS _ this.1,hS _ this.2⟩
 have hfill:∀ x∈a.atoms,inLast (canon M S) 8 x=fillM M x:=fun x hx=>by
  rw[inLast_fillM (hok.2 x hx)];unfold fillM
  congr 2
  rw[decide_eq_decide];exact cl_canon_eq ⟨(hok.2 x hx).1,(hX x hx).1⟩ ⟨(hok.2 x hx).2,(hX x hx).2⟩
 unfold cases;rw[List.mem_filter];refine ⟨canon_gen M S 9 zeros (by omega) rfl (fun j hj=>by omega),?_⟩;rw[full_poss hok.1 hok.2];unfold poss;rw[Bool.and_eq_true];constructor
 ·unfold possF;rw[List.all_eq_true];intro f hf
  have:f.fits (canon M S)=true:=by
   unfold Fct.fits;rw[beq_iff_eq,←h.facts f hf,decide_eq_decide];exact cl_canon_eq ⟨(hok.1 f hf).1,(hF f hf).1⟩ ⟨(hok.1 f hf).2,(hF f hf).2⟩
  rw[this];simp
 ·rw[possA_iff];refine ⟨fun x hx hi=>⟨fun e=>?_,by simp⟩,?_⟩
  ·rw[hfill x hx] at hi;refine h.nil x hx hi ((cl_canon_eq (S:=S) (t:=0) ⟨(hok.2 x hx).1,(hX x hx).1⟩ ⟨⟨by omega,by omega⟩,h0⟩).1 ?_);rw[e];have:=cl_canon (M:=M) (S:=S) (j:=0) (by omega);rw[h0,if_pos rfl] at this;have hl:=(least_spec (M:=M) h0).1;have h3:leastM M S 0=0:=by omega
   rw[h3] at this;exact this.symm
  ·rw[List.filter_congr hfill];have h3:=h.apart;unfold List.Nodup at h3 ⊢;rw[List.pairwise_map] at h3 ⊢;refine List.Pairwise.imp_of_mem ?_ h3;intro x y hx hy hxy e;have hx':=(List.mem_filter.1 hx).1;have hy':=(List.mem_filter.1 hy).1;exact hxy ((cl_canon_eq ⟨(hok.2 x hx').1,(hX x hx').1⟩ ⟨(hok.2 y hy').1,(hX y hy').1⟩).1 e)
def consB (a:Asn):Bool:=a.valid && !(cases a (caseS a 0)).isEmpty
/-! tidying -/
theorem swp_val {M:Int→Int} {x t:Int} (h:M x=M t) (s:Int):M (swp x t s)=M s:=by
 unfold swp;split
 ·rename_i e;rw[e,h]
 ·rfl
theorem Sat.subst {M:Int→Int} {a:Asn} (h:Sat M a) {x t:Int} (e:M x=M t):Sat M (substA x t a):=by
 have hfill:∀ z:Atm,fillM M (z.sub x t)=fillM M z:=fun z=>by
  unfold fillM Atm.sub;simp only[swp_val e]
 refine ⟨fun f hf=>?_,fun y hy hfi=>?_,?_⟩
 ·obtain ⟨g,hg,rfl⟩:=List.mem_map.1 hf;simp only[Fct.sub,swp_val e];exact h.facts g hg
 ·obtain ⟨z,hz,rfl⟩:=List.mem_map.1 hy;rw[hfill] at hfi;simp only[Atm.sub,swp_val e];exact h.nil z hz hfi
 ·have h3:=h.apart;simp only[substA,List.filter_map,List.map_map];rw[List.filter_congr (q:=fillM M) fun z _=>by simp[hfill]]
  have e2:((fun y:Atm=>M y.a)∘Atm.sub x t)=fun y:Atm=>M y.a:=by
   funext z;simp only[Function.comp,Atm.sub,swp_val e]
  rw[e2];exact h3
theorem Sat.less {M:Int→Int} {a:Asn} (h:Sat M a) {fs:List Fct} {xs:List Atm} (hf:∀ f∈fs,f∈a.facts) (hx:xs.Sublist a.atoms):Sat M ⟨fs,xs⟩:=
 ⟨fun f hm=>h.facts f (hf f hm),fun x hm=>h.nil x (hx.subset hm),h.apart.sublist ((hx.filter _).map _)⟩
theorem subOf_fact {K:Nat} {f:Fct} {x t:Int} (h:subOf K f=some (x,t)):f.eq=true:=by
 unfold subOf at h
 split at h
 ·rename_i hc;simp at hc;exact hc.1
 ·cases h
theorem Sat.subAll {M:Int→Int} {K:Nat}:∀ (n:Nat) (a:Asn),(left K a).length≤n→Sat M a→Sat M (subAll K a):=by
 intro n
 induction n with
 | zero=>
  intro a hn hv
  cases h:subStep K a.facts with
  | none=>rw[subAll_none h];exact hv
  | some p=>obtain ⟨x,t⟩:=p;have:=left_lt h;omega
 | succ n ih=>
  intro a hn hv
  cases h:subStep K a.facts with
  | none=>rw[subAll_none h];exact hv
  | some p=>
   obtain ⟨x,t⟩:=p;rw[subAll_some h];refine ih _ (by have:=left_lt h;omega) (hv.subst ?_);obtain ⟨f,hf,hs⟩:=List.exists_of_findSome?_eq_some h;have h1:=hv.facts f hf;rw[subOf_fact hs,decide_eq_true_eq] at h1;rcases (subOf_spec hs).2.2 with ⟨e1,e2⟩|⟨e1,e2⟩<;>rw[e1,e2]
   ·exact h1
   ·exact h1.symm
theorem nfold_mem (fs:List Fct):∀ (acc:List Fct) (g:Fct),g∈fs.foldl nfStep acc→g∈acc∨∃ f∈fs,g=nfF f:=by
 induction fs with
 | nil=>intro acc g h;exact Or.inl h
 | cons f fs ih=>
  intro acc g h;rw[List.foldl_cons] at h;rcases ih _ _ h with h|⟨f',hf',e⟩
  ·unfold nfStep at h
   split at h
   ·exact Or.inl h
   ·split at h
    ·exact Or.inl h
    ·rcases List.mem_append.1 h with h|h
     ·exact Or.inl h
     ·exact Or.inr ⟨f,List.mem_cons_self,List.mem_singleton.1 h⟩
  ·exact Or.inr ⟨f',List.mem_cons_of_mem _ hf',e⟩
theorem nfold_length (fs:List Fct):∀ (acc:List Fct),(fs.foldl nfStep acc).length≤acc.length+fs.length:=by
 induction fs with
 | nil=>intro acc;simp
 | cons f fs ih=>
  intro acc;rw[List.foldl_cons];have h1:=ih (nfStep acc f);have h2:=nfStep_length acc f;simp only[List.length_cons];omega
theorem Sat.normal {M:Int→Int} {a:Asn} (h:Sat M a):Sat M (normalF a):=by
 have hs:=h.less (fs:=[]) (xs:=a.atoms.filter nfA) (fun _ hf=>by cases hf) List.filter_sublist;refine ⟨fun g hg=>?_,hs.nil,hs.apart⟩;rcases nfold_mem _ _ _ hg with h1|⟨f,hf,rfl⟩
 ·cases h1
 ·have:=h.facts f hf;unfold nfF
  split
  ·simp only[];rw[←this,decide_eq_decide];exact eq_comm
  ·exact this
theorem normal_valid {a:Asn} (h:a.valid=true):(normalF a).valid=true:=by
 simp only[Asn.valid,factsValid,Bool.and_eq_true,decide_eq_true_eq,List.all_eq_true] at h ⊢;refine ⟨⟨?_,fun g hg=>?_⟩,?_,fun x hx=>?_⟩
 ·have:=nfold_length a.facts [];simp only[normalF,List.length_nil] at this ⊢;omega
 ·rcases nfold_mem _ _ _ hg with h1|⟨f,hf,rfl⟩
  ·cases h1
  ·have:=h.1.2 f hf;simp only[Fct.valid,Bool.and_eq_true] at this ⊢;unfold nfF
   split
   ·exact ⟨this.2,this.1⟩
   ·exact this
 ·have:=List.length_filter_le nfA a.atoms;simp only[normalF];omega
 ·exact h.2.2 x (List.mem_filter.1 hx).1
theorem keepF_valid {a:Asn} (p:Fct→Bool) (h:a.valid=true):(⟨a.facts.filter p,a.atoms⟩:Asn).valid=true:=by
 simp only[Asn.valid,factsValid,Bool.and_eq_true,decide_eq_true_eq,List.all_eq_true] at h ⊢;exact ⟨⟨Nat.le_trans (List.length_filter_le _ _) h.1.1,fun f hf=>h.1.2 f (List.mem_filter.1 hf).1⟩,h.2⟩
theorem tidy_valid {K:Nat} {a:Asn} (h:a.valid=true):(tidyF K a).valid=true:=normal_valid (keepF_valid _ (subAll_valid _ a (Nat.le_refl _) h))
end
section
open Go Go.RowKit
end
section
open Go Go.RowKit Go.Proofs
abbrev RowT:=List Fct ⊕ List Atm
def rlen:RowT→Nat | .inl fs=>fs.length | .inr xs=>xs.length
def RowO (w:World) (base:Nat) (v:Value):RowT→Prop | .inl fs=>FactsO w base v fs | .inr xs=>AtomsO w base v xs
def RowV (w:World) (lo hi:Nat) (A:Option Addr):RowT→Prop | .inl fs=>FactsV w lo hi A fs | .inr xs=>AtomsV w lo hi A xs
section
variable {w w':World} {base base' lo hi:Nat} {v:Value} {A:Option Addr}
theorem RowO.bz {r:RowT} (h:RowO w base v r) (hb:Below w.heap.size w w'):RowO w' base v r:=by cases r;exact FactsO.bz h hb;exact AtomsO.bz h hb
theorem RowO.lower {r:RowT} (h:RowO w base v r) (hb:base'≤base):RowO w base' v r:=by cases r;exact FactsO.lower h hb;exact AtomsO.lower h hb
theorem RowO.setT {r:RowT} (h:RowO w base v r) {g:Nat} {t:TypeId} {cs:Array Value} (hk:Blk w g t cs) (h1:t≠tF) (h2:t≠tA) (i:Nat) (u:Value):RowO (w.setCell ⟨g,i,none⟩ u) base v r:=by cases r;exact FactsO.setT h hk h1 i u;exact AtomsO.setT h hk h2 i u
theorem RowO.setb {r:RowT} (h:RowO w base v r) {p:Addr} (hp:p.block<base) (u:Value):RowO (w.setCell p u) base v r:=by cases r;exact FactsO.setb h hp u;exact AtomsO.setb h hp u
theorem RowO.lt {r:RowT} (h:RowO w base v r):∀ g,v.ownBlock=some g→base≤g∧g<w.heap.size:=by cases r;exact h.1.lt;exact h.1.lt
theorem RowO.mk {p:Nat→Prop} {r:RowT} (h:RowO w base v r) (hb:Mk p w w') (hp:∀ g,v.ownBlock=some g→¬p g):RowO w' base v r:=by cases r;exact FactsO.mk h hb hp;exact AtomsO.mk h hb hp
theorem RowO.ne {r:RowT} (h:RowO w base v r) {e:TypeId} {b s n:Nat} {v':Value} {xs:List Value} (h':w.ownsRow b e s v' n xs) (h1:e≠tF) (h2:e≠tA):∀ g,v'.ownBlock=some g→v.ownBlock≠some g:=by
 cases r
 ·exact own_ne h' h.1 h1
 ·exact own_ne h' h.1 h2
theorem RowO.grown {r:RowT} (h:RowO w base v r) {e:TypeId} {b s n:Nat} {v':Value} {xs:List Value} (h':w.ownsRow b e s v' n xs) (hg:w.grownBy w' v'.ownBlock) (h1:tF≠e) (h2:tA≠e):RowO w' base v r:=by
 cases r
 ·exact ⟨own_grownO h.1 h' hg h1,h.2⟩
 ·exact ⟨own_grownO h.1 h' hg h2,h.2⟩
theorem RowO.turn {T:TypeId} {B:Nat} {row:Option Nat} {r:RowT} (h:RowO w base v r) (hg:w.grownBy w' row) (hr:Turn T B w row) (h1:tF≠T) (h2:tA≠T):RowO w' base v r:=by
 cases r
 ·exact ⟨own_turn h.1 hg hr h1,h.2⟩
 ·exact ⟨own_turn h.1 hg hr h2,h.2⟩
theorem RowO.reads {r:RowT} (h:RowO w base v r):∃ B c,v=.slice B (rlen r) c∧RowV w base w.heap.size B r:=by
 cases r
 ·obtain ⟨B,c,e,h1⟩:=FactsO.reads h;exact ⟨B,c,e,h1⟩
 ·obtain ⟨B,c,e,h1⟩:=AtomsO.reads h;exact ⟨B,c,e,h1⟩
theorem RowV.bz {r:RowT} (h:RowV w lo hi A r) (hb:Below w.heap.size w w'):RowV w' lo hi A r:=by cases r;exact FactsV.bz h hb;exact AtomsV.bz h hb
end
def totR (rs:List RowT):Nat:=(rs.map fun r=>3 * rlen r).sum
theorem totR_cons (r:RowT) (rs:List RowT):totR (r :: rs)=3 * rlen r+totR rs:=by simp[totR]
theorem totR_append (xs ys:List RowT):totR (xs++ys)=totR xs+totR ys:=by simp[totR]
def rowsA (ss:List Asn):List RowT:=ss.flatMap fun s=>[.inl s.facts,.inr s.atoms]
theorem rowsA_len:∀ (ss:List Asn),(rowsA ss).length=ss.length * 2
 | []=>rfl
 | s :: ss=>by
  have:=rowsA_len ss;simp only[rowsA,List.flatMap_cons,List.length_append,List.length_cons,List.length_nil] at this ⊢;omega
theorem rowsA_get:∀ (ss:List Asn) (k:Nat) (hk:k<ss.length),(rowsA ss)[k*2]? = some (.inl ss[k].facts)∧(rowsA ss)[k*2+1]? = some (.inr ss[k].atoms)
 | s :: ss,0,_=>by simp[rowsA]
 | s :: ss,k+1,hk=>by
  have h1:=rowsA_get ss k (by simpa using hk);have e:rowsA (s :: ss)=[.inl s.facts,.inr s.atoms]++rowsA ss:=rfl;rw[e,List.getElem?_append_right (by simp;omega),List.getElem?_append_right (by simp;omega)];simp only[List.length_cons,List.length_nil,List.getElem_cons_succ];rw[show (k+1) * 2 - (0+1+1)=k * 2 by omega,show (k+1) * 2+1 - (0+1+1)=k * 2+1 by omega];exact h1
theorem rowsA_append (ss ts:List Asn):rowsA (ss++ts)=rowsA ss++rowsA ts:=by simp[rowsA]
def totA (ss:List Asn):Nat:=totR (rowsA ss)
theorem totA_cons (s:Asn) (ss:List Asn):totA (s :: ss)=3 * s.facts.length+3 * s.atoms.length+totA ss:=by
 have e:rowsA (s :: ss)=.inl s.facts :: .inr s.atoms :: rowsA ss:=rfl;unfold totA;rw[e,totR_cons,totR_cons];simp only[rlen];omega
theorem totA_append (xs ys:List Asn):totA (xs++ys)=totA xs+totA ys:=by unfold totA;rw[rowsA_append,totR_append]
theorem totA_le {n m:Nat}:∀ {ss:List Asn},(∀ s∈ss,s.facts.length≤n∧s.atoms.length≤m)→totA ss≤ss.length * (3 * n+3 * m)
 | [],_=>by simp[totA,totR,rowsA]
 | s :: ss,h=>by
  have h1:=totA_le (ss:=ss) fun x hx=>h x (List.mem_cons_of_mem _ hx);have h2:=h s (List.mem_cons_self ..);rw[totA_cons,List.length_cons,Nat.add_mul,Nat.one_mul];omega
def markAsS:Int→List Asn→List Asn
 | _,[]=>[]
 | k,s :: ss=>markAs k s :: markAsS (k+3 * s.facts.length+3 * s.atoms.length) ss
theorem markAsS_len:∀ (k:Int) (ss:List Asn),(markAsS k ss).length=ss.length
 | _,[]=>rfl
 | k,s :: ss=>by simp[markAsS,markAsS_len]
theorem totA_mark:∀ (k:Int) (ss:List Asn),totA (markAsS k ss)=totA ss
 | _,[]=>rfl
 | k,s :: ss=>by simp[markAsS,totA_cons,totA_mark,markAs,markF_length,markA_length]
structure AEls (w:World) (base:Nat) (vs:List Value) (ss:List Asn):Prop where
 len:vs.length=(rowsA ss).length
 at_:∀ (k:Nat) (h:k<vs.length) (h':k<(rowsA ss).length),RowO w base vs[k] (rowsA ss)[k]
 apart:∀ (i j:Nat) (hi:i<vs.length) (hj:j<vs.length),i<j→∀ g,vs[i].ownBlock=some g→vs[j].ownBlock≠some g
structure A2O (w:World) (base:Nat) (v:Value) (vs:List Value) (ss:List Asn):Prop where
 row:w.ownsRow base tAs 2 v ss.length vs
 lim:Lim ss.length
 els:AEls w base vs ss
theorem infoAs2:(Tryz.prog.info? tAs).map (fun i=>(i.zero,i.size,i.bytes))=some (some (.agg #[.slice none 0 0,.slice none 0 0]),2,48):=by kernel_rfl
section
variable {w w':World} {base base' mid:Nat} {v:Value} {vs vs2:List Value} {ss ss2:List Asn}
theorem AEls.bz (h:AEls w base vs ss) (hb:Below w.heap.size w w'):AEls w' base vs ss:=⟨h.len,fun k h1 h2=>(h.at_ k h1 h2).bz hb,h.apart⟩
theorem AEls.lower (h:AEls w base vs ss) (hb:base'≤base):AEls w base' vs ss:=⟨h.len,fun k h1 h2=>(h.at_ k h1 h2).lower hb,h.apart⟩
theorem AEls.setb (h:AEls w base vs ss) {p:Addr} (hp:p.block<base) (u:Value):AEls (w.setCell p u) base vs ss:=⟨h.len,fun k a b=>(h.at_ k a b).setb hp u,h.apart⟩
theorem AEls.setT (h:AEls w base vs ss) {g:Nat} {t:TypeId} {cs:Array Value} (hk:Blk w g t cs) (h1:t≠tF) (h2:t≠tA) (i:Nat) (u:Value):AEls (w.setCell ⟨g,i,none⟩ u) base vs ss:=⟨h.len,fun k a b=>(h.at_ k a b).setT hk h1 h2 i u,h.apart⟩
theorem AEls.grown (h:AEls w base vs ss) {e:TypeId} {b s n:Nat} {v':Value} {xs:List Value} (h':w.ownsRow b e s v' n xs) (hg:w.grownBy w' v'.ownBlock) (h1:tF≠e) (h2:tA≠e):AEls w' base vs ss:=⟨h.len,fun k a b=>(h.at_ k a b).grown h' hg h1 h2,h.apart⟩
theorem AEls.turn {T:TypeId} {B:Nat} {row:Option Nat} (h:AEls w base vs ss) (hg:w.grownBy w' row) (hr:Turn T B w row) (h1:tF≠T) (h2:tA≠T):AEls w' base vs ss:=⟨h.len,fun k a b=>(h.at_ k a b).turn hg hr h1 h2,h.apart⟩
theorem AEls.nil (w:World) (base:Nat):AEls w base [] []:=⟨rfl,fun k h=>absurd h (by simp),fun i j h=>absurd h (by simp)⟩
theorem AEls.und (h:AEls w base vs ss):∀ (k:Nat) (hk:k<vs.length),Und vs[k] w.heap.size:=fun k hk g hg=>((h.at_ k hk (by rw[←h.len];exact hk)).lt g hg).2
theorem AEls.one {s1 s2:Value} {s:Asn} (h:AsnO w base (.agg #[s1,s2]) s):AEls w base [s1,s2] [s]:=by
 obtain ⟨_,_,e,n1,n2⟩:=h;injection e with e;injection e with e;injection e with e1 e2;injection e2 with e2 e3;subst e1 e2;refine ⟨rfl,fun k h1 h2=>?_,fun i j hi hj hij g hgi hgj=>?_⟩
 ·have hk:k=0∨k=1:=by simp at h1;omega
  rcases hk with rfl|rfl
  ·exact n1
  ·exact n2
 ·have:i=0∧j=1:=by simp at hj;omega
  obtain ⟨rfl,rfl⟩:=this;exact own_ne n1.1 n2.1 (by decide) g hgi hgj
theorem AEls.cat (h:AEls w base vs ss) (h2:AEls w mid vs2 ss2) (hb:base≤mid) (hu:∀ (k:Nat) (hk:k<vs.length),Und vs[k] mid):AEls w base (vs++vs2) (ss++ss2):=by
 have er:=rowsA_append ss ss2;have hlen:=h.len;refine ⟨by rw[er,List.length_append,List.length_append,h.len,h2.len],fun k k1 k2=>?_,fun i j hi hj hij g hgi hgj=>?_⟩
 ·by_cases e:k<vs.length
  ·have e':k<(rowsA ss).length:=by omega
   simp only[er,List.getElem_append,e,e',dite_true];exact h.at_ k e e'
  ·have e':¬k<(rowsA ss).length:=by omega
   simp only[er,List.getElem_append,e,e',dite_false];have l1:k - vs.length<vs2.length:=by simp at k1;omega
   have l2:k - (rowsA ss).length<(rowsA ss2).length:=by rw[er] at k2;simp at k2;omega
   have:=h2.at_ (k - vs.length) l1 (by rw[←h2.len];exact l1);have e3:k - vs.length=k - (rowsA ss).length:=by omega
   simp only[e3] at this ⊢;exact this.lower hb
 ·by_cases ej:j<vs.length
  ·have ei:i<vs.length:=by omega
   simp only[List.getElem_append,ei,ej,dite_true] at hgi hgj;exact h.apart i j ei ej hij g hgi hgj
  ·have lj:j - vs.length<vs2.length:=by simp at hj;omega
   by_cases ei:i<vs.length
   ·simp only[List.getElem_append,ei,ej,dite_true,dite_false] at hgi hgj;have e1:=hu i ei g hgi;have e2:=((h2.at_ (j - vs.length) lj (by rw[←h2.len];exact lj)).lt g hgj).1;omega
   ·simp only[List.getElem_append,ei,ej,dite_false] at hgi hgj;exact h2.apart (i - vs.length) (j - vs.length) (by omega) lj (by omega) g hgi hgj
theorem A2O.bz (h:A2O w base v vs ss) (hb:Below w.heap.size w w'):A2O w' base v vs ss:=⟨own_below h.row hb,h.lim,h.els.bz hb⟩
theorem A2O.lower (h:A2O w base v vs ss) (hb:base'≤base):A2O w base' v vs ss:=⟨own_lower h.row hb,h.lim,h.els.lower hb⟩
theorem A2O.setb (h:A2O w base v vs ss) {p:Addr} (hp:p.block<base) (u:Value):A2O (w.setCell p u) base v vs ss:=⟨ownsRow_setCell_below h.row hp u,h.lim,h.els.setb hp u⟩
theorem A2O.setT (h:A2O w base v vs ss) {g:Nat} {t:TypeId} {cs:Array Value} (hk:Blk w g t cs) (h0:t≠tAs) (h1:t≠tF) (h2:t≠tA) (i:Nat) (u:Value):A2O (w.setCell ⟨g,i,none⟩ u) base v vs ss:=
 ⟨own_setT h.row hk h0 i u,h.lim,h.els.setT hk h1 h2 i u⟩
theorem A2O.nil (w:World) (base:Nat):A2O w base (.slice none 0 0) [] []:=⟨World.ownsRow_nil _ _ _ _,by simp[Lim],AEls.nil _ _⟩
theorem A2O.empty (w:World) {g:Nat} (hg:g=w.heap.size):A2O (w.alloc (.cells #[] tAs)) g (.slice (some ⟨g,0,none⟩) 0 0) [] []:=by
 subst hg;exact ⟨own_empty w _ _,by simp[Lim],AEls.nil _ _⟩
theorem A2O.ofBlk {g:Nat} (h:Blk w g tAs #[]) (hb:base≤g):A2O w base (.slice (some ⟨g,0,none⟩) 0 0) [] []:=⟨own_ofBlk h hb,by simp[Lim],AEls.nil _ _⟩
theorem A2O.one {g:Nat} {s1 s2:Value} {s:Asn} (hk:Blk w g tAs #[s1,s2]) (hg:base≤g) (h:AsnO w base (.agg #[s1,s2]) s):A2O w base (.slice (some ⟨g,0,none⟩) 1 1) [s1,s2] [s]:=
 ⟨own_of_blk hk hg rfl (fun j hj=>by
  match j,hj with
  | 0,_=>rfl
  | 1,_=>rfl) (Nat.le_refl _) (by decide) rfl,by simp[Lim],AEls.one h⟩
theorem A2O.form (h:A2O w base v vs ss):∃ A c,v=.slice A ss.length c:=by
 obtain ⟨A,c,e,-⟩:=own_reads h.row h.lim;exact ⟨A,c,e⟩
theorem A2O.und (h:A2O w base v vs ss):Und v w.heap.size:=fun g hg=>(h.row.lt g hg).2
theorem A2O.cat {w1:World} {v' v2:Value} (h:A2O w base v vs ss) (hb:Below w.heap.size w w1) (h2:A2O w1 mid v2 vs2 ss2) (hbm:base≤mid) (hm:w.heap.size≤mid) (hl:ss.length+ss2.length≤1049600)
  (hg:w1.grownBy w' v.ownBlock) (hr:w'.ownsRow base tAs 2 v' (ss.length+ss2.length) (vs++vs2)):A2O w' base v' (vs++vs2) (ss++ss2):=by
 have hrow:=own_below h.row hb;refine ⟨by rw[List.length_append];exact hr,by rw[List.length_append];exact hl,?_⟩;exact ((h.els.bz hb).grown hrow hg (by decide) (by decide)).cat (h2.els.grown hrow hg (by decide) (by decide)) hbm fun k hk=>(h.els.und k hk).mono hm
theorem RowO.one {w:World} {b:Nat} {v:Value} {r:RowT} (h:RowO w b v r):v.oneCell'=true:=by obtain ⟨A,c,rfl,-⟩:=h.reads;rfl
theorem AEls.one_cell (h:AEls w base vs ss):∀ u∈vs,u.oneCell'=true:=by
 intro u hu;obtain ⟨k,hk,rfl⟩:=List.getElem_of_mem hu;exact (h.at_ k hk (by rw[←h.len];exact hk)).one
def AsnsV (w:World) (lo hi:Nat) (A:Option Addr) (ss:List Asn):Prop:=
 ∃ vs:List Value,Rd w lo hi 2 A ss.length vs∧∀ (k:Nat) (h:k<vs.length) (h':k<(rowsA ss).length),∃ B c,vs[k]=.slice B (rlen (rowsA ss)[k]) c∧RowV w lo hi B (rowsA ss)[k]
theorem AsnsV.bz {lo hi:Nat} {A:Option Addr} (h:AsnsV w lo hi A ss) (hb:Below w.heap.size w w'):AsnsV w' lo hi A ss:=by
 obtain ⟨vs,h1,h2⟩:=h;exact ⟨vs,h1.bz hb,fun k a b=>by obtain ⟨B,c,e,h3⟩:=h2 k a b;exact ⟨B,c,e,h3.bz hb⟩⟩
theorem AsnsV.at {lo hi:Nat} {A:Option Addr} (h:AsnsV w lo hi A ss) {k:Nat} (hk:k<ss.length):∃ b o B c D d,A=some ⟨b,o,none⟩∧b<w.heap.size∧w.cell? ⟨b,o+k*2,none⟩=some (.slice B ss[k].facts.length c)∧w.cell? ⟨b,o+k*2+1,none⟩=some (.slice D ss[k].atoms.length d)∧FactsV w lo hi B ss[k].facts∧AtomsV w lo hi D ss[k].atoms:=by
 obtain ⟨vs,h1,h2⟩:=h;have hl:vs.length=ss.length * 2:=h1.raw.1;have hr:=rowsA_len ss;obtain ⟨b,o,e,-,-,hc⟩:=h1.raw.form (by omega);obtain ⟨g1,g2⟩:=rowsA_get ss k hk;obtain ⟨B,c,e1,v1⟩:=h2 (k*2) (by omega) (by omega);obtain ⟨D,d,e2,v2⟩:=h2 (k*2+1) (by omega) (by omega);have x1:(rowsA ss)[k*2]'(by omega)=.inl ss[k].facts:=by rw[List.getElem?_eq_getElem (by omega)] at g1;exact Option.some.inj g1
 have x2:(rowsA ss)[k*2+1]'(by omega)=.inr ss[k].atoms:=by rw[List.getElem?_eq_getElem (by omega)] at g2;exact Option.some.inj g2
 rw[x1] at e1 v1;rw[x2] at e2 v2;have c1:=hc (k*2) _ (List.getElem?_eq_getElem (by omega));have c2:=hc (k*2+1) _ (List.getElem?_eq_getElem (by omega));rw[e1] at c1;rw[e2] at c2;exact ⟨b,o,B,c,D,d,e,block_lt_of_cell c1,c1,c2,v1,v2⟩
theorem A2O.reads {A:Option Addr} {n c:Nat} (h:A2O w base (.slice A n c) vs ss):n=ss.length∧AsnsV w base w.heap.size A ss:=by
 obtain ⟨A',c',e,h1⟩:=own_reads h.row h.lim;injection e with e1 e2 e3;subst e1;refine ⟨e2,vs,h1,fun k a b=>?_⟩;obtain ⟨B,d,e,h3⟩:=(h.els.at_ k a b).reads;exact ⟨B,d,e,h3⟩
end
def AsnsI (w:World) (lo hi:Nat) (v:Value) (ss:List Asn):Prop:=∃ vs,A2O w lo v vs ss∧Und v hi∧(∀ (k:Nat) (h:k<vs.length),Und vs[k] hi)∧totA ss≤16777216
def AsnsR (w:World) (base:Nat) (v:Value) (ss:List Asn):Prop:=(∃ vs,A2O w base v vs ss)∧totA ss≤16777216
section
variable {w w':World} {lo hi a b:Nat} {v:Value} {ss:List Asn}
theorem AsnsR.I {base:Nat} (h:AsnsR w base v ss):AsnsI w base w.heap.size v ss:=by
 obtain ⟨⟨vs,h⟩,hb⟩:=h;exact ⟨vs,h,h.und,h.els.und,hb⟩
theorem AsnsR.bz {base:Nat} (h:AsnsR w base v ss) (hb:Below w.heap.size w w'):AsnsR w' base v ss:=by obtain ⟨⟨vs,h1⟩,h2⟩:=h;exact ⟨⟨vs,h1.bz hb⟩,h2⟩
theorem AsnsR.lower {base base':Nat} (h:AsnsR w base v ss) (hb:base'≤base):AsnsR w base' v ss:=by obtain ⟨⟨vs,h1⟩,h2⟩:=h;exact ⟨⟨vs,h1.lower hb⟩,h2⟩
theorem AsnsR.setb {base:Nat} (h:AsnsR w base v ss) {p:Addr} (hp:p.block<base) (u:Value):AsnsR (w.setCell p u) base v ss:=by obtain ⟨⟨vs,h1⟩,h2⟩:=h;exact ⟨⟨vs,h1.setb hp u⟩,h2⟩
theorem AsnsR.form {base:Nat} (h:AsnsR w base v ss):∃ A c,v=.slice A ss.length c:=by obtain ⟨⟨vs,h1⟩,h2⟩:=h;exact h1.form
theorem AsnsR.nil (w:World) (base:Nat):AsnsR w base (.slice none 0 0) []:=⟨⟨_,A2O.nil _ _⟩,by simp[totA,totR,rowsA]⟩
theorem AsnsI.bz (h:AsnsI w lo hi v ss) (hb:Below w.heap.size w w'):AsnsI w' lo hi v ss:=by
 obtain ⟨vs,h1,h2⟩:=h;exact ⟨vs,h1.bz hb,h2⟩
theorem AsnsI.mk (h:AsnsI w lo hi v ss) (hb:Mk (fun g=>a≤g∧g<b) w w') (hd:hi≤a∨b≤lo):AsnsI w' lo hi v ss:=by
 obtain ⟨vs,h1,h2,h3,h4⟩:=h;refine ⟨vs,⟨own_mk h1.row hb fun g hg hp=>by have:=und_range h1.row h2 g hg;omega,h1.lim,h1.els.len,fun k x y=>?_,h1.els.apart⟩,h2,h3,h4⟩;exact (h1.els.at_ k x y).mk hb fun g hg hp=>by have:=(h1.els.at_ k x y).lt g hg;have:=h3 k x g hg;omega
theorem AsnsI.form (h:AsnsI w lo hi v ss):∃ A c,v=.slice A ss.length c:=by obtain ⟨vs,h1,-⟩:=h;exact h1.form
theorem AsnsI.reads {A:Option Addr} {n c:Nat} (h:AsnsI w lo hi (.slice A n c) ss):AsnsV w lo w.heap.size A ss:=by obtain ⟨vs,h1,-⟩:=h;exact h1.reads.2
theorem AsnsI.len (h:AsnsI w lo hi v ss):ss.length≤1049600∧totA ss≤16777216:=by obtain ⟨vs,h1,-,-,h4⟩:=h;exact ⟨h1.lim,h4⟩
end
theorem t_asns {lo hi lo' hi':Nat} (A A':Option Addr) (c c':Nat) (x:List Asn) (w:World) (h:AsnsV w lo hi A x) (h':AsnsV w lo' hi' A' x):Calls Tryz.prog 18 #[.slice A x.length c,.slice A' x.length c'] w fun e w'=>e=.returned (.bool true)∧Below w.heap.size w w':=by
 have hl:x.length≤1049600:=by obtain ⟨vs,h1,-⟩:=h;exact h1.lim
 have H:=ax h;have H':=ax h';clear h h';(go_enter Tryz.func18,Tryz.ntmps18);(go_wp2_with fail)
 go_loopw [5] (fun i wr=>∃ k:Nat,k≤x.length∧i=.int .i64 k∧Below w.heap.size w wr) (fun i _=>x.length - (intOf i).toNat)
 case atStart=>exact ⟨0,Nat.zero_le _,rfl,bel⟩
 case round=>
  obtain ⟨k,hk,rfl,hB⟩:=hrel;by_cases hlt:k<x.length
  ·obtain ⟨b,o,R,d,R2,d2,rfl,lb,g0,g1,v0,v1⟩:=(H.o.bz hB).at hlt;obtain ⟨b',o',R',d',R2',d2',rfl,lb',g0',g1',v0',v1'⟩:=(H'.o.bz hB).at hlt;have hkx:(k:Int)<(x.length:Int):=by omega
   have S1:aJ (AsnV wr lo hi (.agg #[.slice R x[k].facts.length d,.slice R2 x[k].atoms.length d2]) x[k]):=ax ⟨_,_,_,_,rfl,v0,v1⟩;have S2:aJ (AsnV wr lo' hi' (.agg #[.slice R' x[k].facts.length d',.slice R2' x[k].atoms.length d2']) x[k]):=ax ⟨_,_,_,_,rfl,v0',v1'⟩;clear v0 v1 v0' v1';obtain ⟨s,hs⟩:∃ s,s=x[k]:=⟨_,rfl⟩;rw[←hs] at g0 g1 g0' g1' S1 S2;clear hs;(go_wp2_with fail);refine wp_region_noPanic ?_;refine wp_region_held_drew (S:=(fun w'=>(w'.cell? ⟨b,o+k*2,none⟩=some (.slice R s.facts.length d)∧w'.cell? ⟨b,o+k*2+1,none⟩=some (.slice R2 s.atoms.length d2))∧w'.cell? ⟨b',o'+k*2,none⟩=some (.slice R' s.facts.length d')∧w'.cell? ⟨b',o'+k*2+1,none⟩=some (.slice R2' s.atoms.length d2'))) (by kernel_rfl) (⟨⟨g0,g1⟩,g0',g1'⟩) (fun aH=>?_);refine tk2 0 rfl aH (h:=tk2 1 rfl aH (h:=tk2 2 rfl aH (h:=?_)));(try simp only[zz]);refine tk2 3 rfl aH (h:=tk2 4 rfl aH (h:=tk2 5 rfl aH (h:=?_)));(try simp only[zz]);refine tk2 6 rfl aH (h:=tk2 7 rfl aH (h:=?_));refine rdc 8 rfl fun K hK=>?_;(try simp only[zz]);(go_simp;refine (t_asn _ _ s _ (S1.o.bz bel) (S2.o.bz bel)).mono ?_;rintro e w1 ⟨rfl,hB1⟩;have hS:=bgo (w:=wr) bel hB1);refine hK.out _ _ (⟨⟨(hS.cell (p:=⟨b,o+k*2,none⟩) lb).trans g0,(hS.cell (p:=⟨b,o+k*2+1,none⟩) lb).trans g1⟩,(hS.cell (p:=⟨b',o'+k*2,none⟩) lb').trans g0',(hS.cell (p:=⟨b',o'+k*2+1,none⟩) lb').trans g1'⟩) ?_;clear aH hK K;intro aH;(try simp only[zz]);refine tk2 9 rfl aH (h:=?_);(try simp only[zz]);refine dn1 ?_;have hB2:=bgo hB hS;(go_wp2_with fail)
   go_round
   case rel=>exact ⟨k+1,by omega,by go_num,bel⟩
   case measure=>simp[intOf];omega
  ·obtain rfl:k=x.length:=by omega
   (go_wp2_with fail);go_ret;exact ⟨rfl,hB⟩
theorem A2O.at {w:World} {base n c k:Nat} {A:Option Addr} {vs:List Value} {ss:List Asn} (h:A2O w base (.slice A n c) vs ss) (hk:k<vs.length) (hr:k<(rowsA ss).length):∃ b o B d,A=some ⟨b,o,none⟩∧b<w.heap.size∧w.cell? ⟨b,o+k,none⟩=some (.slice B (rlen (rowsA ss)[k]) d)∧vs[k]=.slice B (rlen (rowsA ss)[k]) d:=by
 obtain ⟨A',c',e,h1⟩:=own_reads h.row h.lim;injection e with e1 e2 e3;subst e1;have hl:vs.length=ss.length * 2:=h1.raw.1;obtain ⟨b,o,e,-,-,hc⟩:=h1.raw.form (by omega);obtain ⟨B,d,e2,-⟩:=(h.els.at_ k hk hr).reads;have c1:=hc k _ (List.getElem?_eq_getElem hk);rw[e2] at c1;exact ⟨b,o,B,d,e,block_lt_of_cell c1,c1,e2⟩
theorem A2O.update {w w':World} {base j:Nat} {v:Value} {vs:List Value} {ss ss':List Asn} (h:A2O w base v vs ss) (hj:j<vs.length) (hr:j<(rowsA ss).length) {ys:RowT} (e:rowsA ss'=(rowsA ss).set j ys) (hl:ss'.length=ss.length) (hy:RowO w' base vs[j] ys) (hM:Mk (fun g=>vs[j].ownBlock=some g) w w'):A2O w' base v vs ss':=by
 have hlen:=h.els.len;have hrow:w'.ownsRow base tAs 2 v ss.length vs:=own_mk h.row hM fun g hg hp=>(h.els.at_ j hj hr).ne h.row (by decide) (by decide) g hg hp;refine ⟨by rw[hl];exact hrow,by rw[hl];exact h.lim,by rw[e,List.length_set];exact h.els.len,fun k h1 h2=>?_,h.els.apart⟩;have h2':k<(rowsA ss).length:=by omega
 have e2:(rowsA ss')[k]=((rowsA ss).set j ys)[k]'(by simpa using h2'):=by simp only[e]
 rw[e2];by_cases ej:j=k
 ·subst ej;simpa using hy
 ·rw[List.getElem_set_ne ej];refine (h.els.at_ k h1 h2').mk hM fun g hg hp=>?_;rcases Nat.lt_or_gt_of_ne ej with hlt|hlt
  ·exact h.els.apart j k hj h1 hlt g hp hg
  ·exact h.els.apart k j h1 hj hlt g hg hp
theorem markAsS_append:∀ (k:Int) (xs ys:List Asn),markAsS k (xs++ys)=markAsS k xs++markAsS (k+totA xs) ys
 | k,[],ys=>by simp[markAsS,rowsA,totA,totR]
 | k,x :: xs,ys=>by
  simp only[List.cons_append,markAsS,markAsS_append,totA_cons]
  congr 3
  omega
def asTo (k:Int) (x:List Asn) (n:Nat):List Asn:=markAsS k (x.take n)++x.drop n
def asHalf (k:Int) (x:List Asn) (n:Nat) (s:Asn):List Asn:=markAsS k (x.take n)++(⟨markF (k+totA (x.take n)) s.facts.length,s.atoms⟩ :: x.drop (n+1))
theorem asTo_len (k:Int) (x:List Asn) {n:Nat} (hn:n≤x.length):(asTo k x n).length=x.length:=by simp[asTo,markAsS_len];omega
theorem asHalf_len (k:Int) (x:List Asn) {n:Nat} (hn:n<x.length) (s:Asn):(asHalf k x n s).length=x.length:=by simp[asHalf,markAsS_len];omega
theorem rowA_at {L R:List Asn} {n:Nat} (hL:L.length=n) (s:Asn) (fs:List Fct) (xs:List Atm):(rowsA (L++s :: R)).set (n*2) (.inl fs)=rowsA (L++⟨fs,s.atoms⟩ :: R)∧(rowsA (L++s :: R)).set (n*2+1) (.inr xs)=rowsA (L++⟨s.facts,xs⟩ :: R):=by
 have hl:=rowsA_len L;rw[hL] at hl;have e (t:Asn):rowsA (L++t :: R)=rowsA L++(.inl t.facts :: .inr t.atoms :: rowsA R):=by rw[rowsA_append];rfl
 rw[e,e,e];constructor
 ·rw[set_mid _ _ _ _ hl];rfl
 ·rw[List.set_append,if_neg (by omega),hl,Nat.add_sub_cancel_left];rfl
theorem asTo_get (k:Int) (x:List Asn) {n:Nat} (hn:n<x.length):asTo k x n=markAsS k (x.take n)++(x[n] :: x.drop (n+1)):=by
 unfold asTo;rw[List.drop_eq_getElem_cons hn]
theorem take_markA_len (k:Int) (x:List Asn) {n:Nat} (hn:n<x.length):(markAsS k (x.take n)).length=n:=by rw[markAsS_len,List.length_take];omega
theorem asHalf_rows (k:Int) (x:List Asn) {n:Nat} (hn:n<x.length):rowsA (asHalf k x n x[n])=(rowsA (asTo k x n)).set (n*2) (.inl (markF (k+totA (x.take n)) x[n].facts.length)):=by
 rw[asTo_get k x hn,(rowA_at (take_markA_len k x hn) _ _ []).1];rfl
theorem asTo_succ (k:Int) (x:List Asn) {n:Nat} (hn:n<x.length):rowsA (asTo k x (n+1))=(rowsA (asHalf k x n x[n])).set (n*2+1) (.inr (markA (k+totA (x.take n)+3 * x[n].facts.length) x[n].atoms.length)):=by
 unfold asHalf asTo;rw[(rowA_at (take_markA_len k x hn) _ [] _).2,List.take_succ_eq_append_getElem hn,markAsS_append,List.append_assoc];rfl
theorem asTo_rows (k:Int) (x:List Asn) {n:Nat} (hn:n<x.length):(rowsA (asTo k x n))[n*2]? = some (.inl x[n].facts)∧(rowsA (asHalf k x n x[n]))[n*2+1]? = some (.inr x[n].atoms):=by
 have hl:=rowsA_len (markAsS k (x.take n));rw[take_markA_len k x hn] at hl;rw[asTo_get k x hn];unfold asHalf;have e (t:Asn):rowsA (markAsS k (x.take n)++t :: x.drop (n+1))=rowsA (markAsS k (x.take n))++(.inl t.facts :: .inr t.atoms :: rowsA (x.drop (n+1))):=by rw[rowsA_append];rfl
 rw[e,e,List.getElem?_append_right (by omega),List.getElem?_append_right (by omega),hl];simp
theorem totA_rows (x:List Asn) {n:Nat} (hn:n<x.length):totA (x.take (n+1))=totA (x.take n)+3 * x[n].facts.length+3 * x[n].atoms.length:=by
 rw[List.take_succ_eq_append_getElem hn,totA_append,totA_cons];simp[totA,totR,rowsA];omega
theorem totA_rows_le (x:List Asn) (n:Nat):totA (x.take n)≤totA x:=by
 conv=>rhs;rw[←List.take_append_drop n x,totA_append]
 omega
theorem get_ofA {α:Type} {l:List α} {n:Nat} {u:α} (h:l[n]? = some u) (hn:n<l.length):l[n]=u:=by rw[List.getElem?_eq_getElem hn] at h;exact Option.some.inj h
theorem m_asns (v:Value) (x:List Asn) (k:Int) (lo hi:Nat) (w:World) (h:AsnsI w lo hi v x) (h0:0≤k) (h1:k≤274877906944):Calls Tryz.prog 25 #[v,.int .i64 k] w fun e w'=>e=.returned (.int .i64 (k+totA x))∧AsnsI w' lo hi v (markAsS k x)∧Mk (fun g=>lo≤g∧g<hi) w w':=by
 obtain ⟨vs,hS,hv,hvs,ht⟩:=h;have hl:x.length≤1049600:=hS.lim;have hlen:vs.length=x.length * 2:=by rw[hS.els.len,rowsA_len]
 obtain ⟨A,c,rfl⟩:=hS.form;have HS:=ax hS;have HVS:=ax hvs;have HV:=ax hv;have HT:=ax (totA_rows_le x);clear hS hvs hv;(go_enter Tryz.func25,Tryz.ntmps25);(go_wp2_with fail)
 go_loopw [1,5] (fun q i wr=>∃ n:Nat,n≤x.length∧i=.int .i64 n∧q=.int .i64 (k+totA (x.take n))∧aJ (A2O wr lo (.slice A x.length c) vs (asTo k x n))∧aJ (Mk (fun g=>lo≤g∧g<hi) w wr)) (fun _ i _=>x.length - (intOf i).toNat)
 case atStart=>exact ⟨0,Nat.zero_le _,rfl,by simp[totA,totR,rowsA],by show A2O _ _ _ _ _;simpa [asTo,markAsS] using HS.o,Mk.refl _ _⟩
 case round=>
  obtain ⟨n,hn,rfl,rfl,HS2,HM⟩:=hrel;by_cases hlt:n<x.length
  ·have hr1:(rowsA (asTo k x n)).length=x.length * 2:=by rw[rowsA_len,asTo_len k x hn]
   have hr2:(rowsA (asHalf k x n x[n])).length=x.length * 2:=by rw[rowsA_len,asHalf_len k x hlt]
   have hge1:(rowsA (asTo k x n))[n*2]'(by omega)=.inl x[n].facts:=get_ofA (asTo_rows k x hlt).1 _;have hge2:=(asTo_rows k x hlt).2;obtain ⟨b,o,R,d,rfl,lb,g0,hvn⟩:=HS2.o.at (k:=n*2) (by omega) (by omega);have hat:=HS2.o.els.at_ (n*2) (by omega) (by omega);rw[hge1] at g0 hvn hat;rw[hvn] at hat;have hun:=HVS.o (n*2) (by omega);rw[hvn] at hun;simp only[rlen] at g0 hvn hat hun;replace hat:FactsO _ _ _ _:=hat;have HVN:=ax hvn;have HR1:=ax (asHalf_rows k x hlt);have HR2:=ax (asTo_succ k x hlt);have HTN:=ax (totA_rows x hlt);have htn:=HT.o n;have htn1:=HT.o (n+1);rw[HTN.o] at htn1;have HL1:=ax (asHalf_len k x hlt x[n]);have HL2:=ax (asTo_len k x (n:=n+1) hlt);have HL0:=ax (asTo_len k x hn);obtain ⟨X1,hX1⟩:∃ X,X=asHalf k x n x[n]:=⟨_,rfl⟩;obtain ⟨s,hs⟩:∃ s,s=x[n]:=⟨_,rfl⟩;obtain ⟨T,hT⟩:∃ T,T=totA (x.take n):=⟨_,rfl⟩;rw[←hX1] at HR1 HR2 HL1 hr2 hge2;rw[←hs] at g0 hat HR1 HR2 HTN htn1 HVN hge2 hun;rw[←hT] at HR1 HR2 HTN htn htn1 ⊢;have HT2:=ax hT;have HG2:aJ (∀ h,(rowsA X1)[n*2+1]'h=.inr s.atoms):=ax fun h=>get_ofA hge2 h;clear hX1 hs hT hge1 hge2 hvn;have hnx:(n:Int)<(x.length:Int):=by omega
   have hkn:k+(T:Int)≤549755813888:=by omega
   have hk0:0≤k+(T:Int):=by omega
   (go_wp2_with fail);refine (c_markFactS _ s.facts (k+(T:Int)) lo _ hat hk0 (by omega)).mono ?_;rintro e w1 ⟨rfl,h2,h3⟩
   have HS3:aJ (A2O w1 lo (.slice (some ⟨b,o,none⟩) x.length c) vs X1):=
    HS2.o.update (j:=n*2) (by omega) (by omega) HR1.o (by rw[HL1.o,HL0.o]) (by rw[HVN.o];exact h2) (by rw[HVN.o];exact h3)
   have HM3:=ax (HM.o.trans (h3.mono fun g hg=>und_range hat.1 hun g hg));clear h2 h3 hat hun;obtain ⟨b',o',R',d',e',lb',g0',hvn'⟩:=HS3.o.at (k:=n*2+1) (by omega) (by omega);simp only[Option.some.injEq,Addr.mk.injEq,and_true] at e';obtain ⟨rfl,rfl⟩:=e';have hat':=HS3.o.els.at_ (n*2+1) (by omega) (by omega);rw[HG2.o] at g0' hvn' hat';rw[hvn'] at hat';have hun':=HVS.o (n*2+1) (by omega);rw[hvn'] at hun';simp only[rlen] at g0' hvn' hat' hun';replace hat':AtomsO _ _ _ _:=hat';have HVN':=ax hvn';clear hvn' g0;rw[show o+(n*2+1)=o+n*2+1 from rfl] at g0';(go_wp2_with fail);refine (c_markAtomS _ s.atoms (k+(T:Int)+3 * s.facts.length) lo _ hat' (by omega) (by omega)).mono ?_;rintro e w2 ⟨rfl,h4,h5⟩
   have HS4:aJ (A2O w2 lo (.slice (some ⟨b,o,none⟩) x.length c) vs (asTo k x (n+1))):=
    HS3.o.update (j:=n*2+1) (by omega) (by omega) HR2.o (by rw[HL1.o,HL2.o]) (by rw[HVN'.o];exact h4) (by rw[HVN'.o];exact h5)
   have HM4:=ax (HM3.o.trans (h5.mono fun g hg=>und_range hat'.1 hun' g hg));clear h4 h5 hat' hun';(go_wp2_with fail)
   go_round
   case rel=>exact ⟨n+1,by omega,by go_num,by rw[HTN.o];congr 1;omega,HS4,HM4⟩
   case measure=>simp[intOf];omega
  ·obtain rfl:n=x.length:=by omega
   (go_wp2_with fail);go_ret;rw[List.take_length];refine ⟨rfl,⟨vs,?_,HV.o,HVS.o,by rw[totA_mark];exact ht⟩,HM.o⟩;have:=HS2.o;rw[asTo,List.take_length,List.drop_length,List.append_nil] at this;have hf:(markAsS k x).length=x.length:=markAsS_len _ _;exact this
theorem markAsS_get (k:Int) (x:List Asn) (n:Nat) (hn:n<x.length) (h:n<(markAsS k x).length):(markAsS k x)[n]=markAs (k+totA (x.take n)) x[n]:=by
 have e:(markAsS k x)[n]? = some (markAs (k+totA (x.take n)) x[n]):=by
  conv=>lhs;rw[←List.take_append_drop n x,markAsS_append,List.drop_eq_getElem_cons hn]
  rw[List.getElem?_append_right (by rw[markAsS_len,List.length_take];omega),markAsS_len];simp[Nat.min_eq_left (show n≤x.length by omega),markAsS]
 exact get_ofA e h
theorem h_asns {lo hi:Nat} (A:Option Addr) (x:List Asn) (c:Nat) (k:Int) (w:World) (h:AsnsI w lo hi (.slice A x.length c) (markAsS k x)) (h0:0≤k) (hk:k≤274877906944) :
  Calls Tryz.prog 26 #[.slice A x.length c,.int .i64 k] w fun e w'=>e=.returned (.int .i64 (k+totA x))∧Below w.heap.size w w':=by
 have hl:x.length≤1049600:=by have:=h.len.1;rwa [markAsS_len] at this
 have ht:totA x≤16777216:=by have:=h.len.2;rwa [totA_mark] at this
 have H:=ax h.reads;have HT:=ax (totA_rows_le x);clear h;(go_enter Tryz.func26,Tryz.ntmps26);(go_wp2_with fail)
 go_loop [1,5] (fun q i=>∃ n:Nat,n≤x.length∧i=.int .i64 n∧q=.int .i64 (k+totA (x.take n))) (fun _ i=>x.length - (intOf i).toNat)
 case atStart=>exact ⟨0,Nat.zero_le _,rfl,by simp[totA,totR,rowsA]⟩
 case round=>
  obtain ⟨n,hn,rfl,rfl⟩:=hrel;by_cases hlt:n<x.length
  ·obtain ⟨b,o,R,d,R2,d2,rfl,lb,g0,g1,v0,v1⟩:=H.o.at (k:=n) (by rw[markAsS_len];exact hlt);rw[markAsS_get k x n hlt] at g0 v0 g1 v1;simp only[markAs] at g0 g1 v0 v1;rw[markF_length] at g0;rw[markA_length] at g1;have hnx:(n:Int)<(x.length:Int):=by omega
   have htn:=HT.o n;have hk0:0≤k+(totA (x.take n):Int):=by omega
   have HTN:=ax (totA_rows x hlt);have htn1:=HT.o (n+1);rw[HTN.o] at htn1;(go_wp2_with fail);refine (c_heldFactS R x[n].facts.length d (k+(totA (x.take n)):Int) _ v0 hk0 (by omega)).mono ?_;rintro e w1 ⟨rfl,rfl⟩;have hge:¬(k+(totA (x.take n):Int)+3 * x[n].facts.length<0):=by omega
   (go_wp2_with fail);refine (c_heldAtomS R2 x[n].atoms.length d2 (k+(totA (x.take n):Int)+3 * x[n].facts.length) _ v1 (by omega) (by omega)).mono ?_;rintro e w1 ⟨rfl,rfl⟩;have hge2:¬(k+(totA (x.take n):Int)+3 * x[n].facts.length+3 * x[n].atoms.length<0):=by omega
   go_wp2_with fail
   go_round
   case rel=>exact ⟨n+1,by omega,by go_num,by rw[HTN.o];congr 1;omega⟩
   case measure=>simp[intOf];omega
  ·obtain rfl:n=x.length:=by omega
   (go_wp2_with fail);go_ret;exact ⟨rfl,Below.refl _ _⟩
theorem mkAs0 (n:Nat) (h:Lim n) (w:World):(Instr.makeSlice 30 (.int .i64 0) (.int .i64 (n:Int))).run Tryz.prog w=.ok (.slice (some ⟨w.heap.size,0,none⟩) 0 n) (w.alloc (.cells (madeCells #[.slice none 0 0,.slice none 0 0] (n * 2)) tAs)):=by
 obtain ⟨i,hi,hz,hs,hb⟩:=info_parts infoAs2;have:=run_make_rowN (P:=Tryz.prog) 30 tAs i _ Tryz.underlying30 hi hz .i64 .i64 0 n (Nat.zero_le _) (by rw[hb];unfold Lim at h;omega) (by unfold Lim at h;omega) w
 rwa [hs] at this
theorem madeAs (w:World) (n:Nat) (h:n≤1049600):(w.alloc (.cells (madeCells #[.slice none 0 0,.slice none 0 0] (n * 2)) tAs)).ownsRow w.heap.size tAs 2 (.slice (some ⟨w.heap.size,0,none⟩) 0 n) 0 []:=
 World.ownsRow_made w _ n (Nat.le_refl _) (by unfold maxLen;omega) (by rw[size_madeCells])
theorem c_joinAs {lo hi lo' hi':Nat} (A A':Option Addr) (n m c c':Nat) (vs vs':List Value) (w:World) (h:Rd w lo hi 2 A n vs) (h':Rd w lo' hi' 2 A' m vs') (h1:∀ u∈vs,u.oneCell'=true) (h1':∀ u∈vs',u.oneCell'=true) (hn:n+m≤1049600) :
  Calls Tryz.prog 251 #[.slice A n c,.slice A' m c'] w fun e w'=>∃ r,e=.returned r∧w'.ownsRow w.heap.size tAs 2 r (n+m) (vs++vs')∧Below w.heap.size w w':=by
 have hmk:=mkAs0 (n+m) hn;simp only[Int.natCast_add] at hmk;have hO0:=ax (madeAs w (n+m) hn);have hnl:=h.lim;have hml:=h'.lim;have H:=ax h;have H':=ax h';have H1:=ax h1;have H1':=ax h1';clear h h' h1 h1';(go_enter Tryz.func251,Tryz.ntmps251)
 go_wp2_with (first
  | (at_builtin;(refine wpList_appL rfl _ _ 30 rfl Tryz.underlying30 infoAs2 rfl (by decide) (by decide) rfl hO0.o rfl (H.o.bz bel).raw H1.o (by omega) (by simp) ?_);intro v1 w1 hO1 hg1 hB1;simp only[Nat.zero_add,List.nil_append] at hO1;have hB:Below w.heap.size w w1:=Below.trans bel hB1;obtain ⟨A1,d1,rfl,-⟩:=own_reads hO1 (by unfold Lim;omega))
  | (at_builtin;refine wpList_appL rfl _ _ 30 rfl Tryz.underlying30 infoAs2 rfl (by decide) (by decide) rfl hO1 rfl (H'.o.bz hB).raw H1'.o (by omega) hB.size ?_;intro v2 w2 hO2 hg2 hB2;obtain ⟨A2,d2,rfl,-⟩:=own_reads hO2 (by unfold Lim;omega)))
 go_ret;exact ⟨_,rfl,by simpa using hO2,hB.trans hB2⟩
end
section
open Go
def clsM (M:Int→Int) (x:Atm):Atm:=⟨x.kind,M x.a,M x.b⟩
def Clo (M:Int→Int) (F:List Atm) (q:Int):Prop:=q=M 0∨∃ y∈F,M y.a=q
def SegM (M:Int→Int) (F:List Atm) (q:Int):Int→List Atm→Prop
 | _,[]=>False
 | p,y :: ys=>M y.a=p∧((ys=[]∧M y.b=q)∨(ys≠[]∧M y.b≠q∧(y.kind=2→Clo M F q)∧SegM M F q (M y.b) ys))
def CovM (M:Int→Int) (F:List Atm) (x:Atm) (cs:List Atm):Prop:=if x.kind=1 then ∃ y,cs=[y]∧clsM M y=clsM M x else SegM M F (M x.b) (M x.a) cs
def Cover (M:Int→Int) (F G:List Atm):Prop:=∃ g:Atm→List Atm,(∀ x∈G,CovM M F x (g x))∧F.Perm (G.flatMap g)
section
variable {M:Int→Int} {F G H:List Atm}
def Covs (M:Int→Int) (F:List Atm):List Atm→List (List Atm)→Prop
 | [],[]=>True
 | x :: xs,cs :: css=>CovM M F x cs∧Covs M F xs css
 | _,_=>False
theorem cls_inj {y x:Atm} (h:clsM M y=clsM M x):y.kind=x.kind∧M y.a=M x.a∧M y.b=M x.b:=by
 simpa [clsM] using h
theorem seg_head {q p:Int} {cs:List Atm} (h:SegM M F q p cs):∃ y ys,cs=y :: ys∧M y.a=p:=by
 cases cs with
 | nil=>exact absurd h id
 | cons y ys=>exact ⟨y,ys,rfl,h.1⟩
theorem cov_head {x:Atm} {cs:List Atm} (h:CovM M F x cs):∃ y ys,cs=y :: ys∧M y.a=M x.a:=by
 unfold CovM at h
 split at h
 ·obtain ⟨y,rfl,e⟩:=h;exact ⟨y,[],rfl,(cls_inj e).2.1⟩
 ·exact seg_head h
theorem covs_starts:∀ (G:List Atm) (css:List (List Atm)),Covs M F G css→(G.map fun x=>M x.a).Sublist (css.flatten.map fun x=>M x.a)
 | [],[],_=>by simp
 | [],_ :: _,h=>absurd h id
 | _ :: _,[],h=>absurd h id
 | x :: G,cs :: css,h=>by
  have ih:=covs_starts G css h.2;obtain ⟨y,ys,rfl,e⟩:=cov_head h.1;simp only[List.map_cons,List.flatten_cons,List.cons_append,List.map_append];rw[e];exact List.Sublist.cons_cons _ (ih.trans (List.sublist_append_right _ _))
theorem covs_fun:∀ (G:List Atm) (css:List (List Atm)),Covs M F G css→(G.map fun x=>M x.a).Nodup→∃ g:Atm→List Atm,css.flatten=G.flatMap g∧∀ x∈G,CovM M F x (g x)
 | [],[],_,_=>⟨fun _=>[],by simp,by simp⟩
 | [],_ :: _,h,_=>absurd h id
 | _ :: _,[],h,_=>absurd h id
 | x :: G,cs :: css,h,hn=>by
  rw[List.map_cons,List.nodup_cons] at hn;obtain ⟨g,h1,h2⟩:=covs_fun G css h.2 hn.2;have hx:∀ y∈G,y≠x:=fun y hy e=>hn.1 (List.mem_map.2 ⟨y,hy,by rw[e]⟩);refine ⟨fun y=>if y=x then cs else g y,?_,fun y hy=>?_⟩
  ·rw[List.flatten_cons,List.flatMap_cons,if_pos rfl,h1]
   congr 1
   unfold List.flatMap
   congr 1
   exact List.map_congr_left fun y hy=>(if_neg (hx y hy)).symm
  ·show CovM M F y (if y=x then cs else g y);rcases List.mem_cons.1 hy with rfl|hy
   ·rw[if_pos rfl];exact h.1
   ·rw[if_neg (hx y hy)];exact h2 y hy
theorem covs_of_fun {g:Atm→List Atm}:∀ (G:List Atm),(∀ x∈G,CovM M F x (g x))→Covs M F G (G.map g)
 | [],_=>trivial
 | x :: G,h=>⟨h x List.mem_cons_self,covs_of_fun G fun y hy=>h y (List.mem_cons_of_mem _ hy)⟩
theorem Cover.starts (h:Cover M F G) (hn:(F.map fun y=>M y.a).Nodup):(G.map fun y=>M y.a).Nodup:=by
 obtain ⟨g,h1,h2⟩:=h;have:=covs_starts G _ (covs_of_fun G h1);rw[←List.flatMap_def] at this;exact ((h2.map fun y=>M y.a).nodup_iff.1 hn).sublist this
/-! coverings compose -/
theorem cov_seg {x:Atm} {cs:List Atm} (h:CovM M F x cs):SegM M F (M x.b) (M x.a) cs:=by
 unfold CovM at h
 split at h
 ·obtain ⟨y,rfl,e⟩:=h;exact ⟨(cls_inj e).2.1,.inl ⟨rfl,(cls_inj e).2.2⟩⟩
 ·exact h
theorem seg_append {q r:Int}:∀ (cs rest:List Atm) (p:Int),SegM M F r p cs→(∀ y∈cs,M y.b≠q)→(∀ y∈cs,y.kind=2→Clo M F q)→SegM M F q r rest→SegM M F q p (cs++rest)
 | [],_,_,h,_,_,_=>absurd h id
 | y :: cs,rest,p,h,h1,h2,h3=>by
  refine ⟨h.1,.inr ⟨?_,h1 y List.mem_cons_self,h2 y List.mem_cons_self,?_⟩⟩
  ·cases cs
   ·intro e;have e:rest=[]:=e;rw[e] at h3;exact h3
   ·simp
  ·rcases h.2 with ⟨rfl,e⟩|⟨-,-,-,hs⟩
   ·rw[e];exact h3
   ·exact seg_append cs rest _ hs (fun z hz=>h1 z (List.mem_cons_of_mem _ hz)) (fun z hz=>h2 z (List.mem_cons_of_mem _ hz)) h3
theorem seg_ends {r:Int}:∀ (cs:List Atm) (p:Int),SegM M F r p cs→∀ y∈cs,M y.b=r∨∃ z∈cs.tail,M z.a=M y.b
 | [],_,h,_,_=>absurd h id
 | y :: cs,p,h,z,hz=>by
  rcases List.mem_cons.1 hz with rfl|hz
  ·rcases h.2 with ⟨rfl,e⟩|⟨-,-,-,hs⟩
   ·exact .inl e
   ·obtain ⟨w,ws,rfl,e⟩:=seg_head hs;exact .inr ⟨w,by simp,e⟩
  ·rcases h.2 with ⟨rfl,e⟩|⟨-,-,-,hs⟩
   ·cases hz
   ·rcases seg_ends cs _ hs z hz with h1|⟨w,hw,e⟩
    ·exact .inl h1
    ·exact .inr ⟨w,List.mem_of_mem_tail hw,e⟩
theorem flat_sublist {α β:Type} (g:α→List β):∀ (L:List α) (z:α),z∈L→(g z).Sublist (L.flatMap g)
 | [],_,h=>by cases h
 | y :: L,z,h=>by
  rw[List.flatMap_cons];rcases List.mem_cons.1 h with rfl|h
  ·exact List.sublist_append_left _ _
  ·exact (flat_sublist g L z h).trans (List.sublist_append_right _ _)
theorem flat_apart {α β γ:Type} (g:α→List β) (f:β→γ):∀ (L:List α),((L.flatMap g).map f).Nodup→∀ z∈L,∀ w∈L,z≠w→∀ x∈g z,∀ y∈g w,f x≠f y
 | [],_,_,h,_,_,_,_,_,_,_=>by cases h
 | v :: L,hn,z,hz,w,hw,hne,x,hx,y,hy=>by
  rw[List.flatMap_cons,List.map_append,List.nodup_append] at hn;have hin:∀ (u:α) (t:β),u∈L→t∈g u→f t∈(L.flatMap g).map f:=fun u t hu ht=>List.mem_map.2 ⟨t,List.mem_flatMap.2 ⟨u,hu,ht⟩,rfl⟩;rcases List.mem_cons.1 hz with rfl|hz1
  ·rcases List.mem_cons.1 hw with rfl|hw1
   ·exact absurd rfl hne
   ·exact hn.2.2 _ (List.mem_map.2 ⟨x,hx,rfl⟩) _ (hin w y hw1 hy)
  ·rcases List.mem_cons.1 hw with rfl|hw1
   ·exact fun e=>hn.2.2 _ (List.mem_map.2 ⟨y,hy,rfl⟩) _ (hin z x hz1 hx) e.symm
   ·exact flat_apart g f L hn.2.1 z hz1 w hw1 hne x hx y hy
theorem Cover.trans (h1:Cover M F G) (h2:Cover M G H) (hn:(F.map fun y=>M y.a).Nodup) (h0:∀ y∈F,M y.a≠M 0) (hG:∀ z∈G,z.kind=1∨z.kind=2):Cover M F H:=by
 obtain ⟨g,g1,g2⟩:=h1;obtain ⟨d,d1,d2⟩:=h2;have hgn:((G.flatMap g).map fun y=>M y.a).Nodup:=(g2.map fun y=>M y.a).nodup_iff.1 hn;have hmem:∀ z∈G,∀ y∈g z,y∈F:=fun z hz y hy=>g2.mem_iff.2 (List.mem_flatMap.2 ⟨z,hz,hy⟩)
 have hclo:∀ q,Clo M G q→Clo M F q:=fun q h=>by
  rcases h with h|⟨w,hw,e⟩
  ·exact .inl h
  ·obtain ⟨y,ys,e1,e2⟩:=cov_head (g1 w hw);exact .inr ⟨y,hmem w hw y (by rw[e1];simp),e2.trans e⟩
 have hin:∀ x∈H,∀ z∈d x,z∈G:=fun x hx z hz=>d2.mem_iff.2 (List.mem_flatMap.2 ⟨x,hx,hz⟩)
 have hnot:∀ z∈G,∀ y∈(g z).tail,¬Clo M G (M y.a):=fun z hz y hy h=>by
  have hyz:=List.mem_of_mem_tail hy;rcases h with h|⟨w,hw,e⟩
  ·exact h0 y (hmem z hz y hyz) h
  ·obtain ⟨y',ys,e1,e2⟩:=cov_head (g1 w hw);by_cases hzw:z=w
   ·subst hzw;have:=hgn.sublist ((flat_sublist g G z hz).map fun y=>M y.a);rw[e1] at this hy;rw[List.map_cons,List.nodup_cons] at this;exact this.1 (List.mem_map.2 ⟨y,hy,by rw[e2,e]⟩)
   ·exact flat_apart g (fun y=>M y.a) G hgn z hz w hw hzw y hyz y' (by rw[e1];simp) (by rw[e2,e])
 have comp:∀ (q:Int) (ds:List Atm) (p:Int),SegM M G q p ds→(∀ z∈ds,z∈G)→SegM M F q p (ds.flatMap g):=by
  intro q ds
  induction ds with
  | nil=>intro p h;exact absurd h id
  | cons z ds ih=>
   intro p h hD;have hz:=hD z List.mem_cons_self;have hs:=cov_seg (g1 z hz);rw[List.flatMap_cons];obtain ⟨rfl,h⟩:=h;rcases h with ⟨rfl,e⟩|⟨-,hb,hc,hr⟩
   ·rw[List.flatMap_nil,List.append_nil,←e];exact hs
   ·have hkind:∀ y∈g z,(g z).tail≠[]∨y.kind=2→Clo M G q:=fun y hy hor=>by
     have hcov:=g1 z hz;unfold CovM at hcov;by_cases hk:z.kind=1
     ·rw[if_pos hk] at hcov;obtain ⟨y',e1,e2⟩:=hcov;rw[e1] at hor hy;rcases hor with h|h
      ·exact absurd rfl h
      ·rw[List.mem_singleton.1 hy] at h;rw[(cls_inj e2).1,hk] at h;exact absurd h (by decide)
     ·exact hc ((hG z hz).resolve_left hk)
    refine seg_append (g z) _ _ hs (fun y hy e=>?_) (fun y hy hk=>hclo _ (hkind y hy (.inr hk))) (ih _ hr fun w hw=>hD w (List.mem_cons_of_mem _ hw));rcases seg_ends _ _ hs y hy with e2|⟨y',hy',e2⟩
    ·exact hb (e2.symm.trans e)
    ·have:=hkind y hy (.inl fun h=>by rw[h] at hy';cases hy');rw[←e,←e2] at this;exact hnot z hz y' hy' this
 refine ⟨fun x=>(d x).flatMap g,fun x hx=>?_,?_⟩
 ·have hd:=d1 x hx;unfold CovM at hd ⊢;by_cases hk:x.kind=1
  ·rw[if_pos hk] at hd ⊢;obtain ⟨z,e1,e2⟩:=hd;have hz:=hin x hx z (by rw[e1];simp);have hg:=g1 z hz;unfold CovM at hg;rw[if_pos ((cls_inj e2).1.trans hk)] at hg;obtain ⟨y,e3,e4⟩:=hg;exact ⟨y,by show List.flatMap g (d x)=_;rw[e1];simp[e3],e4.trans e2⟩
  ·rw[if_neg hk] at hd ⊢;exact comp _ _ _ hd (hin x hx)
 ·refine g2.trans ?_;have:=d2.flatMap_right g;rw[List.flatMap_assoc] at this;exact this
end
end
end Go.Proofs.YtgdfdmjnadnlnaaGreat
