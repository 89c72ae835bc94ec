/- Contracts: impl's search for cases, an iterator. -/
import Derived.Test.YtgdfdmjnadnlnaaGreatCaseW
import Derived.Shelf.Abstract
set_option linter.unusedSimpArgs false
set_option linter.unusedVariables false
set_option maxRecDepth 100000
set_option maxHeartbeats 25600000
namespace Go.Proofs.YtgdfdmjnadnlnaaGreat
section
open Go Go.RowKit Go.Proofs
attribute [local go_sem ↓] Go.wp_at_zero Go.wp_at_succ
attribute [local go_sem] Oper.semAt_some
abbrev tAs:Nat:=36
abbrev case9 (c:List Int):Array Value:=#[.int .i64 (cl c 0),.int .i64 (cl c 1),.int .i64 (cl c 2),.int .i64 (cl c 3),.int .i64 (cl c 4),.int .i64 (cl c 5),.int .i64 (cl c 6),.int .i64 (cl c 7),.int .i64 (cl c 8)]
theorem case9_eq {c:List Int} (h:c.length=9):case9 c=(encI c).toArray:=by
 match c,h with
 | [c0,c1,c2,c3,c4,c5,c6,c7,c8],_=>rfl
theorem case9_set {c:List Int} (h:c.length=9) (m:Nat) (v:Int):(case9 c).setIfInBounds m (.int .i64 v)=case9 (c.set m v):=by
 rw[case9_eq h,case9_eq (by simpa using h)];simp[encI]
theorem Blk.case {w:World} {g:Nat} {t:TypeId} {c:List Int} (h:Blk w g t (case9 c)) (hc:c.length=9):Blk w g t (encI c).toArray:=by rw[←case9_eq hc];exact h
theorem Blk.caseSet {w:World} {g:Nat} {t:TypeId} {c:List Int} (h:Blk w g t (case9 c)) (hc:c.length=9) (m:Nat) (v:Int):Blk (w.setCell ⟨g,m,none⟩ (.int .i64 v)) g t (case9 (c.set m v)):=by
 rw[←case9_set hc];exact h.set_ _ _
theorem case9_cells {w:World} {g:Nat} {t:TypeId} {c:List Int} (h:Blk w g t (case9 c)) :
  w.cell? ⟨g,0,none⟩=some (.int .i64 (cl c 0))∧w.cell? ⟨g,1,none⟩=some (.int .i64 (cl c 1))∧w.cell? ⟨g,2,none⟩=some (.int .i64 (cl c 2))∧w.cell? ⟨g,3,none⟩=some (.int .i64 (cl c 3))∧w.cell? ⟨g,4,none⟩=some (.int .i64 (cl c 4))∧w.cell? ⟨g,5,none⟩=some (.int .i64 (cl c 5))∧w.cell? ⟨g,6,none⟩=some (.int .i64 (cl c 6))∧w.cell? ⟨g,7,none⟩=some (.int .i64 (cl c 7))∧w.cell? ⟨g,8,none⟩=some (.int .i64 (cl c 8)):=by
 have q:=h.cell;exact ⟨q 0,q 1,q 2,q 3,q 4,q 5,q 6,q 7,q 8⟩
theorem Rw.keepB {w w':World} {lo hi size n n₀:Nat} {A:Option Addr} {xs:List Value} (h:Rw w lo hi size A n xs) (hb:Below n₀ w w') (hh:hi≤n₀):Rw w' lo hi size A n xs:=h.keep fun b _ h2=>hb.block b (by omega)
theorem AsnV.keepB {w w':World} {lo hi n₀:Nat} {v:Value} {a:Asn} (h:AsnV w lo hi v a) (hb:Below n₀ w w') (hh:hi≤n₀):AsnV w' lo hi v a:=by
 obtain ⟨A1,c1,A2,c2,e,h1,h2⟩:=h;exact ⟨A1,c1,A2,c2,e,⟨h1.raw.keepB hb hh,h1.lim⟩,⟨h2.raw.keepB hb hh,h2.lim⟩⟩
abbrev CaseT (a:Asn) (S:Nat):={ c:List Int // c∈cases a S }
theorem CaseT.len {a:Asn} {S:Nat} (x:CaseT a S):x.1.length=9:=by
 have h:=x.2;unfold cases at h;exact (gen_ok S 9 zeros x.1 (by omega) rfl (List.mem_filter.1 h).1).1
def extAt (a:Asn) (S n:Nat) (c:List Int) (k:Nat):List (List Int):=if k<8 - n∧cl c k≠k then [] else if poss a (c.set (8 - n) k) (8 - n:Nat) then ext a S n (c.set (8 - n) k) else []
theorem ext_loop (a:Asn) (S n:Nat) (c:List Int) (h:S.testBit (8 - n)=true):ext a S (n+1) c=(List.range (9 - n)).flatMap (extAt a S n c):=by
 conv=>lhs;unfold ext
 rw[h,if_pos rfl];rfl
theorem range_pre {α:Type} {f:Nat→List α} {k n:Nat} (h:k<n) {ys:List α} (hy:ys <+: f k):(List.range k).flatMap f++ys <+: (List.range n).flatMap f:=by
 obtain ⟨zs,hz⟩:=hy;obtain ⟨m,rfl⟩:∃ m,n=k+(m+1):=⟨n - k - 1,by omega⟩;rw[List.range_add,List.range_succ_eq_map,List.map_cons,List.flatMap_append,List.flatMap_cons,Nat.add_zero,←hz];exact ⟨zs++(List.map (fun x=>k+x) (List.map Nat.succ (List.range m))).flatMap f,by simp[List.append_assoc]⟩
theorem Kept.setNew {T1 T2:TypeId} {n₀:Nat} {W W':World} (h:Kept T1 T2 n₀ W W') {p:Addr} (hp:W.heap.size≤p.block) (hn:n₀≤W.heap.size) (u:Value):Kept T1 T2 n₀ W (W'.setCell p u):=
 ⟨h.bz.setCell (by omega) _,fun g t cs ht hb=>(h.keep g t cs ht hb).far (by have:=hb.lt;omega) _⟩
theorem c_impl_extend {a:Asn} {S lo hi l n₀ B:Nat} {v:Value} (hv:a.valid=true) (hS:S<512) (hT:∀ t∈termsL a,S.testBit t.toNat=true) (hhi:hi≤n₀)
  (J Jx:List (CaseT a S)→World→Prop) (hJ:AbT tTc B J)
  (hY:∀ m pre (x:CaseT a S) W,J pre W→(pre++[x]).map Subtype.val <+: cases a S→YieldAt Fence.wide m Tryz.prog l #[.agg (case9 x.1)] W fun e W'=>(e=.returned (.bool true)∧J (pre++[x]) W'∧Kept tTc tAs n₀ W W')∨(e=.returned (.bool false)∧Jx (pre++[x]) W')) :
  ∀ (n:Nat) (c:List Int) (pre:List (CaseT a S)) (W:World),n≤9→c.length=9→pre.map Subtype.val++ext a S n c <+: cases a S→(∀ j:Nat,j<9 - n→S.testBit j=true→0≤cl c j∧cl c j≤j)→AsnV W lo hi v a→B≤W.heap.size→n₀≤W.heap.size→J pre W→
   Calls Tryz.prog 220 #[.agg (case9 c),.int .i64 ((9 - n:Nat):Int),v,.int .u16 (S:Nat),.func (.yield l) #[] #[]] W fun e W'=>
    (e=.returned (.bool true)∧∃ ys:List (CaseT a S),ys.map Subtype.val=ext a S n c∧J (pre++ys) W'∧Kept tTc tAs n₀ W W')∨(e=.returned (.bool false)∧∃ ys:List (CaseT a S),ys.map Subtype.val <+: ext a S n c∧Jx (pre++ys) W'):=by
 intro n
 induction n with
 | zero=>
  intro c pre W _ hc hm _ hA hBW hn0 hJp;obtain ⟨A1,c1,A2,c2,rfl,-,-⟩:=hA;have hB0:Below W.heap.size W ((W.alloc (.cells (case9 c) tTc)).alloc (.cells #[.slice A1 a.facts.length c1,.slice A2 a.atoms.length c2] tAs)):=bel;have hJ1:=hJ.nz hJp hB0;have hx:c∈cases a S:=hm.subset (by simp[ext]);obtain ⟨fn,tmps,assign,body,hy,hR⟩:=hY 0 pre ⟨c,hx⟩ _ hJ1 (by simpa [ext] using hm);have hk0:=Kept.nz (T1:=tTc) (T2:=tAs) (n₀:=n₀) hB0 hn0;dsimp only at hy;have hR:=RoundIn.mono hR (R':=fun e W'=>(e=.returned (.bool true)∧J (pre++[⟨c,hx⟩]) W'∧Kept tTc tAs n₀ W W')∨(e=.returned (.bool false)∧Jx (pre++[⟨c,hx⟩]) W')) (fun e W' h=>h.elim (fun h=>Or.inl ⟨h.1,h.2.1,hk0.trans h.2.2⟩) Or.inr);clear hY hJ hk0 hJ1 hB0 hJp hm;refine (callsIn_wide (n:=1)).1 ?_;(refine callsIn_of_wp Tryz.func220 rfl trivial ?_ rfl;simp only[Tryz.ntmps220,List.size_toArray,List.length_cons,List.length_nil,Nat.reduceAdd,Nat.reduceSub,Array.replicate_succ,Array.replicate_zero,List.push_toArray,List.append_toArray,List.nil_append,List.cons_append])
  gi_wp2
  refine hR.mono ?_;rintro e W' (⟨rfl,h1,h2⟩|⟨rfl,h1⟩)
  ·gi_wp2
   go_ret;exact Or.inl ⟨rfl,[⟨c,hx⟩],by simp[ext],h1,h2⟩
  ·gi_wp2
   go_ret;exact Or.inr ⟨rfl,[⟨c,hx⟩],by simp[ext],h1⟩
 | succ n ih=>
  intro c pre W hn hc hm hcl hA hBW hn0 hJp;have hV:=ax hA;obtain ⟨A1,c1,A2,c2,rfl,-,-⟩:=hA;obtain ⟨m,hm8⟩:∃ m,m=8 - n:=⟨_,rfl⟩;have e1:((9 - n:Nat):Int)=(m:Int)+1:=by omega
  rw[show 9 - (n+1)=m from by omega] at hcl ⊢;have hmi:(m:Int)≤8:=by omega
  have hmi9:(m:Int)<9:=by omega
  have hit:isTermB (m:Int)=true:=by rw[isTermB_iff];omega
  have HO:=ax (Asn.valid_ok hv);have IH:=ax ih;have HJ:=ax hJ;have HJP:=ax hJp;have HM:=ax hm;have HCL:=ax hcl;have HM8:=ax hm8;have HT:=ax hT;have HC:=ax hc;have hmg:¬(8<(m:Int)):=by omega
  have hmn:=ax hn;have E1:=ax e1;clear ih hJ hJp hY hm hcl hT hm8 hc hn e1;obtain ⟨W2,hW2⟩:∃ W2,W2=((W.alloc (.cells (case9 c) tTc)).alloc (.cells #[.slice A1 a.facts.length c1,.slice A2 a.atoms.length c2] tAs)):=⟨_,rfl⟩;have k0:Blk W2 W.heap.size tTc (case9 c):=by rw[hW2];exact blks
  have k1:Blk W2 (W.heap.size+1) tAs #[.slice A1 a.facts.length c1,.slice A2 a.atoms.length c2]:=by rw[hW2];exact blks
  have hB:Below W.heap.size W W2:=by rw[hW2];exact bel
  have HW2:=ax hW2;clear hW2;(go_enter Tryz.func220,Tryz.ntmps220);(go_wp2_with fail);refine (c_impl_tHas S (m:Int) _ hS).mono ?_;rintro e W3 ⟨rfl,rfl⟩;rw[hit,Int.toNat_natCast,Bool.true_and,←HW2.o];have lk0:=k0.lt;have lk1:=k1.lt;have rk0:=k0.frozen;clear HW2;cases ht:S.testBit m
  ·have HTS:=ax ht
   have HE:aJ (ext a S (n+1) c=ext a S n (c.set m (-1))):=by
    show _=_
    conv=>lhs;unfold ext
    rw[←HM8.o,ht];rfl
   have k0':=k0.caseSet HC.o m (-1);obtain ⟨p0,p1,p2,p3,p4,p5,p6,p7,p8⟩:=case9_cells k0';have qm:W2.cell? ⟨W.heap.size,m,none⟩=some (.int .i64 (cl c m)):=case_cell (k0.case HC.o) (by rw[HC.o];omega);have qk1:=(k1.far (p:=⟨W.heap.size,m,none⟩) (by simp) (.int .i64 (-1))).cell;have hB3:Below W.heap.size W (W2.setCell ⟨W.heap.size,m,none⟩ (.int .i64 (-1))):=bel;have hz:=hB3.size;clear ht k0 k1 k0' hB;(go_wp2_with fail)
   have ih1:=IH.o (c.set m (-1)) pre _ (by have:=hmn.o;omega) (by simpa using HC.o) (by rw[←HE.o];exact HM.o) (fun j hj hSj=>by
    have:=HM8.o;rw[cl_set HC.o (by omega) _ (by omega)];by_cases ej:j=m
    ·subst ej;rw[HTS.o] at hSj;cases hSj
    ·rw[if_neg (by omega)];exact HCL.o j (by omega) hSj) (hV.o.bz hB3) (Nat.le_trans hBW hz) (Nat.le_trans hn0 hz) (HJ.o.nz HJP.o hB3)
   rw[E1.o] at ih1;refine ih1.mono ?_;clear ih1;rintro e W' (⟨rfl,ys,y1,y2,y3⟩|⟨rfl,ys,y1,y2⟩)
   ·have Y:=ax (⟨y1,y2,y3⟩:_∧_∧_);clear y1 y2 y3;(go_wp2_with fail);go_ret;exact Or.inl ⟨rfl,ys,by rw[HE.o];exact Y.o.1,Y.o.2.1,(Kept.nz hB3 hn0).trans Y.o.2.2⟩
   ·have Y:=ax (⟨y1,y2⟩:_∧_);clear y1 y2;(go_wp2_with fail);go_ret;exact Or.inr ⟨rfl,ys,by rw[HE.o];exact Y.o.1,Y.o.2⟩
  ·have HTS:=ax ht;have HE:=ax (ext_loop a S n c (by rw[←HM8.o];exact ht));clear ht;(go_wp2_with fail)
   go_loopw [11] (fun i wr=>∃ (k:Nat) (d:List Int) (ys:List (CaseT a S)),k≤m+1∧i=.int .i64 k∧aJ (d.length=9)∧aJ (∀ v,d.set m v=c.set m v)∧aJ (ys.map Subtype.val=(List.range k).flatMap (extAt a S n c))∧Blk wr W.heap.size tTc (case9 d)∧Blk wr (W.heap.size+1) tAs #[.slice A1 a.facts.length c1,.slice A2 a.atoms.length c2]∧aJ (J (pre++ys) wr)∧aJ (Kept tTc tAs n₀ W wr)) (fun i _=>9 - (intOf i).toNat)
   case atStart=>exact ⟨0,c,[],Nat.zero_le _,rfl,HC,fun _=>rfl,rfl,k0,k1,by rw[List.append_nil];exact HJ.o.nz HJP.o hB,Kept.nz hB hn0⟩
   case round=>
    clear k0 k1 lk0 lk1 rk0 hB;obtain ⟨k,d,ys,hk,rfl,HDL,HDS,HYS,k0,k1,HJW,HKW⟩:=hrel;have lk0:=k0.lt;have lk1:=k1.lt;have rk0:=k0.frozen;by_cases hlt:k≤m
    ·have hki:(k:Int)≤(m:Int):=by omega
     have hk9:(k:Int)<9:=by omega
     have hkc:wr.cell? ⟨W.heap.size,k,none⟩=some (.int .i64 (cl d k)):=case_cell (k0.case HDL.o) (by rw[HDL.o];omega);have HNX:aJ ((List.range (k+1)).flatMap (extAt a S n c)=(List.range k).flatMap (extAt a S n c)++extAt a S n c k):=by show _=_;rw[List.range_succ,List.flatMap_append];simp
     have hdc:k<m→cl d k=cl c k:=fun h=>by
      have h1:=cl_set HDL.o (t:=m) (by omega) 0 (j:=(k:Int)) (by omega);have h2:=cl_set HC.o (t:=m) (by omega) 0 (j:=(k:Int)) (by omega);rw[if_neg (by omega)] at h1 h2;rw[←h1,←h2,HDS.o]
     have HDC:=ax hdc;clear hdc;by_cases hskip:k<m∧cl c k≠k
     ·have HX:aJ (extAt a S n c k=[]):=by show _=_;rw[extAt,if_pos (by rw[←HM8.o];exact hskip)]
      have hkm:(k:Int)<(m:Int):=by omega
      have hne:(cl d k != (k:Int))=true:=by rw[HDC.o hskip.1];simpa using hskip.2
      clear hskip hki hlt;(go_wp2_with fail)
      go_round
      case rel=>exact ⟨k+1,d,ys,by omega,by go_num,HDL,HDS,by show _=_;rw[HNX.o,HX.o,List.append_nil];exact HYS.o,k0,k1,HJW,HKW⟩
      case measure=>simp[intOf];omega
     ·have hsk2:k<m→(cl d k != (k:Int))=false:=fun h=>by
       rw[HDC.o h]
       cases Int.decEq (cl c k) k with
       | isTrue h=>simp[h]
       | isFalse h'=>exact absurd ⟨h,h'⟩ hskip
      have HX:aJ (extAt a S n c k=if poss a (c.set m k) m then ext a S n (c.set m k) else []):=by
       show _=_;rw[extAt,←HM8.o,if_neg hskip]
      clear hskip;have k0':Blk (wr.setCell ⟨W.heap.size,m,none⟩ (.int .i64 k)) W.heap.size tTc (case9 (c.set m k)):=by rw[←HDS.o k];exact k0.caseSet HDL.o m k
      have k1':=k1.far (p:=⟨W.heap.size,m,none⟩) (by simp) (.int .i64 (k:Int));have qk1:=k1'.cell;have qm:wr.cell? ⟨W.heap.size,m,none⟩=some (.int .i64 (cl d m)):=case_cell (k0.case HDL.o) (by rw[HDL.o];omega);have HKW':=ax (HKW.o.setNew (p:=⟨W.heap.size,m,none⟩) (Nat.le_refl _) hn0 (.int .i64 (k:Int)));have HJW':=ax (HJ.o.set HJW.o k0 hBW m (.int .i64 (k:Int)));have HA':=ax (hV.o.keepB HKW'.o.bz hhi);have hcs:(c.set m (k:Int)).length=9:=by simpa using HC.o
      have HCS:=ax hcs
      have hcl':∀ j:Nat,j≤m→S.testBit j=true→0≤cl (c.set m (k:Int)) j∧cl (c.set m (k:Int)) j≤j:=fun j hj hSj=>by
       rw[cl_set HC.o (by omega) _ (by omega)]
       split
       ·omega
       ·exact HCL.o j (by omega) hSj
      have HCL':=ax hcl'
      have hpo:∀ x∈a.atoms,x.a≤(m:Int)→isTermB (cl (c.set m (k:Int)) x.a)=true:=fun x hx hxm=>by
       have h0:=(HO.o.2 x hx).1;obtain ⟨t,et⟩:=Int.eq_ofNat_of_zero_le h0.1;have hb:=HT.o x.a (by simp only[termsL,List.mem_append,List.mem_flatMap];exact Or.inr ⟨x,hx,by simp[atomT]⟩);rw[et] at hb hxm ⊢;have:=hcl' t (by omega) (by simpa using hb);rw[isTermB_iff];omega
      have HPO:=ax hpo;clear hcl' hpo hcs k1;have K1':=ax k1';clear k1';have hwz:W.heap.size≤wr.heap.size:=by omega
      obtain hkm|hkm:k<m∨k=m:=by omega
      case' inl=>have h1:(k:Int)<(m:Int):=by omega
      case' inl=>have h2:=hsk2 hkm
      case' inr=>have h1:¬(k:Int)<(m:Int):=by omega
      all_goals
       clear hkm hsk2;(go_wp2_with fail);refine (c_impl_possible _ a (m:Int) (c.set m (k:Int)) W.heap.size _ HA'.o (k0'.case HCS.o) HCS.o HO.o.1 HO.o.2 HPO.o).mono ?_;rintro e w1 ⟨rfl,hB1⟩;have k0:=k0'.nz hB1;have k1:=K1'.o.nz hB1;replace qk1:=k1.cell;obtain ⟨p0,p1,p2,p3,p4,p5,p6,p7,p8⟩:=case9_cells k0;have hz:=hB1.size;simp only[World.size_setCell] at hz;have HKW1:=ax (HKW'.o.trans (Kept.nz hB1 (by simp only[World.size_setCell];omega)));have HJ1:=ax (HJ.o.nz HJW'.o hB1);have HA1:=ax (hV.o.keepB HKW1.o.bz hhi);clear hB1 qm k0' rk0;cases hps:poss a (c.set m (k:Int)) (m:Int)
       ·have HX2:=ax (show extAt a S n c k=[] by rw[HX.o,hps];rfl);clear hps;(go_wp2_with fail)
        go_round
        case rel=>exact ⟨k+1,c.set m (k:Int),ys,by omega,by go_num,HCS,fun v=>by rw[List.set_set],by show _=_;rw[HNX.o,HX2.o,List.append_nil];exact HYS.o,k0,k1,HJ1,HKW1⟩
        case measure=>simp[intOf];omega
       ·have HX2:=ax (show extAt a S n c k=ext a S n (c.set m (k:Int)) by rw[HX.o,hps];rfl);clear hps;have hk9n:k<9 - n:=by have:=HM8.o;have:=hmn.o;omega
        have ih1:=IH.o (c.set m (k:Int)) (pre++ys) w1 (by have:=hmn.o;omega) HCS.o (by
         refine List.IsPrefix.trans ?_ HM.o;rw[HE.o,List.map_append,HYS.o,List.append_assoc]
         exact (List.prefix_append_right_inj _).2 (range_pre hk9n (by rw[HX2.o];exact List.prefix_rfl))) (fun j hj=>HCL'.o j (by have:=HM8.o;have:=hmn.o;omega)) HA1.o (by omega) (by omega) HJ1.o
        rw[E1.o] at ih1;have IH1:=ax ih1;clear ih1;(go_wp2_with fail);refine IH1.o.mono ?_;rintro e W' (⟨rfl,ys2,y1,y2,y3⟩|⟨rfl,ys2,y1,y2⟩)
        ·have z0:=y3.keep _ _ _ (Or.inl rfl) k0;have z1:=y3.keep _ _ _ (Or.inr rfl) k1;have Y:=ax (⟨y1,y2,y3⟩:_∧_∧_);clear y1 y2 y3 k0 k1 qk1 p0 p1 p2 p3 p4 p5 p6 p7 p8;(go_wp2_with fail)
         go_round
         case rel=>exact ⟨k+1,c.set m (k:Int),ys++ys2,by omega,by go_num,HCS,fun v=>by rw[List.set_set],by show _=_;rw[HNX.o,HX2.o,List.map_append,Y.o.1,HYS.o],z0,z1,by rw[←List.append_assoc];exact Y.o.2.1,HKW1.o.trans Y.o.2.2⟩
         case measure=>simp[intOf];omega
        ·have Y:=ax (⟨y1,y2⟩:_∧_);clear y1 y2 k0 k1 qk1 p0 p1 p2 p3 p4 p5 p6 p7 p8;(go_wp2_with fail);go_ret;refine Or.inr ⟨rfl,ys++ys2,?_,by rw[←List.append_assoc];exact Y.o.2⟩;rw[HE.o,List.map_append,HYS.o];exact range_pre hk9n (by rw[HX2.o];exact Y.o.1)
    ·obtain rfl:k=m+1:=by omega
     (go_wp2_with fail);go_ret;refine Or.inl ⟨rfl,ys,?_,HJW.o,HKW.o⟩;rw[HE.o,HYS.o,show 9 - n=m+1 from by have:=HM8.o;have:=hmn.o;omega]
abbrev tTS:Nat:=103
def caseS (a:Asn) (F:Nat):Nat:=tins (tset (termsL a)) 0|||F
theorem caseS_lt {a:Asn} {F:Nat} (h:F<512):caseS a F<512:=Nat.or_lt_two_pow (n:=9) (tins_lt (tset_lt _) 0) h
theorem caseS_bit (a:Asn) (F n:Nat):(caseS a F).testBit n=(decide (isTermB (n:Int)=true∧(n:Int)∈termsL a) || decide (n=0) || F.testBit n):=by
 unfold caseS;rw[Nat.testBit_or,tins_bit,tset_bit]
 congr 2
 rw[decide_eq_decide];constructor
 ·rintro ⟨_,h⟩;omega
 ·intro h;subst h;exact ⟨by decide,rfl⟩
theorem caseS_zero (a:Asn) (F:Nat):(caseS a F).testBit 0=true:=by rw[caseS_bit];simp
theorem caseS_terms {a:Asn} (h:a.valid=true) (F:Nat):∀ t∈termsL a,(caseS a F).testBit t.toNat=true:=by
 intro t ht;have hb:=termsL_ok h t ht;have:=isTermB_iff.1 hb;rw[caseS_bit];have e:((t.toNat:Nat):Int)=t:=by omega
 rw[e];simp[hb,ht]
theorem caseS_not {a:Asn} (h:a.valid=true) (F:Nat):∀ t:Nat,(caseS a F).testBit t=false→(∀ f∈a.facts,f.a≠t∧f.b≠t)∧(∀ x∈a.atoms,x.a≠t∧x.b≠t):=by
 intro t ht
 have key:(t:Int)∉termsL a:=fun hm=>by
  have:=caseS_terms h F _ hm;rw[Int.toNat_natCast,ht] at this;cases this
 refine ⟨fun f hf=>⟨fun e=>key ?_,fun e=>key ?_⟩,fun x hx=>⟨fun e=>key ?_,fun e=>key ?_⟩⟩
 all_goals simp only[termsL,List.mem_append,List.mem_flatMap]
 ·exact Or.inl ⟨f,hf,by simp[factT,e]⟩
 ·exact Or.inl ⟨f,hf,by simp[factT,e]⟩
 ·exact Or.inr ⟨x,hx,by simp[atomT,e]⟩
 ·exact Or.inr ⟨x,hx,by simp[atomT,e]⟩
theorem ext_caseS {a:Asn} (h:a.valid=true) (F:Nat):ext a (caseS a F) 9 zeros=cases a (caseS a F):=ext_cases (Asn.valid_ok h).1 (Asn.valid_ok h).2 (caseS_not h F)
theorem c_seq {a:Asn} {F lo hi n₀ gA gT:Nat} {A1 A2:Option Addr} {d1 d2:Nat} (w:World) (hv:a.valid=true) (hF:F<512) (hA:AsnV w lo hi (.agg #[.slice A1 a.facts.length d1,.slice A2 a.atoms.length d2]) a) (hhi:hi≤n₀) (hn:n₀≤w.heap.size)
  (kA:Blk w gA tAs #[.slice A1 a.facts.length d1,.slice A2 a.atoms.length d2]) (kT:Blk w gT tTS #[.int .u16 (caseS a F:Nat)]) :
  SeqT (α:=CaseT a (caseS a F)) Tryz.prog 219 #[.pointer (some ⟨gA,0,none⟩),.pointer (some ⟨gT,0,none⟩)] (fun x=>#[.agg (case9 x.1)]) tTc (Kept tTc tAs n₀) (fun p=>p.map Subtype.val <+: cases a (caseS a F)) (fun xs=>xs.map Subtype.val=cases a (caseS a F)) (fun pre=>pre.map Subtype.val <+: cases a (caseS a F)) w:=by
 intro n l J Jx W hW hJ hJx hY h0;have kA':=kA.nz hW;have kT':=kT.nz hW;have hA':=hA.bz hW;have hz:=hW.size;have hB1:Below W.heap.size W (W.alloc (.cells (case9 zeros) tTc)):=bel;have h1:=c_impl_extend hv (caseS_lt hF) (caseS_terms hv F) hhi J Jx hJ hY 9 zeros [] _ (by omega) rfl (by rw[ext_caseS hv];simp) (fun j hj=>by omega) (hA'.bz hB1) hB1.size (by have:=hB1.size;omega) (hJ.nz h0 hB1);rw[show ((9 - 9:Nat):Int)=0 from rfl,ext_caseS hv] at h1;have H1:=ax h1;have lA:=kA'.lt;have lT:=kT'.lt;have qA:=kA'.cell;have qT:=kT'.cell;clear h1 hY hJ hJx h0 hA' hA;refine callsIn_wide.2 ?_;(go_enter Tryz.func219,Tryz.ntmps219);(go_wp2_with fail);refine H1.o.mono ?_;rintro e W' (⟨rfl,ys,y1,y2,-⟩|⟨rfl,ys,y1,y2⟩)
 ·have Y:=ax (⟨y1,y2⟩:_∧_);clear y1 y2;(go_wp2_with fail)
  go_end0
  exact ⟨⟨_,rfl⟩,.inl ⟨ys,Y.o.1,Y.o.2⟩⟩
 ·have Y:=ax (⟨y1,y2⟩:_∧_);clear y1 y2;(go_wp2_with fail)
  go_end0
  exact ⟨⟨_,rfl⟩,.inr ⟨ys,Y.o.1,Y.o.2⟩⟩
theorem c_impl_possibleCases {lo hi:Nat} (A1 A2:Option Addr) (d1 d2:Nat) (a:Asn) (F:Nat) (w:World) (h:AsnV w lo hi (.agg #[.slice A1 a.facts.length d1,.slice A2 a.atoms.length d2]) a) (hF:F<512) :
  Calls Tryz.prog 172 #[.agg #[.slice A1 a.facts.length d1,.slice A2 a.atoms.length d2],.int .u16 (F:Nat)] w fun e w'=>∃ gA gT,e=.returned (.func (.func 219) #[] #[.pointer (some ⟨gA,0,none⟩),.pointer (some ⟨gT,0,none⟩)])∧
   w.heap.size≤gA∧w.heap.size≤gT∧Blk w' gA tAs #[.slice A1 a.facts.length d1,.slice A2 a.atoms.length d2]∧Blk w' gT tTS #[.int .u16 (caseS a F:Nat)]∧Below w.heap.size w w':=by
 have hV:=ax h;clear h;have hT:=tset_lt (termsL a);have hT2:=tins_lt hT 0;have hU:=u16_or_nat (tins (tset (termsL a)) 0) F (by omega) (by omega);(go_enter Tryz.func172,Tryz.ntmps172);(go_wp2_with fail);refine (c_impl_termsIn _ a _ (hV.o.bz bel)).mono ?_;rintro e w1 ⟨rfl,hB1⟩;have k0:Blk w1 w.heap.size tAs #[.slice A1 a.facts.length d1,.slice A2 a.atoms.length d2]:=Blk.nz blks hB1;have hB:Below w.heap.size w w1:=bgo (w:=w) bel hB1;have hz:=hB1.size;simp only[World.size_alloc] at hz;clear hB1;(go_wp2_with fail);refine (c_impl_with _ 0 _ hT).mono ?_;rintro e w2 ⟨rfl,rfl⟩;(go_wp2_with fail);go_ret;refine ⟨w.heap.size,w1.heap.size,rfl,Nat.le_refl _,by omega,k0.alloc _,?_,bel⟩;exact Blk.new _ _ _
theorem head_pre {y:List Int} {L:List (List Int)} (h:[y] <+: L):L.head?.getD zeros=y∧L.isEmpty=false:=by
 obtain ⟨zs,rfl⟩:=h;exact ⟨rfl,rfl⟩
abbrev set9 (w:World) (g:Nat) (v0 v1 v2 v3 v4 v5 v6 v7 v8:Value):World:=(((((((((w.setCell ⟨g,0,none⟩ v0).setCell ⟨g,1,none⟩ v1).setCell ⟨g,2,none⟩ v2).setCell ⟨g,3,none⟩ v3).setCell ⟨g,4,none⟩ v4).setCell ⟨g,5,none⟩ v5).setCell ⟨g,6,none⟩ v6).setCell ⟨g,7,none⟩ v7).setCell ⟨g,8,none⟩ v8)
theorem Blk.nine {w:World} {g:Nat} {t:TypeId} {a0 a1 a2 a3 a4 a5 a6 a7 a8 v0 v1 v2 v3 v4 v5 v6 v7 v8:Value} (h:Blk w g t #[a0,a1,a2,a3,a4,a5,a6,a7,a8]):Blk (set9 w g v0 v1 v2 v3 v4 v5 v6 v7 v8) g t #[v0,v1,v2,v3,v4,v5,v6,v7,v8]:=by
 have h0:=h.set_ 0 v0;simp only[List.setIfInBounds_toArray,List.set_cons_zero] at h0;have h1:=h0.set_ 1 v1;simp only[List.setIfInBounds_toArray,List.set_cons_zero,List.set_cons_succ] at h1;have h2:=h1.set_ 2 v2;simp only[List.setIfInBounds_toArray,List.set_cons_zero,List.set_cons_succ] at h2;have h3:=h2.set_ 3 v3;simp only[List.setIfInBounds_toArray,List.set_cons_zero,List.set_cons_succ] at h3;have h4:=h3.set_ 4 v4;simp only[List.setIfInBounds_toArray,List.set_cons_zero,List.set_cons_succ] at h4;have h5:=h4.set_ 5 v5;simp only[List.setIfInBounds_toArray,List.set_cons_zero,List.set_cons_succ] at h5;have h6:=h5.set_ 6 v6;simp only[List.setIfInBounds_toArray,List.set_cons_zero,List.set_cons_succ] at h6;have h7:=h6.set_ 7 v7;simp only[List.setIfInBounds_toArray,List.set_cons_zero,List.set_cons_succ] at h7;have h8:=h7.set_ 8 v8;simp only[List.setIfInBounds_toArray,List.set_cons_zero,List.set_cons_succ] at h8;exact h8
theorem Blk.nineFar {w:World} {g g2:Nat} {t:TypeId} {cs:Array Value} {v0 v1 v2 v3 v4 v5 v6 v7 v8:Value} (h:Blk w g2 t cs) (hn:g2≠g):Blk (set9 w g v0 v1 v2 v3 v4 v5 v6 v7 v8) g2 t cs:=
 ((((((((h.far (p:=⟨g,0,none⟩) hn v0).far (p:=⟨g,1,none⟩) hn v1).far (p:=⟨g,2,none⟩) hn v2).far (p:=⟨g,3,none⟩) hn v3).far (p:=⟨g,4,none⟩) hn v4).far (p:=⟨g,5,none⟩) hn v5).far (p:=⟨g,6,none⟩) hn v6).far (p:=⟨g,7,none⟩) hn v7).far (p:=⟨g,8,none⟩) hn v8
theorem below9 {w w0:World} {B g:Nat} {v0 v1 v2 v3 v4 v5 v6 v7 v8:Value} (h:Below B w0 w) (hn:B≤g):Below B w0 (set9 w g v0 v1 v2 v3 v4 v5 v6 v7 v8):=
 ((((((((h.setCell (p:=⟨g,0,none⟩) hn v0).setCell (p:=⟨g,1,none⟩) hn v1).setCell (p:=⟨g,2,none⟩) hn v2).setCell (p:=⟨g,3,none⟩) hn v3).setCell (p:=⟨g,4,none⟩) hn v4).setCell (p:=⟨g,5,none⟩) hn v5).setCell (p:=⟨g,6,none⟩) hn v6).setCell (p:=⟨g,7,none⟩) hn v7).setCell (p:=⟨g,8,none⟩) hn v8
theorem keeps9 {w:World} {g:Nat} {v0 v1 v2 v3 v4 v5 v6 v7 v8:Value}:KeepsOthers w (set9 w g v0 v1 v2 v3 v4 v5 v6 v7 v8):=
 ((((((((KeepsOthers.setCell _ _ _).trans (KeepsOthers.setCell _ _ _)).trans (KeepsOthers.setCell _ _ _)).trans (KeepsOthers.setCell _ _ _)).trans (KeepsOthers.setCell _ _ _)).trans (KeepsOthers.setCell _ _ _)).trans (KeepsOthers.setCell _ _ _)).trans (KeepsOthers.setCell _ _ _)).trans (KeepsOthers.setCell _ _ _)
theorem Kept.putl {T1 T2:TypeId} {n₀ B:Nat} (hn:n₀≤B) (W:World) (l:Nat) (o o':Obj) (hl:B≤l) (h:W.heap[l]? = some o) (hc:o.isCells=false):Kept T1 T2 n₀ W (W.putObj l o'):=Kept.put o' (by omega) h hc
theorem Blk.putl {W:World} {g l:Nat} {t:TypeId} {cs:Array Value} {o:Obj} (o':Obj) (hb:Blk W g t cs) (hl:W.heap[l]? = some o) (ho:o.isCells=false):Blk (W.putObj l o') g t cs:=
 (World.putObj_heap_other (fun e=>by subst e;unfold Blk at hb;rw[hl] at hb;cases hb;cases ho)).trans hb
theorem c_impl_firstCase {lo hi:Nat} (v:Value) (a:Asn) (w:World) (h:AsnV w lo hi v a) (hhi:hi≤w.heap.size) (hv:a.valid=true) :
  Calls Tryz.prog 105 #[v] w fun e w'=>e=.returned (.tuple #[.agg (case9 ((cases a (caseS a 0)).head?.getD zeros)),.bool (!(cases a (caseS a 0)).isEmpty)])∧Below w.heap.size w w':=by
 have hV:=ax h;obtain ⟨A1,c1,A2,c2,rfl,-,-⟩:=h;refine (callsIn_wide (n:=3)).1 ?_;(refine callsIn_of_wp_marks Tryz.func105 rfl trivial ?_ rfl;simp only[Tryz.ntmps105,List.size_toArray,List.length_cons,List.length_nil,Nat.reduceAdd,Nat.reduceSub,Array.replicate_succ,Array.replicate_zero,List.push_toArray,List.append_toArray,List.nil_append,List.cons_append])
 gi_wp2_with fail
 refine ⟨trivial,(callsIn_wide.2 (c_impl_possibleCases A1 A2 c1 c2 a 0 _ (hV.o.bz bel) (by decide))).mono ?_⟩;rintro e w1 ⟨gA,gT,rfl,hA,hT,kA,kT,hB1⟩;have kR0:Blk w1 (w.heap.size+1) tTc #[.int .i64 0,.int .i64 0,.int .i64 0,.int .i64 0,.int .i64 0,.int .i64 0,.int .i64 0,.int .i64 0,.int .i64 0]:=Blk.nz blks hB1;have kR:Blk w1 (w.heap.size+1) tTc (case9 zeros):=kR0;clear kR0;have kO:Blk w1 (w.heap.size+1+1) 4 #[.bool false]:=Blk.nz blks hB1;have hB:Below w.heap.size w w1:=bgo (w:=w) bel hB1;have hz:=hB1.size;simp only[World.size_alloc] at hz hA hT;have hAw:=hV.o.bz hB;clear hB1
 gi_wp2_with fail
 refine wp_rangeT (gf:=219) (lb:=#[.pointer (some ⟨gA,0,none⟩),.pointer (some ⟨gT,0,none⟩)]) rfl (enters_of Tryz.func219 (by kernel_rfl) rfl)
  (c_seq (n₀:=w.heap.size) w1 hv (by decide) hAw hhi (by omega) kA kT) (fun h k=>h.trans k) (Kept.putl (by omega)) (Below.refl _ _) (fun _=>rfl)
  (fun pre W=>pre=[]∧Blk W (w.heap.size+1) tTc (case9 zeros)∧Blk W (w.heap.size+1+1) 4 #[.bool false]∧Below w.heap.size w W)
  (fun c pre W=>∃ x,c=.ret∧pre=[x]∧Blk W (w.heap.size+1) tTc (case9 x.1)∧Blk W (w.heap.size+1+1) 4 #[.bool true]∧Below w.heap.size w W)
  (fun s X Y row hs hg hr=>⟨hs.1,hs.2.1.turn hg hr (Or.inr (by omega)),hs.2.2.1.turn hg hr (Or.inr (by omega)),Below.turn hs.2.2.2 hg hr (by omega) hs.2.2.2.size⟩)
  (fun c s X Y row hs hg hr=>by
   obtain ⟨x,e1,e2,k1,k2,k3⟩:=hs
   exact ⟨x,e1,e2,k1.turn hg hr (Or.inr (by omega)),k2.turn hg hr (Or.inr (by omega)),Below.turn k3 hg hr (by omega) k3.size⟩)
  ⟨rfl,kR,kO,hB⟩ ?round ?done ?stop
 case round=>
  rintro l pre x W hl ⟨rfl,kR,kO,hB⟩ -;have hwz:=hB.size
  gi_wp2
  refine ⟨(KeepsOthers.alloc _ _).from _,Kept.alloc (by omega) _,fun o o' ho hc=>?_⟩;have kX:=(Blk.new W tTc (case9 x.1)).putl o' ho hc;have lO:=kO.lt;replace kR:=(kR.alloc (.cells (case9 x.1) tTc)).putl o' ho hc;replace kO:=(kO.alloc (.cells (case9 x.1) tTc)).putl o' ho hc;have hB':=(bbox hB (.cells (case9 x.1) tTc)).trans (Kept.put (T1:=tTc) (T2:=tAs) (n₀:=w.heap.size) o' (by omega) ho hc).bz;clear ho;obtain ⟨V,hVe⟩:∃ V,V=(W.alloc (.cells (case9 x.1) tTc)).putObj l o':=⟨_,rfl⟩;rw[←hVe] at kX kR kO hB' ⊢;clear hVe hB;obtain ⟨p0,p1,p2,p3,p4,p5,p6,p7,p8⟩:=case9_cells kX;obtain ⟨q0,q1,q2,q3,q4,q5,q6,q7,q8⟩:=case9_cells kR;have rR:=kR.frozen;have qO:=kO.cell 0;have rO:=kO.frozen
  gi_wp2
  refine ⟨(keeps9.trans (KeepsOthers.setCell _ _ _)).from _,x,rfl,rfl,?_,?_,?_⟩
  ·exact (Blk.nine kR).far (p:=⟨w.heap.size+1+1,0,none⟩) (by simp) _
  ·exact (kO.nineFar (by omega)).set_ 0 (.bool true)
  ·exact (below9 hB' (by omega)).setCell (p:=⟨w.heap.size+1+1,0,none⟩) (by simp only;omega) _
 case done=>
  rintro D ys W hD hS ⟨rfl,kR,kO,hB⟩ hK;have E:cases a (caseS a 0)=[]:=hS.symm;obtain ⟨q0,q1,q2,q3,q4,q5,q6,q7,q8⟩:=case9_cells kR;have rR:=kR.frozen;have qO:=kO.cell 0;have rO:=kO.frozen;have lO:=kO.lt;have lR:=kR.lt
  gi_wp2
  have zR:=(Blk.nine (v0:=.int .i64 0) (v1:=.int .i64 0) (v2:=.int .i64 0) (v3:=.int .i64 0) (v4:=.int .i64 0) (v5:=.int .i64 0) (v6:=.int .i64 0) (v7:=.int .i64 0) (v8:=.int .i64 0) kR).far (p:=⟨w.heap.size+1+1,0,none⟩) (by simp) (.bool false);have zO:=(kO.nineFar (g:=w.heap.size+1) (v0:=.int .i64 0) (v1:=.int .i64 0) (v2:=.int .i64 0) (v3:=.int .i64 0) (v4:=.int .i64 0) (v5:=.int .i64 0) (v6:=.int .i64 0) (v7:=.int .i64 0) (v8:=.int .i64 0) (by omega)).set_ 0 (.bool false);have zB:=(below9 (g:=w.heap.size+1) (v0:=.int .i64 0) (v1:=.int .i64 0) (v2:=.int .i64 0) (v3:=.int .i64 0) (v4:=.int .i64 0) (v5:=.int .i64 0) (v6:=.int .i64 0) (v7:=.int .i64 0) (v8:=.int .i64 0) hB (by omega)).setCell (p:=⟨w.heap.size+1+1,0,none⟩) (by simp only;omega) (.bool false);have zK:=((keeps9 (w:=W) (g:=w.heap.size+1) (v0:=.int .i64 0) (v1:=.int .i64 0) (v2:=.int .i64 0) (v3:=.int .i64 0) (v4:=.int .i64 0) (v5:=.int .i64 0) (v6:=.int .i64 0) (v7:=.int .i64 0) (v8:=.int .i64 0)).trans (KeepsOthers.setCell _ ⟨w.heap.size+1+1,0,none⟩ (.bool false))).same D _ hK rfl;obtain ⟨V,hVe⟩:∃ V,V=((set9 W (w.heap.size+1) (.int .i64 0) (.int .i64 0) (.int .i64 0) (.int .i64 0) (.int .i64 0) (.int .i64 0) (.int .i64 0) (.int .i64 0) (.int .i64 0)).setCell ⟨w.heap.size+1+1,0,none⟩ (.bool false)):=⟨_,rfl⟩;rw[←hVe] at zR zO zB zK ⊢;refine ⟨by simp,.inl ⟨_,_,rfl,run_takeDeferred zK,?_⟩⟩;have yR:Blk _ _ _ (case9 zeros):=zR.putl (.deferred none) zK rfl;have yO:=zO.putl (.deferred none) zK rfl;obtain ⟨p0,p1,p2,p3,p4,p5,p6,p7,p8⟩:=case9_cells yR;have pO:=yO.cell 0;refine ⟨.tuple #[.agg (case9 zeros),.bool false],?_,by rw[E];rfl,zB.trans (belowK_b (w:=w) (Nat.le_refl _) V D _ _ (by omega) zK rfl rfl)⟩;simp[results,Tryz.f105,go_sem,p0,p1,p2,p3,p4,p5,p6,p7,p8,pO]
 case stop=>
  rintro D c pre W hD hS ⟨x,rfl,rfl,kR,kO,hB⟩ hK;obtain ⟨q0,q1,q2,q3,q4,q5,q6,q7,q8⟩:=case9_cells kR;have qO:=kO.cell 0;have lO:=kO.lt;have lR:=kR.lt
  gi_wp2
  refine ⟨by simp,.inl ⟨_,_,rfl,run_takeDeferred hK,?_⟩⟩;have yR:=kR.putl (.deferred none) hK rfl;have yO:=kO.putl (.deferred none) hK rfl;obtain ⟨p0,p1,p2,p3,p4,p5,p6,p7,p8⟩:=case9_cells yR;have pO:=yO.cell 0;have E:=head_pre hS;refine ⟨.tuple #[.agg (case9 x.1),.bool true],?_,by rw[E.1,E.2];rfl,hB.trans (belowK_b (w:=w) (Nat.le_refl _) W D _ _ (by omega) hK rfl rfl)⟩;simp[results,Tryz.f105,go_sem,p0,p1,p2,p3,p4,p5,p6,p7,p8,pO]
theorem c_impl_Consistent {lo hi:Nat} (v:Value) (a:Asn) (w:World) (h:AsnV w lo hi v a) (hhi:hi≤w.heap.size) :
  Calls Tryz.prog 203 #[v] w fun e w'=>e=.returned (.bool (a.valid && !(cases a (caseS a 0)).isEmpty))∧Below w.heap.size w w':=by
 have hV:=ax h;obtain ⟨A1,c1,A2,c2,rfl,-,-⟩:=h;(go_enter Tryz.func203,Tryz.ntmps203);(go_wp2_with fail);refine (c_impl_AssertionValid _ a _ (hV.o.bz bel)).mono ?_;rintro e w1 ⟨rfl,hB1⟩;have k0:Blk w1 w.heap.size tAs #[.slice A1 a.facts.length c1,.slice A2 a.atoms.length c2]:=Blk.nz blks hB1;have hB:Below w.heap.size w w1:=bgo (w:=w) bel hB1;have hz:=hB1.size;simp only[World.size_alloc] at hz;clear hB1;have q0:=k0.cell;have l0:=k0.lt;cases hv:a.valid
 ·(go_wp2_with fail);go_ret;exact ⟨ret_bool (by simp[hv]),hB⟩
 ·have HV:=ax hv;(go_wp2_with fail);refine (c_impl_firstCase _ a _ (hV.o.bz hB) (by omega) HV.o).mono ?_;rintro e w2 ⟨rfl,hB2⟩;(go_wp2_with fail);go_ret;exact ⟨ret_bool (by simp[hv]),bbox (bgo hB hB2) _⟩
end
section
open Go
def fillM (M:Int→Int) (x:Atm):Bool:=decide (x.kind=1) || !decide (M x.a=M x.b)
structure Sat (M:Int→Int) (a:Asn):Prop where
 facts:∀ f∈a.facts,decide (M f.a=M f.b)=f.eq
 nil:∀ x∈a.atoms,fillM M x=true→M x.a≠M 0
 apart:((a.atoms.filter (fillM M)).map fun x=>M x.a).Nodup
theorem case_zero {a:Asn} {S:Nat} (hS:S.testBit 0=true) {d:List Int} (h:d∈cases a S):cl d 0=0:=by
 unfold cases at h;have hd:=(List.mem_filter.1 h).1;have:=((gen_ok S 9 zeros d (by omega) rfl hd).2.2 0 (by omega) (by omega)).1 hS;have h2:cl d ((0:Nat):Int)=cl d 0:=rfl;omega
theorem inLast_fillM {x:Atm} {c:List Int} (h:(0≤x.a∧x.a≤8)∧(0≤x.b∧x.b≤8)):inLast c 8 x=fillM (cl c) x:=by
 unfold inLast fillM Atm.fill;rw[decide_eq_true h.1.2,decide_eq_true h.2.2];rfl
theorem case_sat {a:Asn} (hv:a.valid=true) {S:Nat} (hS:S.testBit 0=true) {d:List Int} (h:d∈cases a S):Sat (cl d) a:=by
 have h0:=case_zero hS h;have hok:=Asn.valid_ok hv;unfold cases at h;have hf:=(List.mem_filter.1 h).2;have hp:=hf;rw[full_poss hok.1 hok.2] at hp;unfold poss at hp;unfold full at hf;rw[Bool.and_eq_true] at hf hp;have hA:=(possA_iff _ _ _ _).1 hp.2;refine ⟨fun f hm=>?_,fun x hm hfi=>?_,?_⟩
 ·have:=List.all_eq_true.1 hf.1 f hm;unfold Fct.fits at this;exact eq_of_beq this
 ·rw[h0];exact (hA.1 x hm (by rw[inLast_fillM (hok.2 x hm)];exact hfi)).1
 ·rw[←List.filter_congr fun x hm=>inLast_fillM (hok.2 x hm)];exact hA.2
def leastM (M:Int→Int) (S j:Nat):Nat:=((List.range (j+1)).find? fun k=>S.testBit k&&decide (M (k:Int)=M (j:Int))).getD j
def canon (M:Int→Int) (S:Nat):List Int:=(List.range 9).map fun j=>if S.testBit j then ((leastM M S j:Nat):Int) else -1
theorem least_spec {M:Int→Int} {S j:Nat} (hj:S.testBit j=true):leastM M S j≤j∧S.testBit (leastM M S j)=true∧M (leastM M S j:Nat)=M j∧∀ k,k<leastM M S j→S.testBit k=true→M (k:Nat)≠M j:=by
 unfold leastM
 cases h:(List.range (j+1)).find? fun k=>S.testBit k&&decide (M (k:Int)=M (j:Int)) with
 | none=>
  have:=List.find?_eq_none.1 h j (by simp);simp[hj] at this
 | some k=>
  obtain ⟨h1,h2,h3⟩:=List.find?_range_eq_some.1 h;simp only[Bool.and_eq_true,decide_eq_true_eq] at h1;refine ⟨by have:=List.mem_range.1 h2;simp only[Option.getD_some];omega,h1.1,h1.2,fun i hi hb e=>?_⟩;have:=h3 i hi;simp[hb,e] at this
theorem least_eq {M:Int→Int} {S i j:Nat} (hi:S.testBit i=true) (hj:S.testBit j=true):leastM M S i=leastM M S j↔M (i:Nat)=M (j:Nat):=by
 have h1:=least_spec (M:=M) hi;have h2:=least_spec (M:=M) hj;constructor
 ·intro e;rw[←h1.2.2.1,e,h2.2.2.1]
 ·intro e;rcases Nat.lt_trichotomy (leastM M S i) (leastM M S j) with h|h|h
  ·exact absurd (h1.2.2.1.trans e) (h2.2.2.2 _ h h1.2.1)
  ·exact h
  ·exact absurd (h2.2.2.1.trans e.symm) (h1.2.2.2 _ h h2.2.1)
theorem canon_length (M:Int→Int) (S:Nat):(canon M S).length=9:=by simp[canon]
theorem cl_canon {M:Int→Int} {S j:Nat} (hj:j<9):cl (canon M S) (j:Int)=if S.testBit j then ((leastM M S j:Nat):Int) else -1:=by
 unfold cl canon;rw[Int.toNat_natCast,List.getElem?_map,List.getElem?_range hj];rfl
theorem canon_gen (M:Int→Int) (S:Nat):∀ (n:Nat) (c:List Int),n≤9→c.length=9→(∀ j:Nat,j<9 - n→cl c j=cl (canon M S) j)→canon M S∈gen S n c:=by
 intro n
 induction n with
 | zero=>
  intro c _ hc h;unfold gen;rw[List.mem_singleton];apply List.ext_getElem (by rw[hc];exact canon_length M S);intro j h1 h2;have:=h j (by omega);simpa [cl,List.getElem?_eq_getElem h1,List.getElem?_eq_getElem h2] using this.symm
 | succ n ih=>
  intro c hn hc h;unfold gen;cases e:S.testBit (8 - n)
  ·simp only[Bool.false_eq_true,if_false];refine ih _ (by omega) (by simpa using hc) fun j hj=>?_;rw[cl_set hc (by omega) _ (by omega)]
   split
   ·rename_i hj';have:j=8 - n:=by omega
    subst this;rw[cl_canon (by omega),e];rfl
   ·exact h j (by omega)
  ·rw[if_pos rfl,List.mem_flatMap];have hl:=least_spec (M:=M) e;refine ⟨leastM M S (8 - n),by rw[List.mem_range];omega,?_⟩;rw[if_neg]
   ·refine ih _ (by omega) (by simpa using hc) fun j hj=>?_;rw[cl_set hc (by omega) _ (by omega)]
    split
    ·rename_i hj';have:j=8 - n:=by omega
     subst this;rw[cl_canon (by omega),e];rfl
    ·exact h j (by omega)
   ·rintro ⟨hlt,hne⟩;apply hne;rw[h _ (by omega),cl_canon (by omega),hl.2.1,if_pos rfl]
    congr 1
    exact (least_eq hl.2.1 e).2 hl.2.2.1
theorem cl_canon_eq {M:Int→Int} {S:Nat} {s t:Int} (hs:(0≤s∧s≤8)∧S.testBit s.toNat=true) (ht:(0≤t∧t≤8)∧S.testBit t.toNat=true):cl (canon M S) s=cl (canon M S) t↔M s=M t:=by
 obtain ⟨i,rfl⟩:=Int.eq_ofNat_of_zero_le hs.1.1;obtain ⟨j,rfl⟩:=Int.eq_ofNat_of_zero_le ht.1.1;rw[Int.toNat_natCast] at hs ht;rw[cl_canon (by omega),cl_canon (by omega),hs.2,ht.2,if_pos rfl,if_pos rfl,Int.natCast_inj];exact least_eq hs.2 ht.2
theorem sat_case {a:Asn} (hv:a.valid=true) {S:Nat} (h0:S.testBit 0=true) (hS:∀ t∈termsL a,S.testBit t.toNat=true) {M:Int→Int} (h:Sat M a):canon M S∈cases a S:=by
 have hok:=Asn.valid_ok hv;have hF:∀ f∈a.facts,S.testBit f.a.toNat=true∧S.testBit f.b.toNat=true:=fun f hf=>⟨hS _ (termsL_facts hf).1,hS _ (termsL_facts hf).2⟩
 have hX:∀ x∈a.atoms,S.testBit x.a.toNat=true∧S.testBit x.b.toNat=true:=fun x hx=>by
  have:x.a∈termsL a∧x.b∈termsL a:=by
   simp only[termsL,List.mem_append,List.mem_flatMap];exact ⟨Or.inr ⟨x,hx,by simp[atomT]⟩,Or.inr ⟨x,hx,by simp[atomT]⟩⟩
  exact ⟨hS _ this.1,hS _ this.2⟩
 have hfill:∀ x∈a.atoms,inLast (canon M S) 8 x=fillM M x:=fun x hx=>by
  rw[inLast_fillM (hok.2 x hx)];unfold fillM
  congr 2
  rw[decide_eq_decide];exact cl_canon_eq ⟨(hok.2 x hx).1,(hX x hx).1⟩ ⟨(hok.2 x hx).2,(hX x hx).2⟩
 unfold cases;rw[List.mem_filter];refine ⟨canon_gen M S 9 zeros (by omega) rfl (fun j hj=>by omega),?_⟩;rw[full_poss hok.1 hok.2];unfold poss;rw[Bool.and_eq_true];constructor
 ·unfold possF;rw[List.all_eq_true];intro f hf
  have:f.fits (canon M S)=true:=by
   unfold Fct.fits;rw[beq_iff_eq,←h.facts f hf,decide_eq_decide];exact cl_canon_eq ⟨(hok.1 f hf).1,(hF f hf).1⟩ ⟨(hok.1 f hf).2,(hF f hf).2⟩
  rw[this];simp
 ·rw[possA_iff];refine ⟨fun x hx hi=>⟨fun e=>?_,by simp⟩,?_⟩
  ·rw[hfill x hx] at hi;refine h.nil x hx hi ((cl_canon_eq (S:=S) (t:=0) ⟨(hok.2 x hx).1,(hX x hx).1⟩ ⟨⟨by omega,by omega⟩,h0⟩).1 ?_);rw[e];have:=cl_canon (M:=M) (S:=S) (j:=0) (by omega);rw[h0,if_pos rfl] at this;have hl:=(least_spec (M:=M) h0).1;have h3:leastM M S 0=0:=by omega
   rw[h3] at this;exact this.symm
  ·rw[List.filter_congr hfill];have h3:=h.apart;unfold List.Nodup at h3 ⊢;rw[List.pairwise_map] at h3 ⊢;refine List.Pairwise.imp_of_mem ?_ h3;intro x y hx hy hxy e;have hx':=(List.mem_filter.1 hx).1;have hy':=(List.mem_filter.1 hy).1;exact hxy ((cl_canon_eq ⟨(hok.2 x hx').1,(hX x hx').1⟩ ⟨(hok.2 y hy').1,(hX y hy').1⟩).1 e)
def consB (a:Asn):Bool:=a.valid && !(cases a (caseS a 0)).isEmpty
theorem consB_iff {a:Asn}:consB a=true↔a.valid=true∧∃ M,Sat M a:=by
 unfold consB;rw[Bool.and_eq_true];constructor
 ·rintro ⟨hv,h⟩;refine ⟨hv,?_⟩
  cases e:cases a (caseS a 0) with
  | nil=>rw[e] at h;cases h
  | cons d ds=>exact ⟨cl d,case_sat hv (caseS_zero a 0) (by rw[e];exact List.mem_cons_self)⟩
 ·rintro ⟨hv,M,h⟩;refine ⟨hv,?_⟩;have:=sat_case hv (caseS_zero a 0) (caseS_terms hv 0) h
  cases e:cases a (caseS a 0) with
  | nil=>rw[e] at this;cases this
  | cons d ds=>rfl
/-! tidying -/
theorem swp_val {M:Int→Int} {x t:Int} (h:M x=M t) (s:Int):M (swp x t s)=M s:=by
 unfold swp;split
 ·rename_i e;rw[e,h]
 ·rfl
theorem Sat.subst {M:Int→Int} {a:Asn} (h:Sat M a) {x t:Int} (e:M x=M t):Sat M (substA x t a):=by
 have hfill:∀ z:Atm,fillM M (z.sub x t)=fillM M z:=fun z=>by
  unfold fillM Atm.sub;simp only[swp_val e]
 refine ⟨fun f hf=>?_,fun y hy hfi=>?_,?_⟩
 ·obtain ⟨g,hg,rfl⟩:=List.mem_map.1 hf;simp only[Fct.sub,swp_val e];exact h.facts g hg
 ·obtain ⟨z,hz,rfl⟩:=List.mem_map.1 hy;rw[hfill] at hfi;simp only[Atm.sub,swp_val e];exact h.nil z hz hfi
 ·have h3:=h.apart;simp only[substA,List.filter_map,List.map_map];rw[List.filter_congr (q:=fillM M) fun z _=>by simp[hfill]]
  have e2:((fun y:Atm=>M y.a)∘Atm.sub x t)=fun y:Atm=>M y.a:=by
   funext z;simp only[Function.comp,Atm.sub,swp_val e]
  rw[e2];exact h3
theorem Sat.less {M:Int→Int} {a:Asn} (h:Sat M a) {fs:List Fct} {xs:List Atm} (hf:∀ f∈fs,f∈a.facts) (hx:xs.Sublist a.atoms):Sat M ⟨fs,xs⟩:=
 ⟨fun f hm=>h.facts f (hf f hm),fun x hm=>h.nil x (hx.subset hm),h.apart.sublist ((hx.filter _).map _)⟩
theorem nfold_mem (fs:List Fct):∀ (acc:List Fct) (g:Fct),g∈fs.foldl nfStep acc→g∈acc∨∃ f∈fs,g=nfF f:=by
 induction fs with
 | nil=>intro acc g h;exact Or.inl h
 | cons f fs ih=>
  intro acc g h;rw[List.foldl_cons] at h;rcases ih _ _ h with h|⟨f',hf',e⟩
  ·unfold nfStep at h
   split at h
   ·exact Or.inl h
   ·split at h
    ·exact Or.inl h
    ·rcases List.mem_append.1 h with h|h
     ·exact Or.inl h
     ·exact Or.inr ⟨f,List.mem_cons_self,List.mem_singleton.1 h⟩
  ·exact Or.inr ⟨f',List.mem_cons_of_mem _ hf',e⟩
theorem Sat.normal {M:Int→Int} {a:Asn} (h:Sat M a):Sat M (normalF a):=by
 have hs:=h.less (fs:=[]) (xs:=a.atoms.filter nfA) (fun _ hf=>by cases hf) List.filter_sublist;refine ⟨fun g hg=>?_,hs.nil,hs.apart⟩;rcases nfold_mem _ _ _ hg with h1|⟨f,hf,rfl⟩
 ·cases h1
 ·have:=h.facts f hf;unfold nfF
  split
  ·simp only[];rw[←this,decide_eq_decide];exact eq_comm
  ·exact this
end
section
open Go Go.RowKit
def caseAt (M:Int→Int) (S j:Nat):Int:=if S.testBit j then ((leastM M S j:Nat):Int) else -1
theorem canon_ext {M:Int→Int} {S:Nat} {d:List Int} (hd:d.length=9) (h:∀ j:Nat,j<9→cl d j=caseAt M S j):d=canon M S:=by
 apply List.ext_getElem (by rw[hd,canon_length]);intro j h1 h2;have e:=h j (by omega);rw[show caseAt M S j=cl (canon M S) j from (cl_canon (by omega)).symm] at e;simpa [cl,List.getElem?_eq_getElem h1,List.getElem?_eq_getElem h2] using e
theorem least_is {M:Int→Int} {S k t:Nat} (hk:S.testBit k=true) (ht:S.testBit t=true) (hm:M (k:Int)=M (t:Int)) (hn:∀ j,j<k→S.testBit j=true→M (j:Int)≠M (t:Int)):leastM M S t=k:=by
 have h:=least_spec (M:=M) ht;rcases Nat.lt_trichotomy (leastM M S t) k with h1|h1|h1
 ·exact absurd h.2.2.1 (hn _ h1 h.2.1)
 ·exact h1
 ·exact absurd hm (h.2.2.2 _ h1 hk)
theorem gen_idem (S:Nat):∀ (n:Nat) (c d:List Int),n≤9→c.length=9→d∈gen S n c→∀ j:Nat,9 - n≤j→j<9→S.testBit j=true→cl d (cl d j)=cl d j:=by
 intro n
 induction n with
 | zero=>intro c d _ _ _ j h1 h2;omega
 | succ n ih=>
  intro c d hn hc hd j h1 h2 hj;unfold gen at hd;cases e:S.testBit (8 - n)
  ·rw[e] at hd;simp only[Bool.false_eq_true,if_false] at hd;by_cases ej:j=8 - n
   ·subst ej;rw[e] at hj;cases hj
   ·exact ih _ _ (by omega) (by simpa using hc) hd j (by omega) h2 hj
  ·rw[e,if_pos rfl,List.mem_flatMap] at hd;obtain ⟨k,hk,hd⟩:=hd;rw[List.mem_range] at hk
   split at hd
   ·cases hd
   ·rename_i hne;by_cases ej:j=8 - n
    ·have hA:=(gen_ok S n _ _ (by omega) (by simpa using hc) hd).2.1;have e1:cl d (j:Int)=k:=by rw[hA j (by omega) (by omega),cl_set hc (by omega) _ (by omega),if_pos (by omega)]
     rw[e1,hA k (by omega) (by omega),cl_set hc (by omega) _ (by omega)]
     split
     ·rfl
     ·rename_i hkn;by_cases h3:cl c k=k
      ·exact h3
      ·exact absurd ⟨by omega,h3⟩ hne
    ·exact ih _ _ (by omega) (by simpa using hc) hd j (by omega) h2 hj
theorem least_self {S:Nat} {cs:List Int} (hL:∀ j:Nat,j<9→(S.testBit j=true→(0≤cl cs j∧cl cs j≤j)∧cl cs (cl cs j)=cl cs j)∧(S.testBit j=false→cl cs j = -1)) {j:Nat} (hj:j<9) (hb:S.testBit j=true):((leastM (cl cs) S j:Nat):Int)=cl cs j:=by
 have h:=(hL j hj).1 hb;obtain ⟨k,hk⟩:=Int.eq_ofNat_of_zero_le h.1.1;have hkj:k≤j:=by omega
 have hkb:S.testBit k=true:=by
  cases e:S.testBit k
  ·have h2:=(hL k (by omega)).2 e;have h3:=h.2;rw[hk,h2] at h3;omega
  ·rfl
 rw[least_is (k:=k) hkb hb (by rw[←hk];exact h.2) (fun i hi hib=>by
  have h2:=((hL i (by omega)).1 hib).1.2
  omega),hk]
theorem case_iff {a:Asn} {S:Nat} {cs:List Int}:cs∈cases a S↔cs.length=9∧(∀ j:Nat,j<9→(S.testBit j=true→(0≤cl cs j∧cl cs j≤j)∧cl cs (cl cs j)=cl cs j)∧(S.testBit j=false→cl cs j = -1))∧full a cs=true:=by
 constructor
 ·intro h;have hgen:cs∈gen S 9 zeros:=(List.mem_filter.1 h).1;have hg:=gen_ok _ 9 zeros cs (by omega) rfl hgen;refine ⟨hg.1,fun j hj=>⟨fun hb=>⟨(hg.2.2 j (by omega) hj).1 hb,gen_idem _ 9 zeros cs (by omega) rfl hgen j (by omega) hj hb⟩,fun hb=>(hg.2.2 j (by omega) hj).2 hb⟩,(List.mem_filter.1 h).2⟩
 ·rintro ⟨h1,h2,h3⟩;refine List.mem_filter.2 ⟨?_,h3⟩
  have e:cs=canon (cl cs) S:=canon_ext h1 fun j hj=>by
   unfold caseAt;cases hb:S.testBit j
   ·exact (h2 j hj).2 hb
   ·rw[if_pos rfl,least_self h2 hj hb]
  have:=canon_gen (cl cs) S 9 zeros (by omega) rfl (fun j hj=>absurd hj (by omega))
  rwa [←e] at this
end
section
open Go Go.RowKit Go.Proofs
abbrev RowT:=List Fct ⊕ List Atm
def rlen:RowT→Nat | .inl fs=>fs.length | .inr xs=>xs.length
def RowO (w:World) (base:Nat) (v:Value):RowT→Prop | .inl fs=>FactsO w base v fs | .inr xs=>AtomsO w base v xs
def RowV (w:World) (lo hi:Nat) (A:Option Addr):RowT→Prop | .inl fs=>FactsV w lo hi A fs | .inr xs=>AtomsV w lo hi A xs
section
variable {w w':World} {base base' lo hi:Nat} {v:Value} {A:Option Addr}
theorem RowO.bz {r:RowT} (h:RowO w base v r) (hb:Below w.heap.size w w'):RowO w' base v r:=by cases r;exact FactsO.bz h hb;exact AtomsO.bz h hb
theorem RowO.lower {r:RowT} (h:RowO w base v r) (hb:base'≤base):RowO w base' v r:=by cases r;exact FactsO.lower h hb;exact AtomsO.lower h hb
theorem RowO.setT {r:RowT} (h:RowO w base v r) {g:Nat} {t:TypeId} {cs:Array Value} (hk:Blk w g t cs) (h1:t≠tF) (h2:t≠tA) (i:Nat) (u:Value):RowO (w.setCell ⟨g,i,none⟩ u) base v r:=by cases r;exact FactsO.setT h hk h1 i u;exact AtomsO.setT h hk h2 i u
theorem RowO.lt {r:RowT} (h:RowO w base v r):∀ g,v.ownBlock=some g→base≤g∧g<w.heap.size:=by cases r;exact h.1.lt;exact h.1.lt
theorem RowO.mk {p:Nat→Prop} {r:RowT} (h:RowO w base v r) (hb:Mk p w w') (hp:∀ g,v.ownBlock=some g→¬p g):RowO w' base v r:=by cases r;exact FactsO.mk h hb hp;exact AtomsO.mk h hb hp
theorem RowO.grown {r:RowT} (h:RowO w base v r) {e:TypeId} {b s n:Nat} {v':Value} {xs:List Value} (h':w.ownsRow b e s v' n xs) (hg:w.grownBy w' v'.ownBlock) (h1:tF≠e) (h2:tA≠e):RowO w' base v r:=by
 cases r
 ·exact ⟨own_grownO h.1 h' hg h1,h.2⟩
 ·exact ⟨own_grownO h.1 h' hg h2,h.2⟩
theorem RowO.turn {T:TypeId} {B:Nat} {row:Option Nat} {r:RowT} (h:RowO w base v r) (hg:w.grownBy w' row) (hr:Turn T B w row) (h1:tF≠T) (h2:tA≠T):RowO w' base v r:=by
 cases r
 ·exact ⟨own_turn h.1 hg hr h1,h.2⟩
 ·exact ⟨own_turn h.1 hg hr h2,h.2⟩
theorem RowO.reads {r:RowT} (h:RowO w base v r):∃ B c,v=.slice B (rlen r) c∧RowV w base w.heap.size B r:=by
 cases r
 ·obtain ⟨B,c,e,h1⟩:=FactsO.reads h;exact ⟨B,c,e,h1⟩
 ·obtain ⟨B,c,e,h1⟩:=AtomsO.reads h;exact ⟨B,c,e,h1⟩
theorem RowV.bz {r:RowT} (h:RowV w lo hi A r) (hb:Below w.heap.size w w'):RowV w' lo hi A r:=by cases r;exact FactsV.bz h hb;exact AtomsV.bz h hb
end
def totR (rs:List RowT):Nat:=(rs.map fun r=>3 * rlen r).sum
theorem totR_cons (r:RowT) (rs:List RowT):totR (r :: rs)=3 * rlen r+totR rs:=by simp[totR]
def rowsA (ss:List Asn):List RowT:=ss.flatMap fun s=>[.inl s.facts,.inr s.atoms]
theorem rowsA_len:∀ (ss:List Asn),(rowsA ss).length=ss.length * 2
 | []=>rfl
 | s :: ss=>by
  have:=rowsA_len ss;simp only[rowsA,List.flatMap_cons,List.length_append,List.length_cons,List.length_nil] at this ⊢;omega
theorem rowsA_get:∀ (ss:List Asn) (k:Nat) (hk:k<ss.length),(rowsA ss)[k*2]? = some (.inl ss[k].facts)∧(rowsA ss)[k*2+1]? = some (.inr ss[k].atoms)
 | s :: ss,0,_=>by simp[rowsA]
 | s :: ss,k+1,hk=>by
  have h1:=rowsA_get ss k (by simpa using hk);have e:rowsA (s :: ss)=[.inl s.facts,.inr s.atoms]++rowsA ss:=rfl;rw[e,List.getElem?_append_right (by simp;omega),List.getElem?_append_right (by simp;omega)];simp only[List.length_cons,List.length_nil,List.getElem_cons_succ];rw[show (k+1) * 2 - (0+1+1)=k * 2 by omega,show (k+1) * 2+1 - (0+1+1)=k * 2+1 by omega];exact h1
theorem rowsA_append (ss ts:List Asn):rowsA (ss++ts)=rowsA ss++rowsA ts:=by simp[rowsA]
def totA (ss:List Asn):Nat:=totR (rowsA ss)
theorem totA_cons (s:Asn) (ss:List Asn):totA (s :: ss)=3 * s.facts.length+3 * s.atoms.length+totA ss:=by
 have e:rowsA (s :: ss)=.inl s.facts :: .inr s.atoms :: rowsA ss:=rfl;unfold totA;rw[e,totR_cons,totR_cons];simp only[rlen];omega
theorem totA_le {n m:Nat}:∀ {ss:List Asn},(∀ s∈ss,s.facts.length≤n∧s.atoms.length≤m)→totA ss≤ss.length * (3 * n+3 * m)
 | [],_=>by simp[totA,totR,rowsA]
 | s :: ss,h=>by
  have h1:=totA_le (ss:=ss) fun x hx=>h x (List.mem_cons_of_mem _ hx);have h2:=h s (List.mem_cons_self ..);rw[totA_cons,List.length_cons,Nat.add_mul,Nat.one_mul];omega
structure AEls (w:World) (base:Nat) (vs:List Value) (ss:List Asn):Prop where
 len:vs.length=(rowsA ss).length
 at_:∀ (k:Nat) (h:k<vs.length) (h':k<(rowsA ss).length),RowO w base vs[k] (rowsA ss)[k]
 apart:∀ (i j:Nat) (hi:i<vs.length) (hj:j<vs.length),i<j→∀ g,vs[i].ownBlock=some g→vs[j].ownBlock≠some g
structure A2O (w:World) (base:Nat) (v:Value) (vs:List Value) (ss:List Asn):Prop where
 row:w.ownsRow base tAs 2 v ss.length vs
 lim:Lim ss.length
 els:AEls w base vs ss
theorem infoAs2:(Tryz.prog.info? tAs).map (fun i=>(i.zero,i.size,i.bytes))=some (some (.agg #[.slice none 0 0,.slice none 0 0]),2,48):=by kernel_rfl
section
variable {w w':World} {base base' mid:Nat} {v:Value} {vs vs2:List Value} {ss ss2:List Asn}
theorem AEls.bz (h:AEls w base vs ss) (hb:Below w.heap.size w w'):AEls w' base vs ss:=⟨h.len,fun k h1 h2=>(h.at_ k h1 h2).bz hb,h.apart⟩
theorem AEls.lower (h:AEls w base vs ss) (hb:base'≤base):AEls w base' vs ss:=⟨h.len,fun k h1 h2=>(h.at_ k h1 h2).lower hb,h.apart⟩
theorem AEls.setT (h:AEls w base vs ss) {g:Nat} {t:TypeId} {cs:Array Value} (hk:Blk w g t cs) (h1:t≠tF) (h2:t≠tA) (i:Nat) (u:Value):AEls (w.setCell ⟨g,i,none⟩ u) base vs ss:=⟨h.len,fun k a b=>(h.at_ k a b).setT hk h1 h2 i u,h.apart⟩
theorem AEls.grown (h:AEls w base vs ss) {e:TypeId} {b s n:Nat} {v':Value} {xs:List Value} (h':w.ownsRow b e s v' n xs) (hg:w.grownBy w' v'.ownBlock) (h1:tF≠e) (h2:tA≠e):AEls w' base vs ss:=⟨h.len,fun k a b=>(h.at_ k a b).grown h' hg h1 h2,h.apart⟩
theorem AEls.turn {T:TypeId} {B:Nat} {row:Option Nat} (h:AEls w base vs ss) (hg:w.grownBy w' row) (hr:Turn T B w row) (h1:tF≠T) (h2:tA≠T):AEls w' base vs ss:=⟨h.len,fun k a b=>(h.at_ k a b).turn hg hr h1 h2,h.apart⟩
theorem AEls.nil (w:World) (base:Nat):AEls w base [] []:=⟨rfl,fun k h=>absurd h (by simp),fun i j h=>absurd h (by simp)⟩
theorem AEls.und (h:AEls w base vs ss):∀ (k:Nat) (hk:k<vs.length),Und vs[k] w.heap.size:=fun k hk g hg=>((h.at_ k hk (by rw[←h.len];exact hk)).lt g hg).2
theorem AEls.one {s1 s2:Value} {s:Asn} (h:AsnO w base (.agg #[s1,s2]) s):AEls w base [s1,s2] [s]:=by
 obtain ⟨_,_,e,n1,n2⟩:=h;injection e with e;injection e with e;injection e with e1 e2;injection e2 with e2 e3;subst e1 e2;refine ⟨rfl,fun k h1 h2=>?_,fun i j hi hj hij g hgi hgj=>?_⟩
 ·have hk:k=0∨k=1:=by simp at h1;omega
  rcases hk with rfl|rfl
  ·exact n1
  ·exact n2
 ·have:i=0∧j=1:=by simp at hj;omega
  obtain ⟨rfl,rfl⟩:=this;exact own_ne n1.1 n2.1 (by decide) g hgi hgj
theorem AEls.cat (h:AEls w base vs ss) (h2:AEls w mid vs2 ss2) (hb:base≤mid) (hu:∀ (k:Nat) (hk:k<vs.length),Und vs[k] mid):AEls w base (vs++vs2) (ss++ss2):=by
 have er:=rowsA_append ss ss2;have hlen:=h.len;refine ⟨by rw[er,List.length_append,List.length_append,h.len,h2.len],fun k k1 k2=>?_,fun i j hi hj hij g hgi hgj=>?_⟩
 ·by_cases e:k<vs.length
  ·have e':k<(rowsA ss).length:=by omega
   simp only[er,List.getElem_append,e,e',dite_true];exact h.at_ k e e'
  ·have e':¬k<(rowsA ss).length:=by omega
   simp only[er,List.getElem_append,e,e',dite_false];have l1:k - vs.length<vs2.length:=by simp at k1;omega
   have l2:k - (rowsA ss).length<(rowsA ss2).length:=by rw[er] at k2;simp at k2;omega
   have:=h2.at_ (k - vs.length) l1 (by rw[←h2.len];exact l1);have e3:k - vs.length=k - (rowsA ss).length:=by omega
   simp only[e3] at this ⊢;exact this.lower hb
 ·by_cases ej:j<vs.length
  ·have ei:i<vs.length:=by omega
   simp only[List.getElem_append,ei,ej,dite_true] at hgi hgj;exact h.apart i j ei ej hij g hgi hgj
  ·have lj:j - vs.length<vs2.length:=by simp at hj;omega
   by_cases ei:i<vs.length
   ·simp only[List.getElem_append,ei,ej,dite_true,dite_false] at hgi hgj;have e1:=hu i ei g hgi;have e2:=((h2.at_ (j - vs.length) lj (by rw[←h2.len];exact lj)).lt g hgj).1;omega
   ·simp only[List.getElem_append,ei,ej,dite_false] at hgi hgj;exact h2.apart (i - vs.length) (j - vs.length) (by omega) lj (by omega) g hgi hgj
theorem A2O.bz (h:A2O w base v vs ss) (hb:Below w.heap.size w w'):A2O w' base v vs ss:=⟨own_below h.row hb,h.lim,h.els.bz hb⟩
theorem A2O.lower (h:A2O w base v vs ss) (hb:base'≤base):A2O w base' v vs ss:=⟨own_lower h.row hb,h.lim,h.els.lower hb⟩
theorem A2O.setT (h:A2O w base v vs ss) {g:Nat} {t:TypeId} {cs:Array Value} (hk:Blk w g t cs) (h0:t≠tAs) (h1:t≠tF) (h2:t≠tA) (i:Nat) (u:Value):A2O (w.setCell ⟨g,i,none⟩ u) base v vs ss:=
 ⟨own_setT h.row hk h0 i u,h.lim,h.els.setT hk h1 h2 i u⟩
theorem A2O.nil (w:World) (base:Nat):A2O w base (.slice none 0 0) [] []:=⟨World.ownsRow_nil _ _ _ _,by simp[Lim],AEls.nil _ _⟩
theorem A2O.empty (w:World) {g:Nat} (hg:g=w.heap.size):A2O (w.alloc (.cells #[] tAs)) g (.slice (some ⟨g,0,none⟩) 0 0) [] []:=by
 subst hg;exact ⟨own_empty w _ _,by simp[Lim],AEls.nil _ _⟩
theorem A2O.ofBlk {g:Nat} (h:Blk w g tAs #[]) (hb:base≤g):A2O w base (.slice (some ⟨g,0,none⟩) 0 0) [] []:=⟨own_ofBlk h hb,by simp[Lim],AEls.nil _ _⟩
theorem A2O.one {g:Nat} {s1 s2:Value} {s:Asn} (hk:Blk w g tAs #[s1,s2]) (hg:base≤g) (h:AsnO w base (.agg #[s1,s2]) s):A2O w base (.slice (some ⟨g,0,none⟩) 1 1) [s1,s2] [s]:=
 ⟨own_of_blk hk hg rfl (fun j hj=>by
  match j,hj with
  | 0,_=>rfl
  | 1,_=>rfl) (Nat.le_refl _) (by decide) rfl,by simp[Lim],AEls.one h⟩
theorem A2O.form (h:A2O w base v vs ss):∃ A c,v=.slice A ss.length c:=by
 obtain ⟨A,c,e,-⟩:=own_reads h.row h.lim;exact ⟨A,c,e⟩
theorem A2O.und (h:A2O w base v vs ss):Und v w.heap.size:=fun g hg=>(h.row.lt g hg).2
theorem A2O.cat {w1:World} {v' v2:Value} (h:A2O w base v vs ss) (hb:Below w.heap.size w w1) (h2:A2O w1 mid v2 vs2 ss2) (hbm:base≤mid) (hm:w.heap.size≤mid) (hl:ss.length+ss2.length≤1049600)
  (hg:w1.grownBy w' v.ownBlock) (hr:w'.ownsRow base tAs 2 v' (ss.length+ss2.length) (vs++vs2)):A2O w' base v' (vs++vs2) (ss++ss2):=by
 have hrow:=own_below h.row hb;refine ⟨by rw[List.length_append];exact hr,by rw[List.length_append];exact hl,?_⟩;exact ((h.els.bz hb).grown hrow hg (by decide) (by decide)).cat (h2.els.grown hrow hg (by decide) (by decide)) hbm fun k hk=>(h.els.und k hk).mono hm
theorem RowO.one {w:World} {b:Nat} {v:Value} {r:RowT} (h:RowO w b v r):v.oneCell'=true:=by obtain ⟨A,c,rfl,-⟩:=h.reads;rfl
theorem AEls.one_cell (h:AEls w base vs ss):∀ u∈vs,u.oneCell'=true:=by
 intro u hu;obtain ⟨k,hk,rfl⟩:=List.getElem_of_mem hu;exact (h.at_ k hk (by rw[←h.len];exact hk)).one
def AsnsV (w:World) (lo hi:Nat) (A:Option Addr) (ss:List Asn):Prop:=
 ∃ vs:List Value,Rd w lo hi 2 A ss.length vs∧∀ (k:Nat) (h:k<vs.length) (h':k<(rowsA ss).length),∃ B c,vs[k]=.slice B (rlen (rowsA ss)[k]) c∧RowV w lo hi B (rowsA ss)[k]
theorem AsnsV.bz {lo hi:Nat} {A:Option Addr} (h:AsnsV w lo hi A ss) (hb:Below w.heap.size w w'):AsnsV w' lo hi A ss:=by
 obtain ⟨vs,h1,h2⟩:=h;exact ⟨vs,h1.bz hb,fun k a b=>by obtain ⟨B,c,e,h3⟩:=h2 k a b;exact ⟨B,c,e,h3.bz hb⟩⟩
theorem AsnsV.at {lo hi:Nat} {A:Option Addr} (h:AsnsV w lo hi A ss) {k:Nat} (hk:k<ss.length):∃ b o B c D d,A=some ⟨b,o,none⟩∧b<w.heap.size∧w.cell? ⟨b,o+k*2,none⟩=some (.slice B ss[k].facts.length c)∧w.cell? ⟨b,o+k*2+1,none⟩=some (.slice D ss[k].atoms.length d)∧FactsV w lo hi B ss[k].facts∧AtomsV w lo hi D ss[k].atoms:=by
 obtain ⟨vs,h1,h2⟩:=h;have hl:vs.length=ss.length * 2:=h1.raw.1;have hr:=rowsA_len ss;obtain ⟨b,o,e,-,-,hc⟩:=h1.raw.form (by omega);obtain ⟨g1,g2⟩:=rowsA_get ss k hk;obtain ⟨B,c,e1,v1⟩:=h2 (k*2) (by omega) (by omega);obtain ⟨D,d,e2,v2⟩:=h2 (k*2+1) (by omega) (by omega);have x1:(rowsA ss)[k*2]'(by omega)=.inl ss[k].facts:=by rw[List.getElem?_eq_getElem (by omega)] at g1;exact Option.some.inj g1
 have x2:(rowsA ss)[k*2+1]'(by omega)=.inr ss[k].atoms:=by rw[List.getElem?_eq_getElem (by omega)] at g2;exact Option.some.inj g2
 rw[x1] at e1 v1;rw[x2] at e2 v2;have c1:=hc (k*2) _ (List.getElem?_eq_getElem (by omega));have c2:=hc (k*2+1) _ (List.getElem?_eq_getElem (by omega));rw[e1] at c1;rw[e2] at c2;exact ⟨b,o,B,c,D,d,e,block_lt_of_cell c1,c1,c2,v1,v2⟩
theorem A2O.reads {A:Option Addr} {n c:Nat} (h:A2O w base (.slice A n c) vs ss):n=ss.length∧AsnsV w base w.heap.size A ss:=by
 obtain ⟨A',c',e,h1⟩:=own_reads h.row h.lim;injection e with e1 e2 e3;subst e1;refine ⟨e2,vs,h1,fun k a b=>?_⟩;obtain ⟨B,d,e,h3⟩:=(h.els.at_ k a b).reads;exact ⟨B,d,e,h3⟩
end
def AsnsI (w:World) (lo hi:Nat) (v:Value) (ss:List Asn):Prop:=∃ vs,A2O w lo v vs ss∧Und v hi∧(∀ (k:Nat) (h:k<vs.length),Und vs[k] hi)∧totA ss≤16777216
def AsnsR (w:World) (base:Nat) (v:Value) (ss:List Asn):Prop:=(∃ vs,A2O w base v vs ss)∧totA ss≤16777216
section
variable {w w':World} {lo hi a b:Nat} {v:Value} {ss:List Asn}
theorem AsnsR.I {base:Nat} (h:AsnsR w base v ss):AsnsI w base w.heap.size v ss:=by
 obtain ⟨⟨vs,h⟩,hb⟩:=h;exact ⟨vs,h,h.und,h.els.und,hb⟩
theorem AsnsR.bz {base:Nat} (h:AsnsR w base v ss) (hb:Below w.heap.size w w'):AsnsR w' base v ss:=by obtain ⟨⟨vs,h1⟩,h2⟩:=h;exact ⟨⟨vs,h1.bz hb⟩,h2⟩
theorem AsnsR.lower {base base':Nat} (h:AsnsR w base v ss) (hb:base'≤base):AsnsR w base' v ss:=by obtain ⟨⟨vs,h1⟩,h2⟩:=h;exact ⟨⟨vs,h1.lower hb⟩,h2⟩
theorem AsnsR.form {base:Nat} (h:AsnsR w base v ss):∃ A c,v=.slice A ss.length c:=by obtain ⟨⟨vs,h1⟩,h2⟩:=h;exact h1.form
theorem AsnsR.nil (w:World) (base:Nat):AsnsR w base (.slice none 0 0) []:=⟨⟨_,A2O.nil _ _⟩,by simp[totA,totR,rowsA]⟩
theorem AsnsI.bz (h:AsnsI w lo hi v ss) (hb:Below w.heap.size w w'):AsnsI w' lo hi v ss:=by
 obtain ⟨vs,h1,h2⟩:=h;exact ⟨vs,h1.bz hb,h2⟩
theorem AsnsI.mk (h:AsnsI w lo hi v ss) (hb:Mk (fun g=>a≤g∧g<b) w w') (hd:hi≤a∨b≤lo):AsnsI w' lo hi v ss:=by
 obtain ⟨vs,h1,h2,h3,h4⟩:=h;refine ⟨vs,⟨own_mk h1.row hb fun g hg hp=>by have:=und_range h1.row h2 g hg;omega,h1.lim,h1.els.len,fun k x y=>?_,h1.els.apart⟩,h2,h3,h4⟩;exact (h1.els.at_ k x y).mk hb fun g hg hp=>by have:=(h1.els.at_ k x y).lt g hg;have:=h3 k x g hg;omega
theorem AsnsI.form (h:AsnsI w lo hi v ss):∃ A c,v=.slice A ss.length c:=by obtain ⟨vs,h1,-⟩:=h;exact h1.form
theorem AsnsI.reads {A:Option Addr} {n c:Nat} (h:AsnsI w lo hi (.slice A n c) ss):AsnsV w lo w.heap.size A ss:=by obtain ⟨vs,h1,-⟩:=h;exact h1.reads.2
theorem AsnsI.len (h:AsnsI w lo hi v ss):ss.length≤1049600∧totA ss≤16777216:=by obtain ⟨vs,h1,-,-,h4⟩:=h;exact ⟨h1.lim,h4⟩
end
theorem A2O.at {w:World} {base n c k:Nat} {A:Option Addr} {vs:List Value} {ss:List Asn} (h:A2O w base (.slice A n c) vs ss) (hk:k<vs.length) (hr:k<(rowsA ss).length):∃ b o B d,A=some ⟨b,o,none⟩∧b<w.heap.size∧w.cell? ⟨b,o+k,none⟩=some (.slice B (rlen (rowsA ss)[k]) d)∧vs[k]=.slice B (rlen (rowsA ss)[k]) d:=by
 obtain ⟨A',c',e,h1⟩:=own_reads h.row h.lim;injection e with e1 e2 e3;subst e1;have hl:vs.length=ss.length * 2:=h1.raw.1;obtain ⟨b,o,e,-,-,hc⟩:=h1.raw.form (by omega);obtain ⟨B,d,e2,-⟩:=(h.els.at_ k hk hr).reads;have c1:=hc k _ (List.getElem?_eq_getElem hk);rw[e2] at c1;exact ⟨b,o,B,d,e,block_lt_of_cell c1,c1,e2⟩
theorem mkAs0 (n:Nat) (h:Lim n) (w:World):(Instr.makeSlice 30 (.int .i64 0) (.int .i64 (n:Int))).run Tryz.prog w=.ok (.slice (some ⟨w.heap.size,0,none⟩) 0 n) (w.alloc (.cells (madeCells #[.slice none 0 0,.slice none 0 0] (n * 2)) tAs)):=by
 obtain ⟨i,hi,hz,hs,hb⟩:=info_parts infoAs2;have:=run_make_rowN (P:=Tryz.prog) 30 tAs i _ Tryz.underlying30 hi hz .i64 .i64 0 n (Nat.zero_le _) (by rw[hb];unfold Lim at h;omega) (by unfold Lim at h;omega) w
 rwa [hs] at this
theorem madeAs (w:World) (n:Nat) (h:n≤1049600):(w.alloc (.cells (madeCells #[.slice none 0 0,.slice none 0 0] (n * 2)) tAs)).ownsRow w.heap.size tAs 2 (.slice (some ⟨w.heap.size,0,none⟩) 0 n) 0 []:=
 World.ownsRow_made w _ n (Nat.le_refl _) (by unfold maxLen;omega) (by rw[size_madeCells])
theorem c_joinAs {lo hi lo' hi':Nat} (A A':Option Addr) (n m c c':Nat) (vs vs':List Value) (w:World) (h:Rd w lo hi 2 A n vs) (h':Rd w lo' hi' 2 A' m vs') (h1:∀ u∈vs,u.oneCell'=true) (h1':∀ u∈vs',u.oneCell'=true) (hn:n+m≤1049600) :
  Calls Tryz.prog 251 #[.slice A n c,.slice A' m c'] w fun e w'=>∃ r,e=.returned r∧w'.ownsRow w.heap.size tAs 2 r (n+m) (vs++vs')∧Below w.heap.size w w':=by
 have hmk:=mkAs0 (n+m) hn;simp only[Int.natCast_add] at hmk;have hO0:=ax (madeAs w (n+m) hn);have hnl:=h.lim;have hml:=h'.lim;have H:=ax h;have H':=ax h';have H1:=ax h1;have H1':=ax h1';clear h h' h1 h1';(go_enter Tryz.func251,Tryz.ntmps251)
 go_wp2_with (first
  | (at_builtin;(refine wpList_appL rfl _ _ 30 rfl Tryz.underlying30 infoAs2 rfl (by decide) (by decide) rfl hO0.o rfl (H.o.bz bel).raw H1.o (by omega) (by simp) ?_);intro v1 w1 hO1 hg1 hB1;simp only[Nat.zero_add,List.nil_append] at hO1;have hB:Below w.heap.size w w1:=Below.trans bel hB1;obtain ⟨A1,d1,rfl,-⟩:=own_reads hO1 (by unfold Lim;omega))
  | (at_builtin;refine wpList_appL rfl _ _ 30 rfl Tryz.underlying30 infoAs2 rfl (by decide) (by decide) rfl hO1 rfl (H'.o.bz hB).raw H1'.o (by omega) hB.size ?_;intro v2 w2 hO2 hg2 hB2;obtain ⟨A2,d2,rfl,-⟩:=own_reads hO2 (by unfold Lim;omega)))
 go_ret;exact ⟨_,rfl,by simpa using hO2,hB.trans hB2⟩
end
section
open Go
def clsM (M:Int→Int) (x:Atm):Atm:=⟨x.kind,M x.a,M x.b⟩
def Clo (M:Int→Int) (F:List Atm) (q:Int):Prop:=q=M 0∨∃ y∈F,M y.a=q
def SegM (M:Int→Int) (F:List Atm) (q:Int):Int→List Atm→Prop
 | _,[]=>False
 | p,y :: ys=>M y.a=p∧((ys=[]∧M y.b=q)∨(ys≠[]∧M y.b≠q∧(y.kind=2→Clo M F q)∧SegM M F q (M y.b) ys))
def CovM (M:Int→Int) (F:List Atm) (x:Atm) (cs:List Atm):Prop:=if x.kind=1 then ∃ y,cs=[y]∧clsM M y=clsM M x else SegM M F (M x.b) (M x.a) cs
def Cover (M:Int→Int) (F G:List Atm):Prop:=∃ g:Atm→List Atm,(∀ x∈G,CovM M F x (g x))∧F.Perm (G.flatMap g)
section
variable {M:Int→Int} {F G H:List Atm}
def Covs (M:Int→Int) (F:List Atm):List Atm→List (List Atm)→Prop
 | [],[]=>True
 | x :: xs,cs :: css=>CovM M F x cs∧Covs M F xs css
 | _,_=>False
theorem cls_inj {y x:Atm} (h:clsM M y=clsM M x):y.kind=x.kind∧M y.a=M x.a∧M y.b=M x.b:=by
 simpa [clsM] using h
theorem seg_head {q p:Int} {cs:List Atm} (h:SegM M F q p cs):∃ y ys,cs=y :: ys∧M y.a=p:=by
 cases cs with
 | nil=>exact absurd h id
 | cons y ys=>exact ⟨y,ys,rfl,h.1⟩
theorem cov_head {x:Atm} {cs:List Atm} (h:CovM M F x cs):∃ y ys,cs=y :: ys∧M y.a=M x.a:=by
 unfold CovM at h
 split at h
 ·obtain ⟨y,rfl,e⟩:=h;exact ⟨y,[],rfl,(cls_inj e).2.1⟩
 ·exact seg_head h
theorem covs_starts:∀ (G:List Atm) (css:List (List Atm)),Covs M F G css→(G.map fun x=>M x.a).Sublist (css.flatten.map fun x=>M x.a)
 | [],[],_=>by simp
 | [],_ :: _,h=>absurd h id
 | _ :: _,[],h=>absurd h id
 | x :: G,cs :: css,h=>by
  have ih:=covs_starts G css h.2;obtain ⟨y,ys,rfl,e⟩:=cov_head h.1;simp only[List.map_cons,List.flatten_cons,List.cons_append,List.map_append];rw[e];exact List.Sublist.cons_cons _ (ih.trans (List.sublist_append_right _ _))
theorem covs_fun:∀ (G:List Atm) (css:List (List Atm)),Covs M F G css→(G.map fun x=>M x.a).Nodup→∃ g:Atm→List Atm,css.flatten=G.flatMap g∧∀ x∈G,CovM M F x (g x)
 | [],[],_,_=>⟨fun _=>[],by simp,by simp⟩
 | [],_ :: _,h,_=>absurd h id
 | _ :: _,[],h,_=>absurd h id
 | x :: G,cs :: css,h,hn=>by
  rw[List.map_cons,List.nodup_cons] at hn;obtain ⟨g,h1,h2⟩:=covs_fun G css h.2 hn.2;have hx:∀ y∈G,y≠x:=fun y hy e=>hn.1 (List.mem_map.2 ⟨y,hy,by rw[e]⟩);refine ⟨fun y=>if y=x then cs else g y,?_,fun y hy=>?_⟩
  ·rw[List.flatten_cons,List.flatMap_cons,if_pos rfl,h1]
   congr 1
   unfold List.flatMap
   congr 1
   exact List.map_congr_left fun y hy=>(if_neg (hx y hy)).symm
  ·show CovM M F y (if y=x then cs else g y);rcases List.mem_cons.1 hy with rfl|hy
   ·rw[if_pos rfl];exact h.1
   ·rw[if_neg (hx y hy)];exact h2 y hy
theorem covs_of_fun {g:Atm→List Atm}:∀ (G:List Atm),(∀ x∈G,CovM M F x (g x))→Covs M F G (G.map g)
 | [],_=>trivial
 | x :: G,h=>⟨h x List.mem_cons_self,covs_of_fun G fun y hy=>h y (List.mem_cons_of_mem _ hy)⟩
theorem Cover.starts (h:Cover M F G) (hn:(F.map fun y=>M y.a).Nodup):(G.map fun y=>M y.a).Nodup:=by
 obtain ⟨g,h1,h2⟩:=h;have:=covs_starts G _ (covs_of_fun G h1);rw[←List.flatMap_def] at this;exact ((h2.map fun y=>M y.a).nodup_iff.1 hn).sublist this
/-! coverings compose -/
theorem cov_seg {x:Atm} {cs:List Atm} (h:CovM M F x cs):SegM M F (M x.b) (M x.a) cs:=by
 unfold CovM at h
 split at h
 ·obtain ⟨y,rfl,e⟩:=h;exact ⟨(cls_inj e).2.1,.inl ⟨rfl,(cls_inj e).2.2⟩⟩
 ·exact h
theorem seg_append {q r:Int}:∀ (cs rest:List Atm) (p:Int),SegM M F r p cs→(∀ y∈cs,M y.b≠q)→(∀ y∈cs,y.kind=2→Clo M F q)→SegM M F q r rest→SegM M F q p (cs++rest)
 | [],_,_,h,_,_,_=>absurd h id
 | y :: cs,rest,p,h,h1,h2,h3=>by
  refine ⟨h.1,.inr ⟨?_,h1 y List.mem_cons_self,h2 y List.mem_cons_self,?_⟩⟩
  ·cases cs
   ·intro e;have e:rest=[]:=e;rw[e] at h3;exact h3
   ·simp
  ·rcases h.2 with ⟨rfl,e⟩|⟨-,-,-,hs⟩
   ·rw[e];exact h3
   ·exact seg_append cs rest _ hs (fun z hz=>h1 z (List.mem_cons_of_mem _ hz)) (fun z hz=>h2 z (List.mem_cons_of_mem _ hz)) h3
theorem seg_ends {r:Int}:∀ (cs:List Atm) (p:Int),SegM M F r p cs→∀ y∈cs,M y.b=r∨∃ z∈cs.tail,M z.a=M y.b
 | [],_,h,_,_=>absurd h id
 | y :: cs,p,h,z,hz=>by
  rcases List.mem_cons.1 hz with rfl|hz
  ·rcases h.2 with ⟨rfl,e⟩|⟨-,-,-,hs⟩
   ·exact .inl e
   ·obtain ⟨w,ws,rfl,e⟩:=seg_head hs;exact .inr ⟨w,by simp,e⟩
  ·rcases h.2 with ⟨rfl,e⟩|⟨-,-,-,hs⟩
   ·cases hz
   ·rcases seg_ends cs _ hs z hz with h1|⟨w,hw,e⟩
    ·exact .inl h1
    ·exact .inr ⟨w,List.mem_of_mem_tail hw,e⟩
theorem flat_sublist {α β:Type} (g:α→List β):∀ (L:List α) (z:α),z∈L→(g z).Sublist (L.flatMap g)
 | [],_,h=>by cases h
 | y :: L,z,h=>by
  rw[List.flatMap_cons];rcases List.mem_cons.1 h with rfl|h
  ·exact List.sublist_append_left _ _
  ·exact (flat_sublist g L z h).trans (List.sublist_append_right _ _)
theorem flat_apart {α β γ:Type} (g:α→List β) (f:β→γ):∀ (L:List α),((L.flatMap g).map f).Nodup→∀ z∈L,∀ w∈L,z≠w→∀ x∈g z,∀ y∈g w,f x≠f y
 | [],_,_,h,_,_,_,_,_,_,_=>by cases h
 | v :: L,hn,z,hz,w,hw,hne,x,hx,y,hy=>by
  rw[List.flatMap_cons,List.map_append,List.nodup_append] at hn;have hin:∀ (u:α) (t:β),u∈L→t∈g u→f t∈(L.flatMap g).map f:=fun u t hu ht=>List.mem_map.2 ⟨t,List.mem_flatMap.2 ⟨u,hu,ht⟩,rfl⟩;rcases List.mem_cons.1 hz with rfl|hz1
  ·rcases List.mem_cons.1 hw with rfl|hw1
   ·exact absurd rfl hne
   ·exact hn.2.2 _ (List.mem_map.2 ⟨x,hx,rfl⟩) _ (hin w y hw1 hy)
  ·rcases List.mem_cons.1 hw with rfl|hw1
   ·exact fun e=>hn.2.2 _ (List.mem_map.2 ⟨y,hy,rfl⟩) _ (hin z x hz1 hx) e.symm
   ·exact flat_apart g f L hn.2.1 z hz1 w hw1 hne x hx y hy
theorem Cover.trans (h1:Cover M F G) (h2:Cover M G H) (hn:(F.map fun y=>M y.a).Nodup) (h0:∀ y∈F,M y.a≠M 0) (hG:∀ z∈G,z.kind=1∨z.kind=2):Cover M F H:=by
 obtain ⟨g,g1,g2⟩:=h1;obtain ⟨d,d1,d2⟩:=h2;have hgn:((G.flatMap g).map fun y=>M y.a).Nodup:=(g2.map fun y=>M y.a).nodup_iff.1 hn;have hmem:∀ z∈G,∀ y∈g z,y∈F:=fun z hz y hy=>g2.mem_iff.2 (List.mem_flatMap.2 ⟨z,hz,hy⟩)
 have hclo:∀ q,Clo M G q→Clo M F q:=fun q h=>by
  rcases h with h|⟨w,hw,e⟩
  ·exact .inl h
  ·obtain ⟨y,ys,e1,e2⟩:=cov_head (g1 w hw);exact .inr ⟨y,hmem w hw y (by rw[e1];simp),e2.trans e⟩
 have hin:∀ x∈H,∀ z∈d x,z∈G:=fun x hx z hz=>d2.mem_iff.2 (List.mem_flatMap.2 ⟨x,hx,hz⟩)
 have hnot:∀ z∈G,∀ y∈(g z).tail,¬Clo M G (M y.a):=fun z hz y hy h=>by
  have hyz:=List.mem_of_mem_tail hy;rcases h with h|⟨w,hw,e⟩
  ·exact h0 y (hmem z hz y hyz) h
  ·obtain ⟨y',ys,e1,e2⟩:=cov_head (g1 w hw);by_cases hzw:z=w
   ·subst hzw;have:=hgn.sublist ((flat_sublist g G z hz).map fun y=>M y.a);rw[e1] at this hy;rw[List.map_cons,List.nodup_cons] at this;exact this.1 (List.mem_map.2 ⟨y,hy,by rw[e2,e]⟩)
   ·exact flat_apart g (fun y=>M y.a) G hgn z hz w hw hzw y hyz y' (by rw[e1];simp) (by rw[e2,e])
 have comp:∀ (q:Int) (ds:List Atm) (p:Int),SegM M G q p ds→(∀ z∈ds,z∈G)→SegM M F q p (ds.flatMap g):=by
  intro q ds
  induction ds with
  | nil=>intro p h;exact absurd h id
  | cons z ds ih=>
   intro p h hD;have hz:=hD z List.mem_cons_self;have hs:=cov_seg (g1 z hz);rw[List.flatMap_cons];obtain ⟨rfl,h⟩:=h;rcases h with ⟨rfl,e⟩|⟨-,hb,hc,hr⟩
   ·rw[List.flatMap_nil,List.append_nil,←e];exact hs
   ·have hkind:∀ y∈g z,(g z).tail≠[]∨y.kind=2→Clo M G q:=fun y hy hor=>by
     have hcov:=g1 z hz;unfold CovM at hcov;by_cases hk:z.kind=1
     ·rw[if_pos hk] at hcov;obtain ⟨y',e1,e2⟩:=hcov;rw[e1] at hor hy;rcases hor with h|h
      ·exact absurd rfl h
      ·rw[List.mem_singleton.1 hy] at h;rw[(cls_inj e2).1,hk] at h;exact absurd h (by decide)
     ·exact hc ((hG z hz).resolve_left hk)
    refine seg_append (g z) _ _ hs (fun y hy e=>?_) (fun y hy hk=>hclo _ (hkind y hy (.inr hk))) (ih _ hr fun w hw=>hD w (List.mem_cons_of_mem _ hw));rcases seg_ends _ _ hs y hy with e2|⟨y',hy',e2⟩
    ·exact hb (e2.symm.trans e)
    ·have:=hkind y hy (.inl fun h=>by rw[h] at hy';cases hy');rw[←e,←e2] at this;exact hnot z hz y' hy' this
 refine ⟨fun x=>(d x).flatMap g,fun x hx=>?_,?_⟩
 ·have hd:=d1 x hx;unfold CovM at hd ⊢;by_cases hk:x.kind=1
  ·rw[if_pos hk] at hd ⊢;obtain ⟨z,e1,e2⟩:=hd;have hz:=hin x hx z (by rw[e1];simp);have hg:=g1 z hz;unfold CovM at hg;rw[if_pos ((cls_inj e2).1.trans hk)] at hg;obtain ⟨y,e3,e4⟩:=hg;exact ⟨y,by show List.flatMap g (d x)=_;rw[e1];simp[e3],e4.trans e2⟩
  ·rw[if_neg hk] at hd ⊢;exact comp _ _ _ hd (hin x hx)
 ·refine g2.trans ?_;have:=d2.flatMap_right g;rw[List.flatMap_assoc] at this;exact this
end
end
section
open Go Go.RowKit
theorem walk_head (h:List Int) (n:Nat) {x tz0:Int} {cs:List Int} (hw:walkF h (n+1) x tz0=some cs) (hne:x≠tz0):x∈cs:=by
 rw[walkF,if_neg hne] at hw
 split at hw
 ·obtain ⟨ds,-,rfl⟩:=Option.map_eq_some_iff.1 hw;exact List.mem_cons_self
 ·cases hw
theorem head_cells {s:Ste} (hs:s.valid=true) {x:Atm} {cs:List Int} (hk:x.kind=1∨x.kind=2) (h:atomCells s x=some cs) (hf:fillM (tval s.values) x=true):tval s.values x.a∈cs:=by
 unfold atomCells at h;unfold fillM at hf
 split at h
 ·rename_i h2
  have hne:tval s.values x.a≠tval s.values x.b:=by
   intro e;rw[decide_eq_false (by omega:¬x.kind=1),decide_eq_true e] at hf;cases hf
  exact walk_head _ 7 h hne
 ·split at h
  ·obtain rfl:=Option.some.inj h;exact List.mem_cons_self
  ·cases h
theorem part_heads {s:Ste} (hs:s.valid=true):∀ (xs:List Atm) (seen out:List Int),(∀ x∈xs,x.kind=1∨x.kind=2)→partAtoms s seen xs=some out→seen.Nodup→
  (∀ x∈xs,fillM (tval s.values) x=true→addrB (tval s.values x.a)=true∧tval s.values x.a∉seen)∧((xs.filter (fillM (tval s.values))).map fun x=>tval s.values x.a).Nodup:=by
 intro xs
 induction xs with
 | nil=>intro seen out _ _ _;exact ⟨fun x hx=>(by cases hx),List.nodup_nil⟩
 | cons x xs ih=>
  intro seen out hk h hn;simp only[partAtoms,Option.bind_eq_some_iff] at h;obtain ⟨cs,h1,seen',h2,h3⟩:=h;have hn':=addAll_spec _ _ _ h2 hn;have e:=addAll_mem _ _ _ h2;obtain ⟨g1,g2⟩:=ih _ _ (fun y hy=>hk y (List.mem_cons_of_mem _ hy)) h3 hn';have hx:=fun hf=>head_cells hs (hk x List.mem_cons_self) h1 hf
  have hfirst:fillM (tval s.values) x=true→addrB (tval s.values x.a)=true∧tval s.values x.a∉seen:=fun hf=>by
   refine ⟨((atomCells_addr hs h1).2 _ (hx hf)).1,fun hm=>?_⟩;rw[e,List.nodup_append] at hn';exact hn'.2.2 _ hm _ (hx hf) rfl
  refine ⟨fun y hy hf=>?_,?_⟩
  ·rcases List.mem_cons.1 hy with rfl|hy
   ·exact hfirst hf
   ·have:=g1 y hy hf;exact ⟨this.1,fun hm=>this.2 (by rw[e];exact List.mem_append_left _ hm)⟩
  ·cases hf:fillM (tval s.values) x
   ·rw[List.filter_cons_of_neg (by simp[hf])];exact g2
   ·rw[List.filter_cons_of_pos hf,List.map_cons,List.nodup_cons];refine ⟨fun hm=>?_,g2⟩;obtain ⟨y,hy,ey⟩:=List.mem_map.1 hm;rw[List.mem_filter] at hy;have:=(g1 y hy.1 hy.2).2;rw[ey,e] at this;exact this (List.mem_append_right _ (hx hf))
theorem part_sat {s:Ste} {a:Asn} {out:List Int} (h:partOf s a=some out):Sat (tval s.values) a:=by
 obtain ⟨h1,h2,h3,h4⟩:=partOf_some.1 h
 have hk:∀ x∈a.atoms,x.kind=1∨x.kind=2:=fun x hx=>by
  have hv:=h2;simp only[Asn.valid,Bool.and_eq_true] at hv;have:=List.all_eq_true.1 hv.2.2 x hx;simp[Atm.valid] at this;exact this.1.1
 obtain ⟨g1,g2⟩:=part_heads h1 _ _ _ hk h4 List.nodup_nil;refine ⟨fun f hf=>?_,fun x hx hfi e=>?_,g2⟩
 ·simp only[factsHold,Bool.and_eq_true] at h3;have:=List.all_eq_true.1 h3.2 f hf;unfold Fct.holds at this;exact eq_of_beq this
 ·have:=(g1 x hx hfi).1;have e0:tval s.values 0=0:=rfl;rw[e,e0] at this;simp[addrB] at this
def caseOfF (s:Ste) (a:Asn):List Int:=canon (tval s.values) (caseS a 0)
theorem case_of_law {s:Ste} {a:Asn} (h:holdsF s a=true):s.valid=true∧a.valid=true∧caseOfF s a∈cases a (caseS a 0)∧consB a=true:=by
 obtain ⟨out,h1,-⟩:=holds_iff.1 h;have hv:=partOf_some.1 h1;have hs:=part_sat h1;exact ⟨hv.1,hv.2.1,sat_case hv.2.1 (caseS_zero a 0) (caseS_terms hv.2.1 0) hs,consB_iff.2 ⟨hv.2.1,_,hs⟩⟩
def EntM (M:Int→Int) (a b:Asn):Prop:=(∀ f∈b.facts,decide (M f.a=M f.b)=f.eq)∧Cover M (a.atoms.filter (fillM M)) (b.atoms.filter (fillM M))
section
variable {M N:Int→Int} {T:Int→Prop} {F G:List Atm}
theorem Clo.same (h0:T 0) (he:∀ s t,T s→T t→(M s=M t↔N s=N t)) {q:Int} (hF:∀ y∈F,T y.a∧T y.b) (hq:T q) (h:Clo M F (M q)):Clo N F (N q):=by
 rcases h with h|⟨y,hy,e⟩
 ·exact .inl ((he _ _ hq h0).1 h)
 ·exact .inr ⟨y,hy,(he _ _ (hF y hy).1 hq).1 e⟩
theorem SegM.same (h0:T 0) (he:∀ s t,T s→T t→(M s=M t↔N s=N t)) (hF:∀ y∈F,T y.a∧T y.b) {q:Int} (hq:T q):∀ (cs:List Atm) (p:Int),T p→(∀ y∈cs,y∈F)→SegM M F (M q) (M p) cs→SegM N F (N q) (N p) cs
 | [],_,_,_,h=>absurd h id
 | y :: cs,p,hp,hm,h=>by
  have hy:=hF y (hm y List.mem_cons_self);refine ⟨(he _ _ hy.1 hp).1 h.1,?_⟩;rcases h.2 with ⟨e,hb⟩|⟨hne,hb,hc,hs⟩
  ·exact .inl ⟨e,(he _ _ hy.2 hq).1 hb⟩
  ·exact .inr ⟨hne,fun e=>hb ((he _ _ hy.2 hq).2 e),fun hk=>(hc hk).same h0 he hF hq,SegM.same h0 he hF hq cs y.b hy.2 (fun z hz=>hm z (List.mem_cons_of_mem _ hz)) hs⟩
theorem Cover.same (h0:T 0) (he:∀ s t,T s→T t→(M s=M t↔N s=N t)) (hF:∀ y∈F,T y.a∧T y.b) (hG:∀ y∈G,T y.a∧T y.b) (h:Cover M F G):Cover N F G:=by
 obtain ⟨g,h1,h2⟩:=h;refine ⟨g,fun x hx=>?_,h2⟩;have hm:∀ y∈g x,y∈F:=fun y hy=>h2.mem_iff.2 (List.mem_flatMap.2 ⟨x,hx,hy⟩);have hc:=h1 x hx;unfold CovM at hc ⊢
 split
 ·rename_i hk;rw[if_pos hk] at hc;obtain ⟨y,e,e2⟩:=hc;have hy:=hF y (hm y (by rw[e];simp));obtain ⟨e3,e4,e5⟩:=cls_inj e2;refine ⟨y,e,?_⟩;unfold clsM;rw[e3,(he _ _ hy.1 (hG x hx).1).1 e4,(he _ _ hy.2 (hG x hx).2).1 e5]
 ·rename_i hk;rw[if_neg hk] at hc;exact SegM.same h0 he hF (hG x hx).2 _ _ (hG x hx).1 hm hc
theorem fill_same (he:∀ s t,T s→T t→(M s=M t↔N s=N t)) {xs:List Atm} (hx:∀ y∈xs,T y.a∧T y.b):xs.filter (fillM M)=xs.filter (fillM N):=by
 refine List.filter_congr fun y hy=>?_;unfold fillM;rw[decide_eq_decide.2 (he _ _ (hx y hy).1 (hx y hy).2)]
theorem EntM.same {a b:Asn} (h0:T 0) (he:∀ s t,T s→T t→(M s=M t↔N s=N t)) (ha:∀ y∈a.atoms,T y.a∧T y.b) (hb:∀ y∈b.atoms,T y.a∧T y.b) (hf:∀ f∈b.facts,T f.a∧T f.b) (h:EntM M a b):EntM N a b:=by
 refine ⟨fun f hm=>?_,?_⟩
 ·rw[←h.1 f hm,decide_eq_decide];exact (he _ _ (hf f hm).1 (hf f hm).2).symm
 ·rw[←fill_same he ha,←fill_same he hb];exact h.2.same h0 he (fun y hy=>ha y (List.mem_filter.1 hy).1) (fun y hy=>hb y (List.mem_filter.1 hy).1)
end
theorem termsL_atm {a:Asn} {x:Atm} (hx:x∈a.atoms):x.a∈termsL a∧x.b∈termsL a:=by
 simp only[termsL,List.mem_append,List.mem_flatMap];exact ⟨.inr ⟨x,hx,by simp[atomT]⟩,.inr ⟨x,hx,by simp[atomT]⟩⟩
theorem valid_kind {a:Asn} (h:a.valid=true) {x:Atm} (hx:x∈a.atoms):x.kind=1∨x.kind=2:=by
 simp only[Asn.valid,Bool.and_eq_true] at h;have:=List.all_eq_true.1 h.2.2 x hx;simp[Atm.valid] at this;exact this.1.1
section
variable {M:Int→Int} {a b c:Asn}
theorem EntM.sat (h:EntM M a b) (ha:Sat M a):Sat M b:=by
 refine ⟨h.1,fun x hx hf=>?_,h.2.starts ha.apart⟩;obtain ⟨g,h1,h2⟩:=h.2;have hx':x∈b.atoms.filter (fillM M):=List.mem_filter.2 ⟨hx,hf⟩;obtain ⟨y,ys,e1,e2⟩:=cov_head (h1 x hx');have hy:y∈a.atoms.filter (fillM M):=h2.mem_iff.2 (List.mem_flatMap.2 ⟨x,hx',by rw[e1];simp⟩);rw[List.mem_filter] at hy;rw[←e2];exact ha.nil y hy.1 hy.2
theorem EntM.trans (h1:EntM M a b) (h2:EntM M b c) (ha:Sat M a) (hb:b.valid=true):EntM M a c:=
 ⟨h2.1,h1.2.trans h2.2 ha.apart (fun y hy=>ha.nil y (List.mem_filter.1 hy).1 (List.mem_filter.1 hy).2) fun z hz=>valid_kind hb (List.mem_filter.1 hz).1⟩
theorem Cover.perm {F G:List Atm} (h:F.Perm G):Cover M F G:=by
 refine ⟨fun x=>[x],fun x hx=>?_,by simpa using h⟩;unfold CovM
 split
 ·exact ⟨x,rfl,rfl⟩
 ·exact ⟨rfl,.inl ⟨rfl,rfl⟩⟩
theorem EntM.refl (ha:Sat M a):EntM M a a:=⟨ha.facts,Cover.perm (List.Perm.refl _)⟩
end
/-! truth in states -/
def cellsOf (s:Ste) (x:Atm):List Int:=(atomCells s x).getD []
theorem parts_iff {s:Ste}:∀ (xs:List Atm) (seen out:List Int),seen.Nodup→(partAtoms s seen xs=some out↔(∀ x∈xs,atomCells s x=some (cellsOf s x))∧out=seen++xs.flatMap (cellsOf s)∧out.Nodup)
 | [],seen,out,hn=>by
  simp only[partAtoms,Option.some.injEq,List.not_mem_nil,false_implies,implies_true,List.flatMap_nil,List.append_nil,true_and];exact ⟨fun h=>⟨h.symm,h▸hn⟩,fun h=>h.1.symm⟩
 | x :: xs,seen,out,hn=>by
  simp only[partAtoms,Option.bind_eq_some_iff,List.forall_mem_cons,List.flatMap_cons];constructor
  ·rintro ⟨cs,h1,seen',h2,h3⟩;have e:=addAll_mem _ _ _ h2;have hn':=addAll_spec _ _ _ h2 hn;obtain ⟨g1,g2,g3⟩:=(parts_iff xs seen' out hn').1 h3;have hc:cellsOf s x=cs:=by unfold cellsOf;rw[h1];rfl
   exact ⟨⟨by rw[hc];exact h1,g1⟩,by rw[g2,e,hc,List.append_assoc],g3⟩
  ·rintro ⟨⟨h1,g1⟩,g2,g3⟩;rw[g2,←List.append_assoc] at g3;have hn':(seen++cellsOf s x).Nodup:=(List.nodup_append.1 g3).1;exact ⟨_,h1,_,addAll_some _ _ hn',(parts_iff xs _ out hn').2 ⟨g1,by rw[g2,List.append_assoc],by rw[g2,←List.append_assoc];exact g3⟩⟩
theorem walk_fuel {h:List Int}:∀ (n:Nat) (x tz0:Int) (cs:List Int),walkF h n x tz0=some cs→cs.length≤n∧∀ m,cs.length≤m→walkF h m x tz0=some cs
 | 0,x,tz0,cs,hw=>by
  rw[walkF] at hw
  split at hw
  ·rename_i e;obtain rfl:=Option.some.inj hw;subst e;exact ⟨Nat.le_refl _,fun m _=>walkF_here h m x⟩
  ·cases hw
 | n+1,x,tz0,cs,hw=>by
  rw[walkF] at hw
  split at hw
  ·rename_i e;obtain rfl:=Option.some.inj hw;subst e;exact ⟨by simp,fun m _=>walkF_here h m x⟩
  ·rename_i hne
   split at hw
   ·rename_i ha;obtain ⟨ds,hd,rfl⟩:=Option.map_eq_some_iff.1 hw;obtain ⟨g1,g2⟩:=walk_fuel n _ _ _ hd;refine ⟨by simpa using g1,fun m hm=>?_⟩;obtain ⟨m,rfl⟩:∃ k,m=k+1:=⟨m - 1,by simp at hm;omega⟩;rw[walkF,if_neg hne,if_pos ha,g2 m (by simpa using hm)];rfl
   ·cases hw
theorem walk_append {h:List Int} {r q:Int} {ds:List Int} {m:Nat} (h2:walkF h m r q=some ds):∀ (n:Nat) (p:Int) (cs:List Int),walkF h n p r=some cs→q∉cs→walkF h (n+m) p q=some (cs++ds)
 | 0,p,cs,h1,hq=>by
  rw[walkF] at h1
  split at h1
  ·rename_i e;obtain rfl:=Option.some.inj h1;rw[e,Nat.zero_add];exact h2
  ·cases h1
 | n+1,p,cs,h1,hq=>by
  rw[walkF] at h1
  split at h1
  ·rename_i e;obtain rfl:=Option.some.inj h1;rw[e];have:=walk_fuel _ _ _ _ h2;exact this.2 _ (by omega)
  ·split at h1
   ·rename_i ha;obtain ⟨es,he,rfl⟩:=Option.map_eq_some_iff.1 h1;rw[show n+1+m=(n+m)+1 by omega,walkF,if_neg (fun e=>hq (by rw[←e];exact List.mem_cons_self)),if_pos ha,walk_append h2 n _ es he fun hm=>hq (List.mem_cons_of_mem _ hm)];rfl
   ·cases h1
theorem unfilled {s:Ste} {x:Atm} (hk:x.kind=1∨x.kind=2) (hf:fillM (tval s.values) x=false):atomCells s x=some []:=by
 unfold fillM at hf;rw[Bool.or_eq_false_iff] at hf;have h1:x.kind=2:=hk.resolve_left (of_decide_eq_false hf.1);have h2:tval s.values x.a=tval s.values x.b:=by simpa using hf.2
 unfold atomCells;rw[if_pos h1,h2,walkF_here]
theorem flat_fill {s:Ste}:∀ (xs:List Atm),(∀ x∈xs,x.kind=1∨x.kind=2)→xs.flatMap (cellsOf s)=(xs.filter (fillM (tval s.values))).flatMap (cellsOf s)
 | [],_=>rfl
 | x :: xs,h=>by
  have ih:=flat_fill (s:=s) xs fun y hy=>h y (List.mem_cons_of_mem _ hy);rw[List.flatMap_cons,ih];cases hf:fillM (tval s.values) x
  ·rw[List.filter_cons_of_neg (by simp[hf])];have:cellsOf s x=[]:=by unfold cellsOf;rw[unfilled (h x List.mem_cons_self) hf];rfl
   rw[this];rfl
  ·rw[List.filter_cons_of_pos hf,List.flatMap_cons]
theorem addr_len {out:List Int} (hn:out.Nodup) (h:∀ c∈out,addrB c=true):out.length≤8:=by
 have:=nodup_le (m:=[1,2,3,4,5,6,7,8]) hn fun x hx=>by
  have:=h x hx;simp only[addrB,decide_eq_true_eq] at this;obtain h|h|h|h|h|h|h|h:x=1∨x=2∨x=3∨x=4∨x=5∨x=6∨x=7∨x=8:=by omega
  all_goals simp[h]
 simpa using this
theorem seg_walk {s:Ste} (hs:s.valid=true) {F:List Atm} (hc:∀ y∈F,atomCells s y=some (cellsOf s y)) (hn:(F.flatMap (cellsOf s)).Nodup) (hk:∀ y∈F,y.kind=1∨y.kind=2) (hfl:∀ y∈F,fillM (tval s.values) y=true) {q:Int} :
  ∀ (cs:List Atm) (p:Int),SegM (tval s.values) F q p cs→p≠q→(∀ y∈cs,y∈F)→∃ n,walkF s.heap n p q=some (cs.flatMap (cellsOf s))
 | [],_,h,_,_=>absurd h id
 | y :: cs,p,h,hne,hm=>by
  have hy:=hm y List.mem_cons_self;have hcy:=hc y hy;obtain ⟨rfl,h⟩:=h
  have hone:∃ n,walkF s.heap n (tval s.values y.a) (tval s.values y.b)=some (cellsOf s y)∨(y.kind=1∧cellsOf s y=[tval s.values y.a]∧cont s.heap (tval s.values y.a)=tval s.values y.b):=by
   unfold atomCells at hcy
   split at hcy
   ·exact ⟨8,.inl hcy⟩
   ·rename_i h2
    split at hcy
    ·rename_i h3;exact ⟨0,.inr ⟨(hk y hy).resolve_right h2,(Option.some.inj hcy).symm,h3⟩⟩
    ·cases hcy
  have hal:∀ c∈cellsOf s y,addrB c=true∧allocB s.heap c=true:=(atomCells_addr hs hcy).2
  have hstep:∀ (e:tval s.values y.b≠q∨tval s.values y.b=q) (ds:List Int) (m:Nat),walkF s.heap m (tval s.values y.b) q=some ds→(q∉cellsOf s y)→∃ n,walkF s.heap n (tval s.values y.a) q=some (cellsOf s y++ds):=fun _ ds m hw hq=>by
   obtain ⟨n,h1|⟨hk1,e1,e2⟩⟩:=hone
   ·exact ⟨_,walk_append hw n _ _ h1 hq⟩
   ·refine ⟨m+1,?_⟩;have ha:allocB s.heap (tval s.values y.a)=true:=(hal _ (by rw[e1];simp)).2;rw[walkF,if_neg hne,if_pos ha,e2,hw,e1];rfl
  rcases h with ⟨rfl,e⟩|⟨-,hb,hclo,hr⟩
  ·rw[List.flatMap_cons,List.flatMap_nil];obtain ⟨n,h1|⟨hk1,e1,e2⟩⟩:=hone
   ·exact ⟨n,by rw[List.append_nil,←e];exact h1⟩
   ·refine ⟨1,?_⟩;have ha:allocB s.heap (tval s.values y.a)=true:=(hal _ (by rw[e1];simp)).2;rw[walkF,if_neg hne,if_pos ha,e2,e,walkF_here,e1];rfl
  ·obtain ⟨m,hw⟩:=seg_walk hs hc hn hk hfl cs _ hr hb fun z hz=>hm z (List.mem_cons_of_mem _ hz);rw[List.flatMap_cons];refine hstep (.inl hb) _ m hw fun hq=>?_;rcases hk y hy with hk1|hk2
   ·obtain ⟨n,h1|⟨-,e1,-⟩⟩:=hone
    ·have:cellsOf s y=[tval s.values y.a]:=by
      unfold atomCells at hcy;rw[if_neg (by omega)] at hcy
      split at hcy
      ·exact (Option.some.inj hcy).symm
      ·cases hcy
     rw[this,List.mem_singleton] at hq;exact hne hq.symm
    ·rw[e1,List.mem_singleton] at hq;exact hne hq.symm
   ·rcases hclo hk2 with h|⟨w,hw,e⟩
    ·have:=(hal q hq).1;have e0:tval s.values 0=0:=rfl;rw[h,e0] at this;simp[addrB] at this
    ·by_cases hyw:y=w
     ·exact hne (by rw[hyw];exact e)
     ·have hqw:q∈cellsOf s w:=by rw[←e];exact head_cells hs (hk w hw) (hc w hw) (hfl w hw)
      have hn':((F.flatMap (cellsOf s)).map fun x=>x).Nodup:=by simpa using hn
      exact flat_apart (cellsOf s) (fun x=>x) F hn' y hy w hw hyw q hq q hqw rfl
theorem snd_part {s:Ste} {a b:Asn} {out:List Int} (h:partOf s a=some out) (he:EntM (tval s.values) a b) (hb:b.valid=true):∃ out',partOf s b=some out'∧out'.Perm out:=by
 obtain ⟨h1,h2,h3,h4⟩:=partOf_some.1 h;obtain ⟨g1,g2,g3⟩:=(parts_iff _ _ _ List.nodup_nil).1 h4;rw[List.nil_append] at g2;have hka:∀ x∈a.atoms,x.kind=1∨x.kind=2:=fun x hx=>valid_kind h2 hx;have hkb:∀ x∈b.atoms,x.kind=1∨x.kind=2:=fun x hx=>valid_kind hb hx;rw[flat_fill _ hka] at g2;obtain ⟨hf,g,hg,hp⟩:=he;have hFc:∀ y∈a.atoms.filter (fillM (tval s.values)),atomCells s y=some (cellsOf s y):=fun y hy=>g1 y (List.mem_filter.1 hy).1;have hFk:∀ y∈a.atoms.filter (fillM (tval s.values)),y.kind=1∨y.kind=2:=fun y hy=>hka y (List.mem_filter.1 hy).1;have hFn:((a.atoms.filter (fillM (tval s.values))).flatMap (cellsOf s)).Nodup:=by rw[←g2];exact g3
 have hadd:∀ c∈out,addrB c=true:=fun c hc=>((partOf_spec h).2 c hc).1
 have hfilled:∀ x∈b.atoms.filter (fillM (tval s.values)),atomCells s x=some ((g x).flatMap (cellsOf s)):=fun x hx=>by
  have hx':=List.mem_filter.1 hx;have hsub:∀ y∈g x,y∈a.atoms.filter (fillM (tval s.values)):=fun y hy=>hp.mem_iff.2 (List.mem_flatMap.2 ⟨x,hx,hy⟩);have hc:=hg x hx;unfold CovM at hc
  split at hc
  ·rename_i hk;obtain ⟨y,e1,e2⟩:=hc;obtain ⟨e3,e4,e5⟩:=cls_inj e2;rw[e1];simp only[List.flatMap_cons,List.flatMap_nil,List.append_nil];rw[←hFc y (hsub y (by rw[e1];simp))];unfold atomCells;rw[e3,e4,e5]
  ·rename_i hk;have hk2:x.kind=2:=(hkb x hx'.1).resolve_left hk
   have hne:tval s.values x.a≠tval s.values x.b:=fun e=>by
    have:=hx'.2;unfold fillM at this;rw[decide_eq_false hk,decide_eq_true e] at this;cases this
   obtain ⟨n,hw⟩:=seg_walk h1 hFc hFn hFk (fun y hy=>(List.mem_filter.1 hy).2) _ _ hc hne hsub;unfold atomCells;rw[if_pos hk2];refine (walk_fuel _ _ _ _ hw).2 8 ?_;have hsl:=flat_sublist (fun x=>(g x).flatMap (cellsOf s)) _ x hx;rw[←List.flatMap_assoc] at hsl;have hpp:=(hp.flatMap_right (cellsOf s));refine addr_len ((hpp.nodup_iff.1 hFn).sublist hsl) fun c hcm=>hadd c ?_;rw[g2];exact hpp.mem_iff.2 (hsl.subset hcm)
 have hall:∀ x∈b.atoms,atomCells s x=some (cellsOf s x):=fun x hx=>by
  unfold cellsOf;cases hfx:fillM (tval s.values) x
  ·rw[unfilled (hkb x hx) hfx];rfl
  ·rw[hfilled x (List.mem_filter.2 ⟨hx,hfx⟩)];rfl
 have e:b.atoms.flatMap (cellsOf s)=((b.atoms.filter (fillM (tval s.values))).flatMap g).flatMap (cellsOf s):=by
  rw[flat_fill _ hkb,List.flatMap_assoc];unfold List.flatMap
  congr 1
  refine List.map_congr_left fun x hx=>?_;show cellsOf s x=(g x).flatMap (cellsOf s);unfold cellsOf;rw[hfilled x hx];rfl
 have hpp:=(hp.flatMap_right (cellsOf s)).symm;rw[←e,←g2] at hpp;refine ⟨b.atoms.flatMap (cellsOf s),partOf_some.2 ⟨h1,hb,?_,(parts_iff _ _ _ List.nodup_nil).2 ⟨hall,by simp,hpp.nodup_iff.2 g3⟩⟩,hpp⟩;simp only[factsHold,Bool.and_eq_true] at h3 ⊢;refine ⟨⟨Asn.valid_facts hb,h3.1.2⟩,List.all_eq_true.2 fun f hm=>?_⟩;unfold Fct.holds;rw[beq_iff_eq];exact hf f hm
theorem snd_holds {s:Ste} {a b:Asn} (h:holdsF s a=true) (he:EntM (tval s.values) a b) (hb:b.valid=true):holdsF s b=true:=by
 obtain ⟨out,h1,h2⟩:=holds_iff.1 h;obtain ⟨out',h3,h4⟩:=snd_part h1 he hb;exact holds_iff.2 ⟨out',h3,fun c hc=>h4.mem_iff.2 (h2 c hc)⟩
theorem cont_set8 {h : List Int} (hl : h.length = 8) {m n : Int} (hm : addrB m = true) (hn : addrB n = true) (v : Int) : cont (h.set (m - 1).toNat v) n = if n = m then v else cont h n := by
  unfold cont;rw [if_pos hn, if_pos hn];simp only [addrB, decide_eq_true_eq] at hm hn;by_cases e : n = m
  · subst e
    rw [if_pos rfl, List.getElem?_set_self (by omega)]; rfl
  · rw [if_neg e, List.getElem?_set_ne (by omega)]
def heapS (vs : List Int) (h : List Int) (xs : List Atm) : List Int := xs.foldl (fun h x => h.set (tval vs x.a - 1).toNat (tval vs x.b)) h
def blank8 : List Int := List.replicate 8 (-1)
theorem heapS_spec {vs : List Int} : ∀ (xs : List Atm) (h : List Int), h.length = 8 → (xs.map fun x => tval vs x.a).Nodup → (∀ x ∈ xs, addrB (tval vs x.a) = true) →
    (heapS vs h xs).length = 8 ∧ (∀ x ∈ xs, cont (heapS vs h xs) (tval vs x.a) = tval vs x.b) ∧ (∀ n, addrB n = true → (∀ x ∈ xs, tval vs x.a ≠ n) → cont (heapS vs h xs) n = cont h n) := by
  intro xs
  induction xs with
  | nil => intro h hl _ _; exact ⟨hl, fun x hx => (by cases hx), fun _ _ _ => rfl⟩
  | cons x xs ih =>
    intro h hl hn ha;rw [List.map_cons, List.nodup_cons] at hn;have hax := ha x List.mem_cons_self;obtain ⟨g1, g2, g3⟩ := ih (h.set (tval vs x.a - 1).toNat (tval vs x.b)) (by simpa using hl) hn.2 fun y hy => ha y (List.mem_cons_of_mem _ hy);refine ⟨g1, fun y hy => ?_, fun n hn2 hne => ?_⟩
    · rcases List.mem_cons.1 hy with rfl | hy
      · show cont (heapS vs (h.set _ _) xs) _ = _
        rw [g3 _ hax fun z hz e => hn.1 (List.mem_map.2 ⟨z, hz, e⟩), cont_set8 hl hax hax, if_pos rfl]
      · exact g2 y hy
    · show cont (heapS vs (h.set _ _) xs) _ = _
      rw [g3 n hn2 fun z hz => hne z (List.mem_cons_of_mem _ hz), cont_set8 hl hax hn2, if_neg (fun e => hne x List.mem_cons_self e.symm)]
theorem heapS_cells {vs : List Int} (hv : vs.all valB = true) : ∀ (xs : List Atm) (h : List Int), h.all cellB = true → (heapS vs h xs).all cellB = true := by
  intro xs
  induction xs with
  | nil => intro h hh; exact hh
  | cons x xs ih =>
    intro h hh;refine ih _ (List.all_eq_true.2 fun y hy => ?_);rcases List.mem_or_eq_of_mem_set hy with hy | rfl
    · exact List.all_eq_true.1 hh y hy
    · have := tval_le hv x.b
      simp [cellB, valB]; omega
theorem cont_blank {n : Int} : cont blank8 n = -1 := by
  unfold cont
  split
  · rename_i h
    simp only [addrB, decide_eq_true_eq] at h;unfold blank8;rw [List.getElem?_replicate, if_pos (by omega)]; rfl
  · rfl
theorem one_cell {vs : List Int} (hl : vs.length = 8) (hv : vs.all valB = true) {a : Asn} (ha : a.valid = true) (hs : Sat (tval vs) a) :
    holdsF ⟨vs, heapS vs blank8 (a.atoms.filter (fillM (tval vs)))⟩ a = true := by
  have hk : ∀ x ∈ a.atoms, x.kind = 1 ∨ x.kind = 2 := fun x hx => by
    have hv := ha;simp only [Asn.valid, Bool.and_eq_true] at hv;have := List.all_eq_true.1 hv.2.2 x hx;simp [Atm.valid] at this;exact this.1.1
  have hadd : ∀ x ∈ a.atoms.filter (fillM (tval vs)), addrB (tval vs x.a) = true := fun x hx => by
    rw [List.mem_filter] at hx;have h1 := hs.nil x hx.1 hx.2;have h2 := tval_le hv x.a;have e0 : tval vs 0 = 0 := rfl;rw [e0] at h1;simp only [addrB, decide_eq_true_eq];omega
  obtain ⟨g1, g2, g3⟩ := heapS_spec _ blank8 rfl hs.apart hadd;generalize hh : heapS vs blank8 (a.atoms.filter (fillM (tval vs))) = h at g1 g2 g3;have hcell : h.all cellB = true := by rw [← hh]; exact heapS_cells hv _ _ (by decide)
  have hstep : ∀ x ∈ a.atoms, atomCells ⟨vs, h⟩ x = some (if fillM (tval vs) x then [tval vs x.a] else []) := fun x hx => by
    cases hf : fillM (tval vs) x
    · rw [if_neg (by decide)]
      unfold fillM at hf;rw [Bool.or_eq_false_iff] at hf
      have h1 : x.kind = 2 := by rcases hk x hx with h | h; · rw [decide_eq_true h] at hf; cases hf.1
                                 · exact h
      have h2 : tval vs x.a = tval vs x.b := by simpa using hf.2
      unfold atomCells;rw [if_pos h1];show walkF h 8 (tval vs x.a) (tval vs x.b) = some [];rw [h2, walkF_here]
    · rw [if_pos rfl]
      have hm := List.mem_filter.2 ⟨hx, hf⟩;have hc := g2 x hm;unfold atomCells
      split
      · rename_i h1
        show walkF h 8 (tval vs x.a) (tval vs x.b) = _
        have hne : tval vs x.a ≠ tval vs x.b := fun e => by
          unfold fillM at hf;rw [decide_eq_false (by omega : ¬ x.kind = 1), decide_eq_true e] at hf;cases hf
        rw [walkF_on h 7 hne (by unfold allocB; rw [hc]; exact decide_eq_true (tval_le hv x.b).1), hc, walkF_here]; rfl
      · first | exact if_pos hc | rfl
  have hpart : ∀ (xs : List Atm) (seen : List Int), (∀ x ∈ xs, x ∈ a.atoms) → (seen ++ (xs.filter (fillM (tval vs))).map fun x => tval vs x.a).Nodup → partAtoms ⟨vs, h⟩ seen xs = some (seen ++ (xs.filter (fillM (tval vs))).map fun x => tval vs x.a) := by
    intro xs
    induction xs with
    | nil => intro seen _ _; simp [partAtoms]
    | cons x xs ih =>
      intro seen hm hn;unfold partAtoms;rw [hstep x (hm x List.mem_cons_self)];cases hf : fillM (tval vs) x
      · rw [List.filter_cons_of_neg (by simp [hf])] at hn ⊢
        simp only [Bool.false_eq_true, if_false, Option.bind_some, addAll];exact ih seen (fun y hy => hm y (List.mem_cons_of_mem _ hy)) hn
      · rw [List.filter_cons_of_pos hf, List.map_cons] at hn ⊢
        have e : seen ++ tval vs x.a :: ((xs.filter (fillM (tval vs))).map fun x => tval vs x.a) = (seen ++ [tval vs x.a]) ++ ((xs.filter (fillM (tval vs))).map fun x => tval vs x.a) := by simp
        rw [e] at hn ⊢;simp only [if_true, Option.bind_some];rw [addAll_some _ _ (List.nodup_append.1 hn).1, Option.bind_some];exact ih _ (fun y hy => hm y (List.mem_cons_of_mem _ hy)) hn
  have hpo : partOf ⟨vs, h⟩ a = some ((a.atoms.filter (fillM (tval vs))).map fun x => tval vs x.a) := by
    rw [partOf_some];refine ⟨?_, ha, ?_, ?_⟩
    · simp only [Ste.valid, Bool.and_eq_true, decide_eq_true_eq]
      exact ⟨⟨hl, g1⟩, hv, hcell⟩
    · simp only [factsHold, Bool.and_eq_true, decide_eq_true_eq]
      refine ⟨⟨Asn.valid_facts ha, hl⟩, List.all_eq_true.2 fun f hf => ?_⟩;unfold Fct.holds;rw [hs.facts f hf];cases f.eq <;> rfl
    · have := hpart a.atoms [] (fun _ h => h) (by simpa using hs.apart)
      simpa using this
  rw [holds_iff];refine ⟨_, hpo, fun n hn => ?_⟩;have hca := cont_alloc hn;rw [List.mem_map];refine Classical.byContradiction fun hno => ?_;have := g3 n hca.1 fun x hx e => hno ⟨x, hx, e⟩;rw [cont_blank] at this;have h2 : 0 ≤ cont h n := hca.2;omega

theorem Sat.same {M N : Int → Int} {a : Asn} (h : Sat N a) (he : ∀ s t, (s = 0 ∨ s ∈ termsL a) → (t = 0 ∨ t ∈ termsL a) → (M s = M t ↔ N s = N t)) : Sat M a := by
  have hX : ∀ x ∈ a.atoms, x.a ∈ termsL a ∧ x.b ∈ termsL a := fun x hx => by
    simp only [termsL, List.mem_append, List.mem_flatMap];exact ⟨Or.inr ⟨x, hx, by simp [atomT]⟩, Or.inr ⟨x, hx, by simp [atomT]⟩⟩
  have hF : ∀ x ∈ a.facts, x.a ∈ termsL a ∧ x.b ∈ termsL a := fun x hx => by
    simp only [termsL, List.mem_append, List.mem_flatMap];exact ⟨Or.inl ⟨x, hx, by simp [factT]⟩, Or.inl ⟨x, hx, by simp [factT]⟩⟩
  have hfill : ∀ x ∈ a.atoms, fillM M x = fillM N x := fun x hx => by
    unfold fillM
    congr 2
    rw [decide_eq_decide];exact he _ _ (Or.inr (hX x hx).1) (Or.inr (hX x hx).2)
  refine ⟨fun f hf => ?_, fun x hx hf e => ?_, ?_⟩
  · rw [← h.facts f hf, decide_eq_decide]
    exact he _ _ (Or.inr (hF f hf).1) (Or.inr (hF f hf).2)
  · rw [hfill x hx] at hf
    exact h.nil x hx hf ((he _ _ (Or.inr (hX x hx).1) (Or.inl rfl)).1 e)
  · rw [List.filter_congr hfill]
    have h1 := h.apart;unfold List.Nodup at h1 ⊢;rw [List.pairwise_map] at h1 ⊢;exact h1.imp_of_mem fun {x y} hx hy hne e => hne ((he _ _ (Or.inr (hX x (List.mem_filter.1 hx).1).1) (Or.inr (hX y (List.mem_filter.1 hy).1).1)).1 e)

theorem nodupN_le : ∀ {l m : List Nat}, l.Nodup → (∀ x ∈ l, x ∈ m) → l.length ≤ m.length := by
  intro l
  induction l with
  | nil => intro m _ _; simp
  | cons a l ih =>
    intro m hn hs;rw [List.nodup_cons] at hn;have hm := hs a List.mem_cons_self;have := ih (m := m.erase a) hn.2 fun x hx => (List.mem_erase_of_ne (by rintro rfl; exact hn.1 hx)).2 (hs x (List.mem_cons_of_mem _ hx));rw [List.length_erase_of_mem hm] at this;have hp := List.length_pos_of_mem hm;rw [List.length_cons]; omega
def rk (c : List Int) (k : Int) : Nat := ((List.range' 1 8).filter fun j : Nat => decide ((j : Int) ≤ k) && decide (cl c (j : Int) = j)).length
def mval (c : List Int) (t : Int) : Int := if 0 < cl c t then (rk c (cl c t) : Int) else 0
def modV (c : List Int) : List Int := (List.range' 1 8).map fun t : Nat => mval c (t : Int)
theorem rk_le (c : List Int) (k : Int) : rk c k ≤ 8 := by
  unfold rk;exact Nat.le_trans (List.length_filter_le _ _) (by simp)
theorem mval_le (c : List Int) (t : Int) : 0 ≤ mval c t ∧ mval c t ≤ 8 := by
  unfold mval;have := rk_le c (cl c t)
  split <;> omega
theorem rk_pos {c : List Int} {k : Int} (h1 : 1 ≤ k) (h8 : k ≤ 8) (hk : cl c k = k) : 1 ≤ rk c k := by
  obtain ⟨n, rfl⟩ := Int.eq_ofNat_of_zero_le (by omega : 0 ≤ k);unfold rk;refine List.length_pos_of_mem (a := n) (List.mem_filter.2 ⟨List.mem_range'_1.2 (by omega), ?_⟩);simp [hk]
theorem rk_lt {c : List Int} {k k' : Int} (h1 : 0 ≤ k) (hlt : k < k') (h8 : k' ≤ 8) (hk : cl c k' = k') : rk c k < rk c k' := by
  obtain ⟨n, rfl⟩ := Int.eq_ofNat_of_zero_le h1;obtain ⟨m, rfl⟩ := Int.eq_ofNat_of_zero_le (by omega : 0 ≤ k');unfold rk;have hnd : (List.range' 1 8).Nodup := List.nodup_range'
  have hsub : ∀ j ∈ m :: (List.range' 1 8).filter (fun j : Nat => decide ((j : Int) ≤ n) && decide (cl c (j : Int) = j)), j ∈ (List.range' 1 8).filter (fun j : Nat => decide ((j : Int) ≤ m) && decide (cl c (j : Int) = j)) := fun j hj => by
    rcases List.mem_cons.1 hj with rfl | hj
    · exact List.mem_filter.2 ⟨List.mem_range'_1.2 (by omega), by simp [hk]⟩
    · rw [List.mem_filter] at hj ⊢
      refine ⟨hj.1, ?_⟩;simp only [Bool.and_eq_true, decide_eq_true_eq] at hj ⊢;exact ⟨by omega, hj.2.2⟩
  have hnd2 : (m :: (List.range' 1 8).filter (fun j : Nat => decide ((j : Int) ≤ n) && decide (cl c (j : Int) = j))).Nodup := by
    rw [List.nodup_cons];refine ⟨fun hm => ?_, hnd.filter _⟩;rw [List.mem_filter] at hm;simp only [Bool.and_eq_true, decide_eq_true_eq] at hm;omega
  have := nodupN_le hnd2 hsub;simpa [Nat.lt_iff_add_one_le] using this
theorem tval_mod {c : List Int} (h0 : cl c 0 = 0) {t : Int} (ht : 0 ≤ t) (h8 : t ≤ 8) : tval (modV c) t = mval c t := by
  unfold tval
  split
  · rename_i e; subst e; unfold mval; rw [h0]; rfl
  · rename_i e
    obtain ⟨n, rfl⟩ := Int.eq_ofNat_of_zero_le ht;unfold modV;rw [List.getElem?_map, List.getElem?_range' (by omega)];simp only [Option.map_some, Option.getD_some]
    congr 1
    omega
theorem modV_ok (c : List Int) : (modV c).length = 8 ∧ (modV c).all valB = true := by
  refine ⟨by simp [modV], List.all_eq_true.2 fun x hx => ?_⟩;obtain ⟨t, -, rfl⟩ := List.mem_map.1 hx;have := mval_le c t;simp [valB]; omega
def Cls (S : Nat) (c : List Int) : Prop := ∀ j : Nat, j < 9 → (S.testBit j = true → (0 ≤ cl c j ∧ cl c j ≤ j) ∧ cl c (cl c j) = cl c j) ∧ (S.testBit j = false → cl c j = -1)
theorem Cls.zero {S : Nat} {c : List Int} (h : Cls S c) (h0 : S.testBit 0 = true) : cl c 0 = 0 := by
  have h1 := ((h 0 (by omega)).1 h0).1;have e : ((0 : Nat) : Int) = 0 := rfl;rw [e] at h1;omega
theorem mval_eq {S : Nat} {c : List Int} (h : Cls S c) {i j : Nat} (hi : i < 9) (hj : j < 9) (bi : S.testBit i = true) (bj : S.testBit j = true) : mval c i = mval c j ↔ cl c i = cl c j := by
  have h1 := (h i hi).1 bi;have h2 := (h j hj).1 bj;constructor
  · intro e
    unfold mval at e;by_cases p1 : 0 < cl c i
    · have q1 := rk_pos (c := c) (by omega) (by omega) h1.2
      rw [if_pos p1] at e;by_cases p2 : 0 < cl c j
      · rw [if_pos p2] at e
        rcases Int.lt_trichotomy (cl c i) (cl c j) with h | h | h
        · have := rk_lt (c := c) h1.1.1 h (by omega) h2.2; omega
        · exact h
        · have := rk_lt (c := c) h2.1.1 h (by omega) h1.2; omega
      · rw [if_neg p2] at e; omega
    · rw [if_neg p1] at e
      by_cases p2 : 0 < cl c j
      · have q2 := rk_pos (c := c) (by omega) (by omega) h2.2
        rw [if_pos p2] at e; omega
      · omega
  · intro e; unfold mval; rw [e]
def modS (a : Asn) (c : List Int) : Ste := ⟨modV c, heapS (modV c) blank8 (filledL a.atoms c)⟩
theorem heapS_map (vs : List Int) (f : Atm → Atm) : ∀ (xs : List Atm) (h : List Int), (∀ x ∈ xs, tval vs (f x).a = tval vs x.a ∧ tval vs (f x).b = tval vs x.b) → heapS vs h (xs.map f) = heapS vs h xs := by
  intro xs
  induction xs with
  | nil => intro h _; rfl
  | cons x xs ih =>
    intro h hx;have h1 := hx x List.mem_cons_self;show heapS vs (h.set (tval vs (f x).a - 1).toNat (tval vs (f x).b)) (xs.map f) = heapS vs (h.set (tval vs x.a - 1).toNat (tval vs x.b)) xs;rw [h1.1, h1.2];exact ih _ fun y hy => hx y (List.mem_cons_of_mem _ hy)
theorem model_law {a : Asn} (hv : a.valid = true) {S : Nat} (h0 : S.testBit 0 = true) (hS : ∀ t ∈ termsL a, S.testBit t.toNat = true) {c : List Int} (hc : c ∈ cases a S) : Sat (tval (modV c)) a ∧ holdsF (modS a c) a = true ∧ canon (tval (modV c)) S = c := by
  obtain ⟨h9, hC, -⟩ := case_iff.1 hc;have hC : Cls S c := hC;have hz := hC.zero h0;have hok := termsL_ok hv
  have hval : ∀ t : Int, (t = 0 ∨ t ∈ termsL a) → ∃ j : Nat, j < 9 ∧ S.testBit j = true ∧ t = j := fun t ht => by
    rcases ht with rfl | ht
    · exact ⟨0, by omega, h0, rfl⟩
    · have h1 := isTermB_iff.1 (hok t ht)
      exact ⟨t.toNat, by omega, hS t ht, (Int.toNat_of_nonneg h1.1).symm⟩
  have hM : ∀ i j : Nat, i < 9 → j < 9 → S.testBit i = true → S.testBit j = true → (tval (modV c) i = tval (modV c) j ↔ cl c i = cl c j) := fun i j hi hj bi bj => by
    rw [tval_mod hz (by omega) (by omega), tval_mod hz (by omega) (by omega)];exact mval_eq hC hi hj bi bj
  have hsat : Sat (tval (modV c)) a := (case_sat hv h0 hc).same fun s t hs ht => by
    obtain ⟨i, hi, bi, rfl⟩ := hval s hs;obtain ⟨j, hj, bj, rfl⟩ := hval t ht;exact hM i j hi hj bi bj
  have hcls : ∀ t ∈ termsL a, tval (modV c) (cl c t) = tval (modV c) t := fun t ht => by
    obtain ⟨j, hj, bj, rfl⟩ := hval t (Or.inr ht);have h1 := (hC j hj).1 bj;rw [tval_mod hz (by omega) (by omega), tval_mod hz (by omega) (by omega)];unfold mval;rw [h1.2]
  refine ⟨hsat, ?_, ?_⟩
  · have e : heapS (modV c) blank8 (filledL a.atoms c) = heapS (modV c) blank8 (a.atoms.filter (fillM (tval (modV c)))) := by
      unfold filledL
      have hfill : ∀ x ∈ a.atoms, Atm.fill c x = fillM (tval (modV c)) x := fun x hx => by
        have hX : x.a ∈ termsL a ∧ x.b ∈ termsL a := by
          simp only [termsL, List.mem_append, List.mem_flatMap];exact ⟨Or.inr ⟨x, hx, by simp [atomT]⟩, Or.inr ⟨x, hx, by simp [atomT]⟩⟩
        obtain ⟨i, hi, bi, ei⟩ := hval _ (Or.inr hX.1);obtain ⟨j, hj, bj, ej⟩ := hval _ (Or.inr hX.2);unfold Atm.fill fillM
        congr 2
        rw [decide_eq_decide, ei, ej];exact (hM i j hi hj bi bj).symm
      rw [List.filter_congr hfill];refine heapS_map _ _ _ _ fun x hx => ?_;have hx := (List.mem_filter.1 hx).1
      have hX : x.a ∈ termsL a ∧ x.b ∈ termsL a := by
        simp only [termsL, List.mem_append, List.mem_flatMap];exact ⟨Or.inr ⟨x, hx, by simp [atomT]⟩, Or.inr ⟨x, hx, by simp [atomT]⟩⟩
      exact ⟨hcls _ hX.1, hcls _ hX.2⟩
    unfold modS;rw [e];exact one_cell (modV_ok c).1 (modV_ok c).2 hv hsat
  · refine (canon_ext h9 fun j hj => ?_).symm
    unfold caseAt;cases hb : S.testBit j
    · exact (hC j hj).2 hb
    · rw [if_pos rfl]
      have h1 := (hC j hj).1 hb;obtain ⟨k, hk⟩ := Int.eq_ofNat_of_zero_le h1.1.1
      have hkb : S.testBit k = true := by
        cases e : S.testBit k
        · have h2 := (hC k (by omega)).2 e
          have h3 := h1.2;rw [hk, h2] at h3;omega
        · rfl
      rw [least_is (k := k) hkb hb ((hM k j (by omega) hj hkb hb).2 (by rw [← hk]; exact h1.2)) (fun i hi hib e => by
        have h2 := ((hC i (by omega)).1 hib).1.2;have h3 := (hM i j (by omega) hj hib hb).1 e
        omega), hk]
def modelL (a : Asn) : Ste := modS a ((cases a (caseS a 0)).head?.getD zeros)
theorem modelL_law {a : Asn} (h : consB a = true) : a.valid = true ∧ holdsF (modelL a) a = true ∧ ∃ c cs, cases a (caseS a 0) = c :: cs ∧ caseOfF (modelL a) a = c := by
  have hv : a.valid = true := (consB_iff.1 h).1;unfold consB at h;unfold modelL
  cases hc : cases a (caseS a 0) with
  | nil => rw [hc, hv] at h; cases h
  | cons c cs =>
    obtain ⟨-, h1, h2⟩ := model_law hv (caseS_zero a 0) (caseS_terms hv 0) (c := c) (by rw [hc]; exact List.mem_cons_self);exact ⟨hv, h1, c, cs, rfl, h2⟩
end
end Go.Proofs.YtgdfdmjnadnlnaaGreat
