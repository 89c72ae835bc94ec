/- Contracts: impl's chains of atoms. -/
import Derived.Test.YtjaohekkmlkinaaGreatMbMatchS
set_option linter.unusedSimpArgs false
set_option linter.unusedVariables false
set_option maxRecDepth 100000
set_option maxHeartbeats 25600000
namespace Go.Proofs.YtjaohekkmlkinaaGreat
section
open Go Go.RowKit Go.Proofs
attribute [local go_sem ↓] Go.wp_at_zero Go.wp_at_succ
theorem Mk.thenB {p:Nat→Prop} {w a b:World} (h:Mk p w a) (hb:Below w.heap.size a b):Mk p w b:=⟨hb.os.trans h.os,hb.tape.trans h.tape,hb.output.trans h.output,Nat.le_trans h.size hb.size,fun k hk hp=>(hb.block k hk).trans (h.block k hk hp)⟩
theorem chainF_none {xs:List Atm} {b:Int} {n:Nat} {used:List Bool} {c:Int} (hf:findU xs used c=none):chainF xs b n used c=none:=by
 cases n with
 | zero=>rfl
 | succ n=>unfold chainF;rw[hf];rfl
theorem chainF_some {xs:List Atm} {b:Int} {n:Nat} {used:List Bool} {c:Int} {k:Nat} (hf:findU xs used c=some k) (hk:k<xs.length):chainF xs b (n+1) used c=if xs[k].b=b then some (used.set k true) else if xs[k].kind=2∧closedB xs b=false then none else chainF xs b n (used.set k true) xs[k].b:=by
 rw[show chainF xs b (n+1) used c=(findU xs used c).bind (fun k=>if ((xs[k]?).getD default).b=b then some (used.set k true) else if ((xs[k]?).getD default).kind=2∧closedB xs b=false then none else chainF xs b n (used.set k true) ((xs[k]?).getD default).b) from rfl,hf];simp only[Option.bind_some,List.getElem?_eq_getElem hk,Option.getD_some]
theorem c_impl_useChain {lo hi:Nat} (A:Option Addr) (d:Nat) (xs:List Atm) (used:List Bool) (x:Atm) (g:Nat) (w:World) (h:AtomsV w lo hi A xs) (hhi:hi≤g) (hk:Blk w g tMt (cmU (.slice A xs.length d) used)) (hl6:xs.length≤6) (hu:used.length=xs.length) :
  Calls Tryz.prog 206 #[.pointer (some ⟨g,0,none⟩),x.val] w fun e w'=>∃ r ys,e=.returned (.tuple #[r,.bool (chainF xs x.b (xs.length+1) used x.a).isSome])∧IntsO w' w.heap.size r ys∧Mk (fun h=>h=g) w w'∧(∀ u,chainF xs x.b (xs.length+1) used x.a=some u→Blk w' g tMt (cmU (.slice A xs.length d) u)):=by
 have hgl:=hk.lt;have H:=ax h;have HU:=ax hu;have HK:=ax hk;clear h hu hk;(go_enter Tryz.func206,Tryz.ntmps206);(go_wp2_with fail);have k0:=Blk.new w tA #[.int .i64 x.kind,.int .i64 x.a,.int .i64 x.b];have kg:=HK.o.alloc (.cells #[.int .i64 x.kind,.int .i64 x.a,.int .i64 x.b] tA);cases hb0:(x.b == 0)
 case' false=>
  refine wp_region_noPanic ?_;refine wp_region_held_drew (S:=(fun w'=>(∀ i,w'.cell? ⟨w.heap.size,i,none⟩=#[.int .i64 x.kind,.int .i64 x.a,.int .i64 x.b][i]?)∧w'.cell? ⟨g,0,none⟩=some (.slice A xs.length d))) (by kernel_rfl) (⟨Blk.cell blks,(show Blk _ g tMt (cmU (.slice A xs.length d) used) from blks).cell 0⟩) (fun aH=>?_);refine tk2 0 rfl aH (h:=tk2 1 rfl aH (h:=tk2 2 rfl aH (h:=?_)));(try simp only[zz]);refine tk2 3 rfl aH (h:=tk2 4 rfl aH (h:=tk2 5 rfl aH (h:=?_)));(try simp only[zz]);refine tk2 6 rfl aH (h:=tk2 7 rfl aH (h:=tk2 8 rfl aH (h:=?_)));(try simp only[zz]);refine tk2 9 rfl aH (h:=?_);refine rdc 10 rfl fun K hK=>?_;(try simp only[zz]);(go_simp;refine (c_impl_beginsAt A d xs x.b _ (H.o.bz bel)).mono ?_;rintro e w1 ⟨rfl,hB1⟩;have hB:=bgo (w:=w) bel hB1;replace k0:=Blk.nz (g:=w.heap.size) blks hB1;replace kg:=Blk.nz (g:=g) blks hB1);refine hK.out _ _ (⟨k0.cell,kg.cell 0⟩) ?_;clear aH hK K;intro aH;(try simp only[zz]);refine tk2 11 rfl aH (h:=tk2 12 rfl aH (h:=?_));(try simp only[zz]);refine dn1 ?_;have HCB:aJ (closedB xs x.b=begB xs x.b):=by show _=_;unfold closedB;rw[decide_eq_false (by simpa using hb0)];rfl
  obtain ⟨cb,hcb⟩:∃ t,t=begB xs x.b:=⟨_,rfl⟩;rw[←hcb] at HCB ⊢;clear hcb
 case' true=>
  refine wp_region_noPanic ?_;refine wp_region_held_drew (S:=(fun w'=>(∀ i,w'.cell? ⟨w.heap.size,i,none⟩=#[.int .i64 x.kind,.int .i64 x.a,.int .i64 x.b][i]?)∧w'.cell? ⟨g,0,none⟩=some (.slice A xs.length d))) (by kernel_rfl) (⟨Blk.cell blks,(show Blk _ g tMt (cmU (.slice A xs.length d) used) from blks).cell 0⟩) (fun aH=>?_);refine tk2 0 rfl aH (h:=tk2 1 rfl aH (h:=tk2 2 rfl aH (h:=?_)));(try simp only[zz]);refine tk2 3 rfl aH (h:=?_);(try simp only[zz]);refine tku 4 rfl aH ?_;(try simp only[zz]);refine tku 5 rfl aH ?_;(try simp only[zz]);refine tku 6 rfl aH ?_;(try simp only[zz]);refine tku 7 rfl aH ?_;(try simp only[zz]);refine tku 8 rfl aH ?_;(try simp only[zz]);refine tku 9 rfl aH ?_;(try simp only[zz]);refine tku 10 rfl aH ?_;(try simp only[zz]);refine tk2 11 rfl aH (h:=tk2 12 rfl aH (h:=?_));(try simp only[zz]);refine dn1 ?_;have HCB0:aJ (closedB xs x.b=true):=by show _=_;unfold closedB;rw[decide_eq_true (by simpa using hb0)];rfl
  obtain ⟨cb,hcb⟩:∃ t,t=true:=⟨_,rfl⟩;rw[←hcb] at HCB0;have HCB:=HCB0;clear HCB0;obtain ⟨w1,hw1⟩:∃ X,X=(w.alloc (.cells #[.int .i64 x.kind,.int .i64 x.a,.int .i64 x.b] tA)).drew:=⟨_,rfl⟩;have hB:Below w.heap.size w w1:=by rw[hw1];exact bel
  replace k0:Blk w1 w.heap.size tA #[.int .i64 x.kind,.int .i64 x.a,.int .i64 x.b]:=by rw[hw1];exact blks
  replace kg:Blk w1 g tMt (cmU (.slice A xs.length d) used):=by rw[hw1];exact blks
  rw[←hw1];clear hw1;(try rw[←hcb]);clear hcb
 all_goals
  have gl1:=kg.lt;have l0:=k0.lt;have q0:=k0.cell;have qg:=kg.cell 0;have hz1:=hB.size;(go_wp2_with fail)
  go_loopw [7,8] (fun s7 s8 wr=>∃ (u:List Bool) (n:Nat) (at_:Int) (U:Option Addr) (uc:Nat) (ys:List Int),s7=.slice U ys.length uc∧s8=.int .i64 at_∧aJ (chainF xs x.b (xs.length+1) used x.a=chainF xs x.b n u at_)∧aJ (xs.length<n+u.count true)∧aJ (u.length=xs.length)∧aJ (ys.length≤u.count true)∧aJ (IntsO wr w.heap.size (.slice U ys.length uc) ys)∧Blk wr w.heap.size tA #[.int .i64 x.kind,.int .i64 x.a,.int .i64 x.b]∧Blk wr g tMt (cmU (.slice A xs.length d) u)∧aJ (Mk (fun h=>h=g) w wr)) (fun s7 _ _=>match s7 with | .slice _ n _=>7 - n|_=>0)
  case atStart=>exact ⟨used,xs.length+1,x.a,none,0,[],rfl,rfl,rfl,by show _<_;omega,HU.o,Nat.zero_le _,IntsO.nil _ _,k0,kg,Mk.below_ hB⟩
  case round=>
   clear k0 kg hB gl1 l0 hz1 q0 qg;obtain ⟨u,n,at_,U,uc,ys,rfl,rfl,HC,HN,HL,HY,HO,k0,kg,HM⟩:=hrel;have hA:aJ (AtomsV wr lo hi A xs):=H.o.keepM HM.o hhi (by omega);have gl1:=kg.lt;have l0:=k0.lt;have qg:=kg.cell 0;have hzw:=HM.o.size;(go_wp2_with fail);refine (c_impl_unusedAt A d _ xs u at_ g _ (hA.o.bz bel) kg hl6 HL.o).mono ?_;rintro e w2 ⟨rfl,hB1⟩;replace k0:=k0.nz hB1;replace kg:=kg.nz hB1;have HM2:aJ (Mk (fun h=>h=g) w w2):=HM.o.trans (Mk.below_ hB1);have HO2:aJ (IntsO w2 w.heap.size (.slice U ys.length uc) ys):=HO.o.bz hB1;have hA2:aJ (AtomsV w2 lo hi A xs):=hA.o.bz hB1;have gl2:=kg.lt;have l2:=k0.lt;have hz2:=HM2.o.size;clear hB1 HO HM hA;cases hf:findU xs u at_
   ·have E:aJ (chainF xs x.b (xs.length+1) used x.a=none):=by show _=_;rw[HC.o];exact chainF_none hf
    clear hf;simp only[Option.getD_none,Option.isSome_none];(go_wp2_with fail);go_ret2;exact ⟨_,[],by rw[E.o];rfl,IntsO.nil _ _,HM2.o,fun u' hu'=>by rw[E.o] at hu';cases hu'⟩
   ·rename_i k;obtain ⟨hkl,hfr⟩:=findU_some hf;have hfu:=freeAt_used hfr;have hct:=count_take hfu.2;have hcl:=List.count_le_length (a:=true) (l:=u.set k true);rw[List.length_set,HL.o] at hcl;obtain ⟨m,rfl⟩:∃ m,n=m+1:=⟨n - 1,by have:=HN.o;omega⟩;have HS:=ax (chainF_some (n:=m) (b:=x.b) hf hkl);have HFU:=ax hfu;have HCT:=ax hct;have HCL:=ax hcl;have hkx:(k:Int)<(xs.length:Int):=by omega
    have hyl:ys.length≤5:=by have:=HY.o;omega
    clear hf hfr hfu hct hcl;simp only[Option.getD_some,Option.isSome_some];(go_wp2_with fail);refine (c_impl_take k g _ kg HFU.o.2 (by rw[HL.o];exact hl6)).mono ?_;rintro e w3 ⟨⟨v,rfl⟩,kg3,hM3⟩;have k3:=hM3.blk k0 (by omega);have HM3:aJ (Mk (fun h=>h=g) w w3):=HM2.o.trans hM3;have hA3:aJ (AtomsV w3 lo hi A xs):=hA2.o.keepM hM3 hhi (by omega);have HO3:aJ (IntsO w3 w.heap.size (.slice U ys.length uc) ys):=HO2.o.mk hM3 fun h e1 e2=>by have:=(HO2.o.1.lt h e1).1;omega
    have hz3:=HM3.o.size;clear k0 kg hM3 HM2 HO2 hA2;obtain ⟨bb,off,rfl,hbl⟩:=hA3.o.blt hkl;obtain ⟨g0,g1,g2⟩:=hA3.o.cl hkl;obtain ⟨y,hy⟩:∃ y,y=xs[k]:=⟨_,rfl⟩;rw[←hy] at g0 g1 g2 HS;have qg:=kg3.cell 0;have q3:=k3.cell;have lg3:=kg3.lt;have l3:=k3.lt;have HYE:=ax hy;clear hy g0 g1 g2;obtain f1|⟨f1,f2,rfl⟩|⟨f1,f2⟩|⟨f1,f2,rfl⟩:((y.b == x.b)=true)∨((y.b == x.b)=false∧(y.kind == 2)=true∧cb=false)∨((y.b == x.b)=false∧(y.kind == 2)=false)∨((y.b == x.b)=false∧(y.kind == 2)=true∧cb=true):=by cases (y.b == x.b)<;>cases (y.kind == 2)<;>cases cb<;>simp
    ·have E:aJ (chainF xs x.b (xs.length+1) used x.a=some (u.set k true)):=by show _=_;rw[HC.o,HS.o,if_pos (by simpa using f1)]
     (go_wp2_with (at_builtin;refine appI rfl _ _ rfl (v:=.slice U ys.length uc) rfl (IntsO.bz HO3.o bel) w3.heap.size k rfl (cell_box _ _ _) (by omega) (by simp;omega) ?_;intro A' c' w4 o4 hg4 hB4;have kg4:=Blk.zm (g:=g) (hg:=hg4) (kg3.alloc _) (IntsO.bz (w:=w3) HO3.o bel).1 (by decide);have k4:=Blk.zm (g:=w.heap.size) (hg:=hg4) (k3.alloc _) (IntsO.bz (w:=w3) HO3.o bel).1 (by decide);have qg4:=kg4.cell 0;have q4:=k4.cell;have lg4:=kg4.lt;have l4:=k4.lt;have hB34:Below w.heap.size w3 w4:=Below.trans (btoB (w:=w3) bel hz3) hB4;have hA4:aJ (AtomsV w4 lo hi (some ⟨bb,off,none⟩) xs):=hA3.o.keepB hB34 (by omega);obtain ⟨g0,g1,g2⟩:=hA4.o.cl hkl;rw[←HYE.o] at g0 g1 g2;clear qg q3));go_ret2;exact ⟨_,ys++[(k:Int)],by rw[E.o];rfl,o4,HM3.o.thenB hB34,fun u' hu'=>by rw[E.o] at hu';cases hu';exact kg4⟩
    ·have E:aJ (chainF xs x.b (xs.length+1) used x.a=none):=by show _=_;rw[HC.o,HS.o,if_neg (by simpa using f1),if_pos ⟨by simpa using f2,HCB.o⟩]
     (go_wp2_with (at_builtin;refine appI rfl _ _ rfl (v:=.slice U ys.length uc) rfl (IntsO.bz HO3.o bel) w3.heap.size k rfl (cell_box _ _ _) (by omega) (by simp;omega) ?_;intro A' c' w4 o4 hg4 hB4;have kg4:=Blk.zm (g:=g) (hg:=hg4) (kg3.alloc _) (IntsO.bz (w:=w3) HO3.o bel).1 (by decide);have k4:=Blk.zm (g:=w.heap.size) (hg:=hg4) (k3.alloc _) (IntsO.bz (w:=w3) HO3.o bel).1 (by decide);have qg4:=kg4.cell 0;have q4:=k4.cell;have lg4:=kg4.lt;have l4:=k4.lt;have hB34:Below w.heap.size w3 w4:=Below.trans (btoB (w:=w3) bel hz3) hB4;have hA4:aJ (AtomsV w4 lo hi (some ⟨bb,off,none⟩) xs):=hA3.o.keepB hB34 (by omega);obtain ⟨g0,g1,g2⟩:=hA4.o.cl hkl;rw[←HYE.o] at g0 g1 g2;clear qg q3));go_ret2;exact ⟨_,[],by rw[E.o];rfl,IntsO.nil _ _,HM3.o.thenB hB34,fun u' hu'=>by rw[E.o] at hu';cases hu'⟩
    ·have E:aJ (chainF xs x.b (xs.length+1) used x.a=chainF xs x.b m (u.set k true) y.b):=by show _=_;rw[HC.o,HS.o,if_neg (by simpa using f1),if_neg (fun h=>by simp[h.1] at f2)]
     go_wp2_with (at_builtin;refine appI rfl _ _ rfl (v:=.slice U ys.length uc) rfl (IntsO.bz HO3.o bel) w3.heap.size k rfl (cell_box _ _ _) (by omega) (by simp;omega) ?_;intro A' c' w4 o4 hg4 hB4;have kg4:=Blk.zm (g:=g) (hg:=hg4) (kg3.alloc _) (IntsO.bz (w:=w3) HO3.o bel).1 (by decide);have k4:=Blk.zm (g:=w.heap.size) (hg:=hg4) (k3.alloc _) (IntsO.bz (w:=w3) HO3.o bel).1 (by decide);have qg4:=kg4.cell 0;have q4:=k4.cell;have lg4:=kg4.lt;have l4:=k4.lt;have hB34:Below w.heap.size w3 w4:=Below.trans (btoB (w:=w3) bel hz3) hB4;have hA4:aJ (AtomsV w4 lo hi (some ⟨bb,off,none⟩) xs):=hA3.o.keepB hB34 (by omega);obtain ⟨g0,g1,g2⟩:=hA4.o.cl hkl;rw[←HYE.o] at g0 g1 g2;clear qg q3)
     go_round
     case rel=>exact ⟨u.set k true,m,y.b,some ⟨A',0,none⟩,c',ys++[(k:Int)],by simp,rfl,E,by show _<_;have:=HN.o;have:=HCT.o;omega,by show _=_;rw[List.length_set];exact HL.o,by show _≤_;have:=HY.o;have:=HCT.o;simp;omega,by show IntsO _ _ _ _;simpa using o4,k4,kg4,HM3.o.thenB hB34⟩
     case measure=>simp;omega
    ·have E:aJ (chainF xs x.b (xs.length+1) used x.a=chainF xs x.b m (u.set k true) y.b):=by show _=_;rw[HC.o,HS.o,if_neg (by simpa using f1),if_neg (fun h=>by have:=HCB.o;rw[this] at h;cases h.2)]
     go_wp2_with (at_builtin;refine appI rfl _ _ rfl (v:=.slice U ys.length uc) rfl (IntsO.bz HO3.o bel) w3.heap.size k rfl (cell_box _ _ _) (by omega) (by simp;omega) ?_;intro A' c' w4 o4 hg4 hB4;have kg4:=Blk.zm (g:=g) (hg:=hg4) (kg3.alloc _) (IntsO.bz (w:=w3) HO3.o bel).1 (by decide);have k4:=Blk.zm (g:=w.heap.size) (hg:=hg4) (k3.alloc _) (IntsO.bz (w:=w3) HO3.o bel).1 (by decide);have qg4:=kg4.cell 0;have q4:=k4.cell;have lg4:=kg4.lt;have l4:=k4.lt;have hB34:Below w.heap.size w3 w4:=Below.trans (btoB (w:=w3) bel hz3) hB4;have hA4:aJ (AtomsV w4 lo hi (some ⟨bb,off,none⟩) xs):=hA3.o.keepB hB34 (by omega);obtain ⟨g0,g1,g2⟩:=hA4.o.cl hkl;rw[←HYE.o] at g0 g1 g2;clear qg q3)
     go_round
     case rel=>exact ⟨u.set k true,m,y.b,some ⟨A',0,none⟩,c',ys++[(k:Int)],by simp,rfl,E,by show _<_;have:=HN.o;have:=HCT.o;omega,by show _=_;rw[List.length_set];exact HL.o,by show _≤_;have:=HY.o;have:=HCT.o;simp;omega,by show IntsO _ _ _ _;simpa using o4,k4,kg4,HM3.o.thenB hB34⟩
     case measure=>simp;omega
theorem useOne_eq (xs:List Atm) (u:List Bool) (x:Atm):useOne xs u x=if x.kind=1 then cellF xs u x else chainF xs x.b (xs.length+1) u x.a:=rfl
theorem cm_new (V:Value) (n:Nat) : #[V,.bool false,.bool false,.bool false,.bool false,.bool false,.bool false,.int .i64 0]=cmU V (List.replicate n false):=by
 have h:∀ j,ub (List.replicate n false) j=false:=by
  intro j;unfold ub;rw[List.getElem?_replicate]
  split<;>rfl
 unfold cmU cmC;simp only[h];simp[List.count_replicate]
theorem matchF_drop (xs:List Atm) (u:List Bool) (goal:List Atm) (k:Nat) (hk:k<goal.length):matchF xs u (goal.drop k)=(useOne xs u goal[k]).bind fun u'=>matchF xs u' (goal.drop (k+1)):=by
 rw[List.drop_eq_getElem_cons hk];rfl
theorem matchF_end (xs:List Atm) (u:List Bool) (goal:List Atm):matchF xs u (goal.drop goal.length)=some u:=by rw[List.drop_length];rfl
section
variable {ops:Array Oper} {rest:List Oper} {o:Oper} {a:Act} {Q:Exit→Act→World→Prop} {w:World} {base:Nat} {v:Value} {vs:List Value}
theorem appOwn (hgd:o.guard=none) (s x:Operand) (ho:o.op=.call { callee:=.builtin .append,args:=#[s,x],argTypes:=#[195,195] })
  (hs:a.eval s=v) (h0:w.ownsRow base tIS 1 v vs.length vs) (hbase:base≤w.heap.size) {g:Nat} {A:Option Addr} {n c:Nat} (hg:Blk w g tIS #[.slice A n c]) (hx:a.eval x=.slice (some ⟨g,0,none⟩) 1 1) (hl:vs.length+1≤1049600)
  (h:∀ A' c' w',w'.ownsRow base tIS 1 (.slice A' (vs.length+1) c') (vs.length+1) (vs++[.slice A n c])→w.grownBy w' v.ownBlock→Below base w w'→wpList Tryz.prog ops Q rest (a.put o.dst (.slice A' (vs.length+1) c')) w'):wpList Tryz.prog ops Q (o :: rest) a w:=by
 refine wpList_appL hgd s x 195 ho Tryz.underlying195 infoIS rfl (by decide) (by decide) hs h0 hx (rwS hg) (by intro u hu;simp at hu;subst hu;rfl) (by omega) hbase ?_;intro v' w' h1 h2 h3;obtain ⟨A',c',rfl,-⟩:=own_reads (by simpa using h1:w'.ownsRow base tIS 1 v' (vs++[Value.slice A n c]).length (vs++[Value.slice A n c])) (by simp[Lim];omega);simp only[List.length_append,List.length_cons,List.length_nil,Nat.zero_add] at h1 ⊢;exact h A' c' w' h1 h2 h3
end
theorem AtomsO.readsU {w:World} {base hi n c:Nat} {A:Option Addr} {xs:List Atm} (h:AtomsO w base (.slice A n c) xs) (hu:Und (.slice A n c) hi):AtomsV w base hi A xs:=by
 obtain ⟨A',c',e,h1⟩:=h.rj;injection e with e1 e2 e3;subst e1;refine ⟨⟨h1.raw.1,fun hn=>?_⟩,h1.lim⟩;obtain ⟨b,o,e,h2,-,h4⟩:=h1.raw.2 hn;subst e;exact ⟨b,o,rfl,h2,hu b rfl,h4⟩
theorem own_blk_ne {w:World} {base size n g:Nat} {e t:TypeId} {v:Value} {xs:List Value} {cs:Array Value} (h:w.ownsRow base e size v n xs) (hk:Blk w g t cs) (ht:t≠e):v.ownBlock≠some g:=by
 intro hg;rcases h.2 with ⟨rfl,-⟩|⟨k,cap,cur,rfl,-,hh,-⟩
 ·cases hg
 ·have e1:k=g:=by simpa[Value.ownBlock] using hg
  subst e1;exact (Blk.ne_ (g:=k) hk hh ht) rfl
theorem c_impl_matchCase {lo hi lo' hi':Nat} (v v':Value) (a b:Asn) (c:List Int) (w:World) (h:AsnV w lo hi v a) (h':AsnV w lo' hi' v' b) (ha:a.valid=true) (hb:b.valid=true) (hc:c.length=9) :
  Calls Tryz.prog 153 #[v,v',.agg (case9 c)] w fun e w'=>∃ r,e=.returned (.tuple #[r,.bool (entB a b c)])∧Below w.heap.size w w':=by
 have HA:=ax (Asn.valid_ok ha);have HBV:=ax (Asn.valid_ok hb);have HC:=ax hc
 have hal:a.atoms.length≤6:=by
  simp only[Asn.valid,Bool.and_eq_true,decide_eq_true_eq] at ha;exact ha.2.1
 have hbl:b.atoms.length≤6:=by
  simp only[Asn.valid,Bool.and_eq_true,decide_eq_true_eq] at hb;exact hb.2.1
 obtain ⟨A1,c1,A2,c2,rfl,h1,h2⟩:=h;obtain ⟨A3,c3,A4,c4,rfl,h3,h4⟩:=h';have H2:=ax h2;have H3:=ax h3;have H4:=ax h4;have HE:aJ (entB a b c=(b.facts.all (Fct.fits c)&&matchB (filledL a.atoms c) (filledL b.atoms c))):=rfl;clear h1 h2 h3 h4 ha hb hc;(go_enter Tryz.func153,Tryz.ntmps153);obtain ⟨k0,k1,k2⟩:=blk3 w tAs tAs tTc #[.slice A1 a.facts.length c1,.slice A2 a.atoms.length c2] #[.slice A3 b.facts.length c3,.slice A4 b.atoms.length c4] (case9 c);(go_wp2_with fail);refine (c_impl_factsHold A3 c3 b.facts c (w.heap.size+1+1) _ (H3.o.bz bel) (k2.case HC.o) HC.o HBV.o.1).mono ?_;rintro e w1 ⟨rfl,hB1⟩;have hB:Below w.heap.size w w1:=bgo (w:=w) bel hB1;replace k0:=k0.nz hB1;replace k1:=k1.nz hB1;replace k2:=k2.nz hB1;(replace qk0:=k0.z;replace qk1:=k1.z;replace qk2:=k2.z);clear hB1;cases hf:b.facts.all (Fct.fits c)
 ·have E:aJ (entB a b c=false):=by show _=_;rw[HE.o,hf];rfl
  clear hf;(go_wp2_with fail);go_ret2;exact ⟨_,by rw[E.o];rfl,hB⟩
 ·have E:aJ (entB a b c=matchB (filledL a.atoms c) (filledL b.atoms c)):=by show _=_;rw[HE.o,hf];rfl
  clear hf;(go_wp2_with fail);refine (c_impl_filled A2 c2 a.atoms c (w.heap.size+1+1) _ (H2.o.bz hB) (k2.case HC.o) HC.o HA.o.2).mono ?_;rintro e w2 ⟨r2,rfl,o2,hB2⟩;obtain ⟨X,xc,rfl,xV⟩:=o2.rj;have hxl:=filledL_len a.atoms c;obtain ⟨xs,hxs⟩:∃ xs,xs=filledL a.atoms c:=⟨_,rfl⟩;have HXS:=ax hxs;rw[←hxs] at o2 xV hxl ⊢;have XV:=ax xV;have hBB:=bgo hB hB2;replace k0:=k0.nz hB2;replace k1:=k1.nz hB2;replace k2:=k2.nz hB2;(replace qk0:=k0.z;replace qk1:=k1.z;replace qk2:=k2.z);have HUX:aJ (Und (.slice X xs.length xc) w2.heap.size):=fun h hh=>(o2.1.lt h hh).2;have hz1:=hB.size;have hz2:=hBB.size;have o2l:=o2.bq (base':=w.heap.size) hz1;clear hB2 hB xV hxs o2;(go_wp2_with fail);refine (c_impl_filled A4 c4 b.atoms c (w.heap.size+1+1) _ (H4.o.bz bel) (Blk.case (c:=c) blks HC.o) HC.o HBV.o.2).mono ?_;rintro e w3 ⟨r3,rfl,o3,hB3⟩;have km0:Blk w3 w2.heap.size tMt #[.slice X xs.length xc,.bool false,.bool false,.bool false,.bool false,.bool false,.bool false,.int .i64 0]:=Blk.nz blks hB3;have km:Blk w3 w2.heap.size tMt (cmU (.slice X xs.length xc) (List.replicate xs.length false)):=by rw[←cm_new];exact km0
  obtain ⟨G,gc,rfl,-⟩:=o3.rj;have hgl:=filledL_len b.atoms c;obtain ⟨goal,hgo⟩:∃ goal,goal=filledL b.atoms c:=⟨_,rfl⟩;have HGO:=ax hgo;rw[←hgo] at o3 hgl ⊢;have HXO:aJ (AtomsO w3 w.heap.size (.slice X xs.length xc) xs):=(o2l.bz (w':=w2.alloc (.cells #[.slice X xs.length xc,.bool false,.bool false,.bool false,.bool false,.bool false,.bool false,.int .i64 0] tMt)) bel).bz hB3;have HG:aJ (AtomsO w3 (w2.heap.size+1) (.slice G goal.length gc) goal):=o3.bq (by simp);have HB3:aJ (Below w.heap.size w w3):=bgo (w:=w) bel hB3;have E2:aJ (entB a b c=matchB xs goal):=by show _=_;rw[E.o,HXS.o,HGO.o]
  clear hB3 km0 o3 o2l hgo hBB k0 k1 k2 qk0 qk1 qk2 XV;obtain ⟨g,hge⟩:∃ g,g=w2.heap.size:=⟨_,rfl⟩;rw[←hge] at km HG HUX hz2 ⊢;clear hge;(go_wp2_with fail)
  go_loopw [9,26] (fun s9 s26 wr=>∃ (k:Nat) (u:List Bool) (U:Option Addr) (uc:Nat) (vs:List Value),k≤goal.length∧s26=.int .i64 k∧s9=.slice U vs.length uc∧vs.length=k∧aJ (matchF xs (List.replicate xs.length false) goal=matchF xs u (goal.drop k))∧aJ (u.length=xs.length)∧aJ (wr.ownsRow w.heap.size tIS 1 (.slice U vs.length uc) vs.length vs)∧Blk wr g tMt (cmU (.slice X xs.length xc) u)∧aJ (AtomsO wr (g+1) (.slice G goal.length gc) goal)∧aJ (AtomsO wr w.heap.size (.slice X xs.length xc) xs)∧aJ (Below w.heap.size w wr)) (fun _ i _=>goal.length - (intOf i).toNat)
  case atStart=>exact ⟨0,List.replicate xs.length false,none,0,[],Nat.zero_le _,rfl,rfl,rfl,rfl,by show _=_;simp,World.ownsRow_nil _ _ _ _,km,HG,HXO,HB3⟩
  case round=>
   clear km HG HXO HB3;obtain ⟨k,u,U,uc,vs,hk,rfl,rfl,hvk,HM,HL,HO,km,HG,HXO,HB⟩:=hrel;have hzr:=HB.o.size;have lm:=km.lt;by_cases hlt:k<goal.length
   ·obtain ⟨G',gc',eG,gV⟩:=HG.o.rj;injection eG with eG1 eG2 eG3;subst eG1;clear eG2 eG3;obtain ⟨gb,go_,rfl,lgb⟩:=gV.blt hlt;obtain ⟨g0,g1,g2⟩:=gV.cl hlt;have HMD:=ax (matchF_drop xs u goal k hlt);obtain ⟨x,hx⟩:∃ x,x=goal[k]:=⟨_,rfl⟩;rw[←hx] at g0 g1 g2 HMD;have HXV:aJ (AtomsV wr w.heap.size g X xs):=HXO.o.readsU HUX.o;clear hx gV;cases hkd:(x.kind == 1)
    case' false=>have e0:useOne xs u x=chainF xs x.b (xs.length+1) u x.a:=by rw[useOne_eq,if_neg (by simpa using hkd)]
    case' true=>have e0:useOne xs u x=cellF xs u x:=by rw[useOne_eq,if_pos (by simpa using hkd)]
    all_goals have HE0:=ax e0
    all_goals clear e0
    case' false=>
     (go_wp2_with fail);refine (c_impl_useChain X xc xs u x g _ (HXV.o.bz bel) (Nat.le_refl _) (km.alloc _) (by omega) HL.o).mono ?_;rintro e w4 ⟨r,ys,rfl,oy,hM,hu⟩
    case' true=>
     (go_wp2_with fail);refine (c_impl_useCell X xc xs u x g _ (HXV.o.bz bel) (Nat.le_refl _) (km.alloc _) (by omega) HL.o).mono ?_;rintro e w4 ⟨r,ys,rfl,oy,hM,hu⟩
    all_goals
     rw[←HE0.o] at hu ⊢;obtain ⟨R,rc,rfl,-⟩:=oy.rj;have HU1:=ax hu;have HO4:aJ (w4.ownsRow w.heap.size tIS 1 (.slice U vs.length uc) vs.length vs):=own_mk (own_below (w':=wr.alloc (.cells #[.int .i64 x.kind,.int .i64 x.a,.int .i64 x.b] tA)) HO.o bel) hM fun h e1 e2=>own_blk_ne HO.o km (by decide) (by rw[e1,e2]);have HG4:aJ (AtomsO w4 (g+1) (.slice (some ⟨gb,go_,none⟩) goal.length gc) goal):=(HG.o.bz (w':=wr.alloc (.cells #[.int .i64 x.kind,.int .i64 x.a,.int .i64 x.b] tA)) bel).mk hM fun h e1 e2=>by have:=(HG.o.1.lt h e1).1;omega
     have HX4:aJ (AtomsO w4 w.heap.size (.slice X xs.length xc) xs):=(HXO.o.bz (w':=wr.alloc (.cells #[.int .i64 x.kind,.int .i64 x.a,.int .i64 x.b] tA)) bel).mk hM fun h e1 e2=>by have:=HUX.o h e1;omega
     have HB4:aJ (Below w.heap.size w w4):=(bbox HB.o _).trans (hM.bz (lo:=w.heap.size) (fun h e=>by omega) (by simp;omega));have hz4:=HB4.o.size;clear hu hM oy HO HG HXO HB km HXV g0 g1 g2;cases hres:useOne xs u x
     ·have E3:aJ (entB a b c=false):=by show _=_;rw[E2.o];unfold matchB;rw[HM.o,HMD.o,hres];rfl
      clear hres;simp only[Option.isSome_none];(go_wp2_with fail);go_ret2;exact ⟨_,by rw[E3.o];rfl,HB4.o⟩
     ·rename_i u';have km4:=HU1.o u' hres;have lm4:=km4.lt;have HMS:aJ (matchF xs (List.replicate xs.length false) goal=matchF xs u' (goal.drop (k+1))):=by show _=_;rw[HM.o,HMD.o,hres];rfl
      have HL':aJ (u'.length=xs.length):=by show _=_;rw[useOne_len hres];exact HL.o
      clear hres;simp only[Option.isSome_some];have hvl:vs.length+1≤1049600:=by omega
      go_wp2_with (at_builtin;refine appOwn (v:=.slice U vs.length uc) (base:=w.heap.size) rfl _ _ rfl rfl (own_below HO4.o bel) (by simp;omega) (Blk.new w4 tIS _) rfl hvl ?_;intro A' c' w5 o5 hg5 hB5;have oo:=own_below (w':=w4.alloc (.cells #[.slice R ys.length rc] tIS)) HO4.o bel;have km5:=Blk.zm (g:=g) (hg:=hg5) (km4.alloc _) oo (by decide);have HG5:aJ (AtomsO w5 (g+1) (.slice (some ⟨gb,go_,none⟩) goal.length gc) goal):=⟨own_grownO (own_below (w':=w4.alloc (.cells #[.slice R ys.length rc] tIS)) HG4.o.1 bel) oo hg5 (by decide),HG4.o.2⟩;have HX5:aJ (AtomsO w5 w.heap.size (.slice X xs.length xc) xs):=⟨own_grownO (own_below (w':=w4.alloc (.cells #[.slice R ys.length rc] tIS)) HX4.o.1 bel) oo hg5 (by decide),HX4.o.2⟩;have HB5:aJ (Below w.heap.size w w5):=(bbox HB4.o _).trans hB5;have HO5:=ax o5;clear o5 oo hB5 hg5)
      go_round
      case rel=>exact ⟨k+1,u',A',c',vs++[.slice R ys.length rc],by omega,by go_num,by simp<;>omega,by simp;omega,HMS,HL',by show World.ownsRow _ _ _ _ _ _ _;simpa using HO5.o,km5,HG5,HX5,HB5⟩
      case measure=>simp[intOf];omega
   ·obtain rfl:k=goal.length:=by omega
    have E3:aJ (entB a b c=u.all id):=by show _=_;rw[E2.o];unfold matchB;rw[HM.o,matchF_end]
    have q0:wr.cell? ⟨g,0,none⟩=some (.slice X xs.length xc):=km.cell 0;have q7:wr.cell? ⟨g,7,none⟩=some (.int .i64 ((u.count true:Nat):Int)):=km.cell 7;by_cases hcc:u.count true=xs.length
    ·have E4:aJ (entB a b c=true):=by show _=_;rw[E3.o];exact count_all.1 (by rw[hcc,HL.o])
     rw[hcc] at q7;clear hcc km;(go_wp2_with fail);go_ret2;exact ⟨_,by rw[E4.o];rfl,HB.o⟩
    ·have E4:aJ (entB a b c=false):=by
      show _=_;rw[E3.o];cases hall:u.all id
      ·rfl
      ·exact absurd (by rw[count_all.2 hall];exact HL.o) hcc
     obtain ⟨cnt,hcn⟩:∃ n,n=u.count true:=⟨_,rfl⟩;rw[←hcn] at q7 hcc;have hne:((cnt:Int) != (xs.length:Int))=true:=by simp;omega
     clear hcc hcn km;(go_wp2_with fail);go_ret2;exact ⟨_,by rw[E4.o];rfl,HB.o⟩
end
end Go.Proofs.YtjaohekkmlkinaaGreat
