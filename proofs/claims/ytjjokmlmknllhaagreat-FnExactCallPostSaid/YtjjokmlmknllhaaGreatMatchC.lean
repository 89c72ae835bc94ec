/- Contracts: impl's chains of atoms. -/
import Derived.Test.YtjjokmlmknllhaaGreatMImpS
set_option linter.unusedSimpArgs false
set_option linter.unusedVariables false
namespace Go.Proofs.YtjjokmlmknllhaaGreat
open Go Go.RowKit Go.Proofs
attribute [local go_sem ↓] Go.wp_at_zero Go.wp_at_succ
theorem Mk.thenB {p:Nat→Prop} {w a b:World} (h:Mk p w a) (hb:Below w.heap.size a b):Mk p w b:=⟨hb.os.trans h.os,hb.tape.trans h.tape,hb.output.trans h.output,Nat.le_trans h.size hb.size,fun k hk hp=>(hb.block k hk).trans (h.block k hk hp)⟩
theorem chainF_none {xs:List Atm} {b:Int} {n:Nat} {used:List Bool} {c:Int} (hf:findU xs used c=none):chainF xs b n used c=none:=by
 cases n with
 | zero=>rfl
 | succ n=>unfold chainF;rw[hf];rfl
theorem chainF_some {xs:List Atm} {b:Int} {n:Nat} {used:List Bool} {c:Int} {k:Nat} (hf:findU xs used c=some k) (hk:k<xs.length):chainF xs b (n+1) used c=if xs[k].b=b then some (used.set k true) else if xs[k].kind=2∧closedB xs b=false then none else chainF xs b n (used.set k true) xs[k].b:=by
 rw[show chainF xs b (n+1) used c=(findU xs used c).bind (fun k=>if ((xs[k]?).getD default).b=b then some (used.set k true) else if ((xs[k]?).getD default).kind=2∧closedB xs b=false then none else chainF xs b n (used.set k true) ((xs[k]?).getD default).b) from rfl,hf]
 simp only[Option.bind_some,List.getElem?_eq_getElem hk,Option.getD_some]
set_option maxRecDepth 100000 in
set_option maxHeartbeats 6400000 in
theorem c_impl_useChain {lo hi:Nat} (A:Option Addr) (d:Nat) (xs:List Atm) (used:List Bool) (x:Atm) (g:Nat) (w:World) (h:AtomsV w lo hi A xs) (hhi:hi≤g) (hk:Blk w g tMt (cmU (.slice A xs.length d) used)) (hl6:xs.length≤6) (hu:used.length=xs.length) :
  Calls Tryz.prog 212 #[.pointer (some ⟨g,0,none⟩),x.val] w fun e w'=>∃ r ys,e=.returned (.tuple #[r,.bool (chainF xs x.b (xs.length+1) used x.a).isSome])∧IntsO w' w.heap.size r ys∧Mk (fun h=>h=g) w w'∧(∀ u,chainF xs x.b (xs.length+1) used x.a=some u→Blk w' g tMt (cmU (.slice A xs.length d) u)):=by
 have hgl:=hk.lt
 have H:=Lib.hid h
 have HU:=Lib.hid hu
 have HK:=Lib.hid hk
 clear h hu hk
 go_enter Tryz.func212,Tryz.ntmps212
 go_wp2_with fail
 have k0:=Blk.new w tA #[.int .i64 x.kind,.int .i64 x.a,.int .i64 x.b]
 have kg:=HK.out.alloc (.cells #[.int .i64 x.kind,.int .i64 x.a,.int .i64 x.b] tA)
 cases hb0:(x.b == 0)
 case' false=>
  refine wp_region_noPanic ?_
  refine wp_region_held_drew (S:=(fun w'=>(∀ i,w'.cell? ⟨w.heap.size,i,none⟩=#[.int .i64 x.kind,.int .i64 x.a,.int .i64 x.b][i]?)∧w'.cell? ⟨g,0,none⟩=some (.slice A xs.length d))) (by kernel_rfl) (⟨Blk.cell blks,(show Blk _ g tMt (cmU (.slice A xs.length d) used) from blks).cell 0⟩) (fun hHeld=>?_)
  refine tk 0 ?_ rfl (fun w hSw=>?_) hHeld ?_
  rotate_left
  ·((try dsimp only at hSw);go_split_ands;go_simp;(try with_reducible rfl))
  try simp only[Act.put,zA,zB,zC,zD,zE,zF]
  refine tk 1 ?_ rfl (fun w hSw=>?_) hHeld ?_
  rotate_left
  ·((try dsimp only at hSw);go_split_ands;go_simp;(try with_reducible rfl))
  try simp only[Act.put,zA,zB,zC,zD,zE,zF]
  refine tk 2 ?_ rfl (fun w hSw=>?_) hHeld ?_
  rotate_left
  ·((try dsimp only at hSw);go_split_ands;go_simp;(try with_reducible rfl))
  try simp only[Act.put,zA,zB,zC,zD,zE,zF]
  refine tk 3 ?_ rfl (fun w hSw=>?_) hHeld ?_
  rotate_left
  ·((try dsimp only at hSw);go_split_ands;go_simp;(try with_reducible rfl))
  try simp only[Act.put,zA,zB,zC,zD,zE,zF]
  refine tk 4 ?_ rfl (fun w hSw=>?_) hHeld ?_
  rotate_left
  ·((try dsimp only at hSw);go_split_ands;go_simp;(try with_reducible rfl))
  try simp only[Act.put,zA,zB,zC,zD,zE,zF]
  refine tk 5 ?_ rfl (fun w hSw=>?_) hHeld ?_
  rotate_left
  ·((try dsimp only at hSw);go_split_ands;go_simp;(try with_reducible rfl))
  try simp only[Act.put,zA,zB,zC,zD,zE,zF]
  refine tk 6 ?_ rfl (fun w hSw=>?_) hHeld ?_
  rotate_left
  ·((try dsimp only at hSw);go_split_ands;go_simp;(try with_reducible rfl))
  try simp only[Act.put,zA,zB,zC,zD,zE,zF]
  refine tk 7 ?_ rfl (fun w hSw=>?_) hHeld ?_
  rotate_left
  ·((try dsimp only at hSw);go_split_ands;go_simp;(try with_reducible rfl))
  try simp only[Act.put,zA,zB,zC,zD,zE,zF]
  refine tk 8 ?_ rfl (fun w hSw=>?_) hHeld ?_
  rotate_left
  ·((try dsimp only at hSw);go_split_ands;go_simp;(try with_reducible rfl))
  try simp only[Act.put,zA,zB,zC,zD,zE,zF]
  refine tk 9 ?_ rfl (fun w hSw=>?_) hHeld ?_
  rotate_left
  ·((try dsimp only at hSw);go_split_ands;go_simp;(try with_reducible rfl))
  try simp only[Act.put,zA,zB,zC,zD,zE,zF]
  refine rdc 10 rfl fun K hK=>?_
  try simp only[zA,zB,zC]
  (go_simp;refine (c_impl_beginsAt A d xs x.b _ (H.out.below bel)).mono ?_;rintro e w1 ⟨rfl,hB1⟩;have hB:=bgo (w:=w) bel hB1;replace k0:=Blk.next (g:=w.heap.size) blks hB1;replace kg:=Blk.next (g:=g) blks hB1)
  refine hK.out _ _ (⟨k0.cell,kg.cell 0⟩) ?_
  clear hHeld hK K
  intro hHeld
  try simp only[Act.put,zA,zB,zC,zD,zE,zF]
  refine tk 11 ?_ rfl (fun w hSw=>?_) hHeld ?_
  rotate_left
  ·((try dsimp only at hSw);go_split_ands;go_simp;(try with_reducible rfl))
  try simp only[Act.put,zA,zB,zC,zD,zE,zF]
  refine tk 12 ?_ rfl (fun w hSw=>?_) hHeld ?_
  rotate_left
  ·((try dsimp only at hSw);go_split_ands;go_simp;(try with_reducible rfl))
  try simp only[Act.put,zA,zB,zC,zD,zE,zF]
  refine wpAnyH_done (by kernel_rfl) ?_ _
  refine NoPanic.normal ?_
  have HCB:Hid (closedB xs x.b=begB xs x.b):=by show _=_;unfold closedB;rw[decide_eq_false (by simpa using hb0)];rfl
  obtain ⟨cb,hcb⟩:∃ t,t=begB xs x.b:=⟨_,rfl⟩
  rw[←hcb] at HCB ⊢
  clear hcb
 case' true=>
  refine wp_region_noPanic ?_
  refine wp_region_held_drew (S:=(fun w'=>(∀ i,w'.cell? ⟨w.heap.size,i,none⟩=#[.int .i64 x.kind,.int .i64 x.a,.int .i64 x.b][i]?)∧w'.cell? ⟨g,0,none⟩=some (.slice A xs.length d))) (by kernel_rfl) (⟨Blk.cell blks,(show Blk _ g tMt (cmU (.slice A xs.length d) used) from blks).cell 0⟩) (fun hHeld=>?_)
  refine tk 0 ?_ rfl (fun w hSw=>?_) hHeld ?_
  rotate_left
  ·((try dsimp only at hSw);go_split_ands;go_simp;(try with_reducible rfl))
  try simp only[Act.put,zA,zB,zC,zD,zE,zF]
  refine tk 1 ?_ rfl (fun w hSw=>?_) hHeld ?_
  rotate_left
  ·((try dsimp only at hSw);go_split_ands;go_simp;(try with_reducible rfl))
  try simp only[Act.put,zA,zB,zC,zD,zE,zF]
  refine tk 2 ?_ rfl (fun w hSw=>?_) hHeld ?_
  rotate_left
  ·((try dsimp only at hSw);go_split_ands;go_simp;(try with_reducible rfl))
  try simp only[Act.put,zA,zB,zC,zD,zE,zF]
  refine tk 3 ?_ rfl (fun w hSw=>?_) hHeld ?_
  rotate_left
  ·((try dsimp only at hSw);go_split_ands;go_simp;(try with_reducible rfl))
  try simp only[Act.put,zA,zB,zC,zD,zE,zF]
  refine tku 4 rfl hHeld ?_
  try simp only[Act.put,zA,zB,zC,zD,zE,zF]
  refine tku 5 rfl hHeld ?_
  try simp only[Act.put,zA,zB,zC,zD,zE,zF]
  refine tku 6 rfl hHeld ?_
  try simp only[Act.put,zA,zB,zC,zD,zE,zF]
  refine tku 7 rfl hHeld ?_
  try simp only[Act.put,zA,zB,zC,zD,zE,zF]
  refine tku 8 rfl hHeld ?_
  try simp only[Act.put,zA,zB,zC,zD,zE,zF]
  refine tku 9 rfl hHeld ?_
  try simp only[Act.put,zA,zB,zC,zD,zE,zF]
  refine tku 10 rfl hHeld ?_
  try simp only[Act.put,zA,zB,zC,zD,zE,zF]
  refine tk 11 ?_ rfl (fun w hSw=>?_) hHeld ?_
  rotate_left
  ·((try dsimp only at hSw);go_split_ands;go_simp;(try with_reducible rfl))
  try simp only[Act.put,zA,zB,zC,zD,zE,zF]
  refine tk 12 ?_ rfl (fun w hSw=>?_) hHeld ?_
  rotate_left
  ·((try dsimp only at hSw);go_split_ands;go_simp;(try with_reducible rfl))
  try simp only[Act.put,zA,zB,zC,zD,zE,zF]
  refine wpAnyH_done (by kernel_rfl) ?_ _
  refine NoPanic.normal ?_
  have HCB0:Hid (closedB xs x.b=true):=by show _=_;unfold closedB;rw[decide_eq_true (by simpa using hb0)];rfl
  obtain ⟨cb,hcb⟩:∃ t,t=true:=⟨_,rfl⟩
  rw[←hcb] at HCB0
  have HCB:=HCB0
  clear HCB0
  obtain ⟨w1,hw1⟩:∃ X,X=(w.alloc (.cells #[.int .i64 x.kind,.int .i64 x.a,.int .i64 x.b] tA)).drew:=⟨_,rfl⟩
  have hB:Below w.heap.size w w1:=by rw[hw1];exact bel
  replace k0:Blk w1 w.heap.size tA #[.int .i64 x.kind,.int .i64 x.a,.int .i64 x.b]:=by rw[hw1];exact blks
  replace kg:Blk w1 g tMt (cmU (.slice A xs.length d) used):=by rw[hw1];exact blks
  rw[←hw1]
  clear hw1
  try rw[←hcb]
  clear hcb
 all_goals
  have gl1:=kg.lt
  have l0:=k0.lt
  have q0:=k0.cell
  have qg:=kg.cell 0
  have hz1:=hB.size
  go_wp2_with fail
  go_loopw [7,8] (fun s7 s8 wr=>∃ (u:List Bool) (n:Nat) (at_:Int) (U:Option Addr) (uc:Nat) (ys:List Int),s7=.slice U ys.length uc∧s8=.int .i64 at_∧Hid (chainF xs x.b (xs.length+1) used x.a=chainF xs x.b n u at_)∧Hid (xs.length<n+u.count true)∧Hid (u.length=xs.length)∧Hid (ys.length≤u.count true)∧Hid (IntsO wr w.heap.size (.slice U ys.length uc) ys)∧Blk wr w.heap.size tA #[.int .i64 x.kind,.int .i64 x.a,.int .i64 x.b]∧Blk wr g tMt (cmU (.slice A xs.length d) u)∧Hid (Mk (fun h=>h=g) w wr)) (fun s7 _ _=>match s7 with | .slice _ n _=>7 - n|_=>0)
  case atStart=>exact ⟨used,xs.length+1,x.a,none,0,[],rfl,rfl,rfl,by show _<_;omega,HU.out,Nat.zero_le _,IntsO.nil _ _,k0,kg,Mk.below_ hB⟩
  case round=>
   clear k0 kg hB gl1 l0 hz1 q0 qg
   obtain ⟨u,n,at_,U,uc,ys,rfl,rfl,HC,HN,HL,HY,HO,k0,kg,HM⟩:=hrel
   have hA:Hid (AtomsV wr lo hi A xs):=H.out.keepM HM.out hhi (by omega)
   have gl1:=kg.lt
   have l0:=k0.lt
   have qg:=kg.cell 0
   have hzw:=HM.out.size
   go_wp2_with fail
   refine (c_impl_unusedAt A d _ xs u at_ g _ (hA.out.below bel) kg hl6 HL.out).mono ?_
   rintro e w2 ⟨rfl,hB1⟩
   replace k0:=k0.next hB1
   replace kg:=kg.next hB1
   have HM2:Hid (Mk (fun h=>h=g) w w2):=HM.out.trans (Mk.below_ hB1)
   have HO2:Hid (IntsO w2 w.heap.size (.slice U ys.length uc) ys):=HO.out.below hB1
   have hA2:Hid (AtomsV w2 lo hi A xs):=hA.out.below hB1
   have gl2:=kg.lt
   have l2:=k0.lt
   have hz2:=HM2.out.size
   clear hB1 HO HM hA
   cases hf:findU xs u at_
   ·have E:Hid (chainF xs x.b (xs.length+1) used x.a=none):=by show _=_;rw[HC.out];exact chainF_none hf
    clear hf
    simp only[Option.getD_none,Option.isSome_none]
    go_wp2_with fail
    go_ret2
    exact ⟨_,[],by rw[E.out];rfl,IntsO.nil _ _,HM2.out,fun u' hu'=>by rw[E.out] at hu';cases hu'⟩
   ·rename_i k
    obtain ⟨hkl,hfr⟩:=findU_some hf
    have hfu:=freeAt_used hfr
    have hct:=count_take hfu.2
    have hcl:=List.count_le_length (a:=true) (l:=u.set k true)
    rw[List.length_set,HL.out] at hcl
    obtain ⟨m,rfl⟩:∃ m,n=m+1:=⟨n - 1,by have:=HN.out;omega⟩
    have HS:=Lib.hid (chainF_some (n:=m) (b:=x.b) hf hkl)
    have HFU:=Lib.hid hfu
    have HCT:=Lib.hid hct
    have HCL:=Lib.hid hcl
    have hkx:(k:Int)<(xs.length:Int):=by omega
    have hyl:ys.length≤5:=by have:=HY.out;omega
    clear hf hfr hfu hct hcl
    simp only[Option.getD_some,Option.isSome_some]
    go_wp2_with fail
    refine (c_impl_take k g _ kg HFU.out.2 (by rw[HL.out];exact hl6)).mono ?_
    rintro e w3 ⟨⟨v,rfl⟩,kg3,hM3⟩
    have k3:=hM3.blk k0 (by omega)
    have HM3:Hid (Mk (fun h=>h=g) w w3):=HM2.out.trans hM3
    have hA3:Hid (AtomsV w3 lo hi A xs):=hA2.out.keepM hM3 hhi (by omega)
    have HO3:Hid (IntsO w3 w.heap.size (.slice U ys.length uc) ys):=HO2.out.mk hM3 fun h e1 e2=>by have:=(HO2.out.1.lt h e1).1;omega
    have hz3:=HM3.out.size
    clear k0 kg hM3 HM2 HO2 hA2
    obtain ⟨bb,off,rfl,hbl⟩:=hA3.out.blt hkl
    obtain ⟨g0,g1,g2⟩:=hA3.out.cl hkl
    obtain ⟨y,hy⟩:∃ y,y=xs[k]:=⟨_,rfl⟩
    rw[←hy] at g0 g1 g2 HS
    have qg:=kg3.cell 0
    have q3:=k3.cell
    have lg3:=kg3.lt
    have l3:=k3.lt
    have HYE:=Lib.hid hy
    clear hy g0 g1 g2
    obtain f1|⟨f1,f2,rfl⟩|⟨f1,f2⟩|⟨f1,f2,rfl⟩:((y.b == x.b)=true)∨((y.b == x.b)=false∧(y.kind == 2)=true∧cb=false)∨((y.b == x.b)=false∧(y.kind == 2)=false)∨((y.b == x.b)=false∧(y.kind == 2)=true∧cb=true):=by cases (y.b == x.b)<;>cases (y.kind == 2)<;>cases cb<;>simp
    ·have E:Hid (chainF xs x.b (xs.length+1) used x.a=some (u.set k true)):=by show _=_;rw[HC.out,HS.out,if_pos (by simpa using f1)]
     go_wp2_with (at_builtin;refine appI rfl _ _ rfl (v:=.slice U ys.length uc) rfl (IntsO.below HO3.out bel) w3.heap.size k rfl (cell_box _ _ _) (by omega) (by simp;omega) ?_;intro A' c' w4 o4 hg4 hB4;have kg4:=Blk.grownO (g:=g) (hg:=hg4) (kg3.alloc _) (IntsO.below (w:=w3) HO3.out bel).1 (by decide);have k4:=Blk.grownO (g:=w.heap.size) (hg:=hg4) (k3.alloc _) (IntsO.below (w:=w3) HO3.out bel).1 (by decide);have qg4:=kg4.cell 0;have q4:=k4.cell;have lg4:=kg4.lt;have l4:=k4.lt;have hB34:Below w.heap.size w3 w4:=Below.trans (btoB (w:=w3) bel hz3) hB4;have hA4:Hid (AtomsV w4 lo hi (some ⟨bb,off,none⟩) xs):=hA3.out.keepB hB34 (by omega);obtain ⟨g0,g1,g2⟩:=hA4.out.cl hkl;rw[←HYE.out] at g0 g1 g2;clear qg q3)
     go_ret2
     exact ⟨_,ys++[(k:Int)],by rw[E.out];rfl,o4,HM3.out.thenB hB34,fun u' hu'=>by rw[E.out] at hu';cases hu';exact kg4⟩
    ·have E:Hid (chainF xs x.b (xs.length+1) used x.a=none):=by show _=_;rw[HC.out,HS.out,if_neg (by simpa using f1),if_pos ⟨by simpa using f2,HCB.out⟩]
     go_wp2_with (at_builtin;refine appI rfl _ _ rfl (v:=.slice U ys.length uc) rfl (IntsO.below HO3.out bel) w3.heap.size k rfl (cell_box _ _ _) (by omega) (by simp;omega) ?_;intro A' c' w4 o4 hg4 hB4;have kg4:=Blk.grownO (g:=g) (hg:=hg4) (kg3.alloc _) (IntsO.below (w:=w3) HO3.out bel).1 (by decide);have k4:=Blk.grownO (g:=w.heap.size) (hg:=hg4) (k3.alloc _) (IntsO.below (w:=w3) HO3.out bel).1 (by decide);have qg4:=kg4.cell 0;have q4:=k4.cell;have lg4:=kg4.lt;have l4:=k4.lt;have hB34:Below w.heap.size w3 w4:=Below.trans (btoB (w:=w3) bel hz3) hB4;have hA4:Hid (AtomsV w4 lo hi (some ⟨bb,off,none⟩) xs):=hA3.out.keepB hB34 (by omega);obtain ⟨g0,g1,g2⟩:=hA4.out.cl hkl;rw[←HYE.out] at g0 g1 g2;clear qg q3)
     go_ret2
     exact ⟨_,[],by rw[E.out];rfl,IntsO.nil _ _,HM3.out.thenB hB34,fun u' hu'=>by rw[E.out] at hu';cases hu'⟩
    ·have E:Hid (chainF xs x.b (xs.length+1) used x.a=chainF xs x.b m (u.set k true) y.b):=by show _=_;rw[HC.out,HS.out,if_neg (by simpa using f1),if_neg (fun h=>by simp[h.1] at f2)]
     go_wp2_with (at_builtin;refine appI rfl _ _ rfl (v:=.slice U ys.length uc) rfl (IntsO.below HO3.out bel) w3.heap.size k rfl (cell_box _ _ _) (by omega) (by simp;omega) ?_;intro A' c' w4 o4 hg4 hB4;have kg4:=Blk.grownO (g:=g) (hg:=hg4) (kg3.alloc _) (IntsO.below (w:=w3) HO3.out bel).1 (by decide);have k4:=Blk.grownO (g:=w.heap.size) (hg:=hg4) (k3.alloc _) (IntsO.below (w:=w3) HO3.out bel).1 (by decide);have qg4:=kg4.cell 0;have q4:=k4.cell;have lg4:=kg4.lt;have l4:=k4.lt;have hB34:Below w.heap.size w3 w4:=Below.trans (btoB (w:=w3) bel hz3) hB4;have hA4:Hid (AtomsV w4 lo hi (some ⟨bb,off,none⟩) xs):=hA3.out.keepB hB34 (by omega);obtain ⟨g0,g1,g2⟩:=hA4.out.cl hkl;rw[←HYE.out] at g0 g1 g2;clear qg q3)
     go_round
     case rel=>exact ⟨u.set k true,m,y.b,some ⟨A',0,none⟩,c',ys++[(k:Int)],by simp,rfl,E,by show _<_;have:=HN.out;have:=HCT.out;omega,by show _=_;rw[List.length_set];exact HL.out,by show _≤_;have:=HY.out;have:=HCT.out;simp;omega,by show IntsO _ _ _ _;simpa using o4,k4,kg4,HM3.out.thenB hB34⟩
     case measure=>simp;omega
    ·have E:Hid (chainF xs x.b (xs.length+1) used x.a=chainF xs x.b m (u.set k true) y.b):=by show _=_;rw[HC.out,HS.out,if_neg (by simpa using f1),if_neg (fun h=>by have:=HCB.out;rw[this] at h;cases h.2)]
     go_wp2_with (at_builtin;refine appI rfl _ _ rfl (v:=.slice U ys.length uc) rfl (IntsO.below HO3.out bel) w3.heap.size k rfl (cell_box _ _ _) (by omega) (by simp;omega) ?_;intro A' c' w4 o4 hg4 hB4;have kg4:=Blk.grownO (g:=g) (hg:=hg4) (kg3.alloc _) (IntsO.below (w:=w3) HO3.out bel).1 (by decide);have k4:=Blk.grownO (g:=w.heap.size) (hg:=hg4) (k3.alloc _) (IntsO.below (w:=w3) HO3.out bel).1 (by decide);have qg4:=kg4.cell 0;have q4:=k4.cell;have lg4:=kg4.lt;have l4:=k4.lt;have hB34:Below w.heap.size w3 w4:=Below.trans (btoB (w:=w3) bel hz3) hB4;have hA4:Hid (AtomsV w4 lo hi (some ⟨bb,off,none⟩) xs):=hA3.out.keepB hB34 (by omega);obtain ⟨g0,g1,g2⟩:=hA4.out.cl hkl;rw[←HYE.out] at g0 g1 g2;clear qg q3)
     go_round
     case rel=>exact ⟨u.set k true,m,y.b,some ⟨A',0,none⟩,c',ys++[(k:Int)],by simp,rfl,E,by show _<_;have:=HN.out;have:=HCT.out;omega,by show _=_;rw[List.length_set];exact HL.out,by show _≤_;have:=HY.out;have:=HCT.out;simp;omega,by show IntsO _ _ _ _;simpa using o4,k4,kg4,HM3.out.thenB hB34⟩
     case measure=>simp;omega
end Go.Proofs.YtjjokmlmknllhaaGreat
