/- Programs: validity, the spec's way: the count. -/
import Derived.Test.YtjbboklnegfohaaDoorCmdI
import Derived.Test.YtjbboklnegfohaaDoorMBld
import Derived.IntWalk
import Derived.Test.YtjbboklnegfohaaDoorCmdX
import Derived.Test.YtjbboklnegfohaaDoorDrawA
import Derived.Test.YtjbboklnegfohaaDoorDrawB
import Derived.Test.YtjbboklnegfohaaDoorMPgA
import Derived.Deep.DeepCutAuto
set_option linter.unusedSimpArgs false
set_option linter.unusedVariables false
namespace Go.Proofs.YtjbboklnegfohaaDoor
open Go Go.RowKit Go.Proofs
set_option maxRecDepth 100000 in
set_option maxHeartbeats 6400000 in
theorem l8Count_go:∀ (N:Nat) (L:Cms),L.sz<N→∀ (A:Option Addr) (c d lo hi:Nat) (D:Int) (w:World),D=d→CmsV w lo hi A L→L.len≤1049600→L.small 1049600→L.sz≤4200000→d≤4→
  Calls Tryd.prog 86 #[.slice A L.len c,.int .i64 D] w fun e w'=>e=.returned (.int .i64 (L.count d))∧Below w.heap.size w w':=by
 intro N
 induction N with
 | zero=>intro L h;omega
 | succ N IH=>
  intro L hsz A c d lo hi D w hD hV hlen hsm hcz hd
  replace IH:=Lib.hid IH
  replace hV:=Lib.hid hV
  replace hsm:=Lib.hid hsm
  replace hsz:=Lib.hid hsz
  replace hcz:=Lib.hid hcz
  obtain ⟨n,hn⟩:∃ n,n=L.len:=⟨_,rfl⟩
  obtain ⟨R,hR⟩:∃ R,R=L.count d:=⟨_,rfl⟩
  have hRz:R≤4200000:=by rw[hR];exact Nat.le_trans (Cms.count_le L d) hcz.out
  rw[←hn,←hR]
  rw[←hn] at hlen
  replace hn:=Lib.hid hn
  replace hR:=Lib.hid hR
  rcases Nat.eq_zero_or_pos d with rfl|hd0
  ·subst hD
   have e0:Hid (R=0):=by rw[Hid,hR.out];cases L<;>simp[Cms.count]
   go_enter Tryd.func86,Tryd.ntmps86
   go_wp2_with fail
   go_loopw [5,6] (fun m x wr=>m=.int .i64 0∧x=.int .i64 0∧Below w.heap.size w wr) (fun _ _ _=>0)
   case atStart=>exact ⟨rfl,rfl,bel⟩
   case round=>
    obtain ⟨rfl,rfl,hB⟩:=hrel
    by_cases q1:0<n
    all_goals
     go_wp2_with fail
     go_ret
     exact ⟨by rw[e0.out];rfl,hB⟩
  obtain ⟨d,rfl⟩:∃ e,d=e+1:=⟨d - 1,by omega⟩
  clear hd0
  have hD1:0<D:=by omega
  have hD4:D≤4:=by omega
  replace hD:=Lib.hid hD
  go_enter Tryd.func86,Tryd.ntmps86
  go_wp2_with fail
  go_loopw [5,6] (fun y x wr=>∃ j m:Nat,j≤n∧x=.int .i64 j∧y=.int .i64 m∧m≤R∧Hid (R=m+(L.drop j).count (d+1))∧Below w.heap.size w wr) (fun _ x _=>n - (intOf x).toNat)
  case atStart=>exact ⟨0,0,Nat.zero_le _,rfl,rfl,Nat.zero_le _,Lib.hid (by rw[Nat.zero_add];exact hR.out),bel⟩
  case round=>
   obtain ⟨j,m,hj,rfl,rfl,hmR,HR,hB⟩:=hrel
   by_cases hlt:j<n
   ·have hpos:0<(L.drop j).len:=by rw[Cms.drop_len,←hn.out];omega
    obtain ⟨k,a,b,t,i,body,els,r,eL⟩:=Cms.cons_of_len hpos
    obtain ⟨bl,o,rfl,-,-,hAt⟩:=(hV.out.below hB) (by rw[←hn.out];omega)
    have hD:=hAt.drop j
    have hS:=Cms.small_drop j hsm.out
    have hZ:=Cms.sz_drop j L
    have hDs:=Cms.drop_succ j L eL
    have HR':=HR.out
    rw[eL] at hD hS hZ HR'
    obtain ⟨⟨p0,p1,p2,p3,p4,p5⟩,⟨A6,c6,p6,g6⟩,⟨A7,c7,p7,g7⟩,⟨A8,c8,p8,g8⟩,⟨A9,c9,p9,g9⟩,-⟩:=hD
    obtain ⟨s1,s2,s3,s4,s5,s6,-⟩:=hS
    simp only[Cms.sz] at hZ
    have hbs:body.sz<N:=by have:=hsz.out;omega
    have hes:els.sz<N:=by have:=hsz.out;omega
    have hbz:body.sz≤4200000:=by have:=hcz.out;omega
    have hez:els.sz≤4200000:=by have:=hcz.out;omega
    have gB:Hid (CmsV wr lo hi A8 body):=g8
    have gE:Hid (CmsV wr lo hi A9 els):=g9
    rw[Cms.count,if_pos (by omega),Nat.add_sub_cancel,←hDs] at HR'
    obtain ⟨x1,hx1⟩:∃ x,x=body.count d:=⟨_,rfl⟩
    obtain ⟨x2,hx2⟩:∃ x,x=els.count d:=⟨_,rfl⟩
    rw[←hx1,←hx2] at HR'
    have y1:m+x1+x2+1≤R:=by omega
    replace HR':=Lib.hid HR'
    replace hx1:=Lib.hid hx1
    replace hx2:=Lib.hid hx2
    replace hbs:=Lib.hid hbs
    replace hes:=Lib.hid hes
    replace hbz:=Lib.hid hbz
    replace hez:=Lib.hid hez
    replace s5:=Lib.hid s5
    replace s6:=Lib.hid s6
    clear hZ hpos hAt g6 g7 g8 g9 HR hDs eL s1 s2
    go_wp2_with fail
    have hlt8:=block_lt_of_cell p8
    have i1:IntKind.i64.wrap ((m:Int)+1)=(m:Int)+1:=IntWalk.i64_in _ (by omega)
    have i2:IntKind.i64.wrap ((m:Int)+1+x1)=(m:Int)+1+x1:=IntWalk.i64_in _ (by omega)
    have i3:IntKind.i64.wrap ((m:Int)+1+x1+x2)=(m:Int)+1+x1+x2:=IntWalk.i64_in _ (by omega)
    have i4:IntKind.i64.wrap (D - 1)=D - 1:=IntWalk.i64_in _ (by omega)
    clear p0 p1 p2 p3 p4 p5 p6 p7
    refine wp_region_noPanic ?_
    refine wp_region_held_drew (S:=(fun w'=>w'.cell? ⟨bl,o+j * 10+8,none⟩=some (.slice A8 body.len c8)∧w'.cell? ⟨bl,o+j * 10+9,none⟩=some (.slice A9 els.len c9))) (by kernel_rfl) (⟨p8,p9⟩) (fun hHeld=>?_)
    refine tk 0 ?_ rfl (fun w hSw=>?_) hHeld ?_
    rotate_left
    ·((try dsimp only at hSw);go_split_ands;go_simp;(try with_reducible rfl))
    try simp only[Act.put,zA,zB,zC,zD,zE,zF]
    refine tk 1 ?_ rfl (fun w hSw=>?_) hHeld ?_
    rotate_left
    ·((try dsimp only at hSw);go_split_ands;go_simp;(try with_reducible rfl))
    try simp only[Act.put,zA,zB,zC,zD,zE,zF]
    refine tk 2 ?_ rfl (fun w hSw=>?_) hHeld ?_
    rotate_left
    ·((try dsimp only at hSw);go_split_ands;go_simp;(try with_reducible rfl))
    try simp only[Act.put,zA,zB,zC,zD,zE,zF]
    refine tk 3 ?_ rfl (fun w hSw=>?_) hHeld ?_
    rotate_left
    ·((try dsimp only at hSw);go_split_ands;go_simp;(try with_reducible rfl))
    try simp only[Act.put,zA,zB,zC,zD,zE,zF]
    refine tk 4 ?_ rfl (fun w hSw=>?_) hHeld ?_
    rotate_left
    ·((try dsimp only at hSw);go_split_ands;go_simp;(try with_reducible rfl))
    try simp only[Act.put,zA,zB,zC,zD,zE,zF]
    refine tk 5 ?_ rfl (fun w hSw=>?_) hHeld ?_
    rotate_left
    ·((try dsimp only at hSw);go_split_ands;go_simp;(try with_reducible rfl))
    try simp only[Act.put,zA,zB,zC,zD,zE,zF]
    refine tk 6 ?_ rfl (fun w hSw=>?_) hHeld ?_
    rotate_left
    ·((try dsimp only at hSw);go_split_ands;go_simp;(try with_reducible rfl))
    try simp only[Act.put,zA,zB,zC,zD,zE,zF]
    refine tk 7 ?_ rfl (fun w hSw=>?_) hHeld ?_
    rotate_left
    ·((try dsimp only at hSw);go_split_ands;go_simp;(try with_reducible rfl))
    try simp only[Act.put,zA,zB,zC,zD,zE,zF]
    refine tk 8 ?_ rfl (fun w hSw=>?_) hHeld ?_
    rotate_left
    ·((try dsimp only at hSw);go_split_ands;go_simp;(try with_reducible rfl))
    try simp only[Act.put,zA,zB,zC,zD,zE,zF]
    refine tk 11 ?_ rfl (fun w hSw=>?_) hHeld ?_
    rotate_left
    ·((try dsimp only at hSw);go_split_ands;go_simp;(try with_reducible rfl))
    try simp only[Act.put,zA,zB,zC,zD,zE,zF]
    refine tk 12 ?_ rfl (fun w hSw=>?_) hHeld ?_
    rotate_left
    ·((try dsimp only at hSw);go_split_ands;go_simp;(try with_reducible rfl))
    try simp only[Act.put,zA,zB,zC,zD,zE,zF]
    refine tk 13 ?_ rfl (fun w hSw=>?_) hHeld ?_
    rotate_left
    ·((try dsimp only at hSw);go_split_ands;go_simp;(try with_reducible rfl))
    try simp only[Act.put,zA,zB,zC,zD,zE,zF]
    refine tk 14 ?_ rfl (fun w hSw=>?_) hHeld ?_
    rotate_left
    ·((try dsimp only at hSw);go_split_ands;go_simp;(try with_reducible rfl))
    try simp only[Act.put,zA,zB,zC,zD,zE,zF]
    refine tk 15 ?_ rfl (fun w hSw=>?_) hHeld ?_
    rotate_left
    ·((try dsimp only at hSw);go_split_ands;go_simp;(try with_reducible rfl))
    try simp only[Act.put,zA,zB,zC,zD,zE,zF]
    refine tk 16 ?_ rfl (fun w hSw=>?_) hHeld ?_
    rotate_left
    ·((try dsimp only at hSw);go_split_ands;go_simp;(try with_reducible rfl))
    try simp only[Act.put,zA,zB,zC,zD,zE,zF]
    refine tk 17 ?_ rfl (fun w hSw=>?_) hHeld ?_
    rotate_left
    ·((try dsimp only at hSw);go_split_ands;go_simp;(try with_reducible rfl))
    try simp only[Act.put,zA,zB,zC,zD,zE,zF]
    refine rdc 9 rfl fun K hK=>?_
    try simp only[zA,zB,zC]
    (go_simp;refine (IH.out body hbs.out A8 c8 d lo hi _ _ (by have:=hD.out;push_cast at this;omega) (gB.out.below bel) s3 s5.out hbz.out (by omega)).mono ?_;rintro e w8 ⟨rfl,hBx⟩;rw[←hx1.out];replace hB:=bgo hB.drew hBx;replace gE:=Lib.hid ((gE.out.below (Below.refl _ _).drew).below hBx);replace p8:=(hBx.cell (p:=⟨bl,o+j * 10+8,none⟩) hlt8).trans p8;replace p9:=(hBx.cell (p:=⟨bl,o+j * 10+9,none⟩) hlt8).trans p9;clear hBx hlt8;have hlt8:=block_lt_of_cell p8)
    refine hK.out _ _ (⟨p8,p9⟩) ?_
    clear hHeld hK K
    intro hHeld
    try simp only[Act.put,zA,zB,zC,zD,zE,zF]
    refine tk 10 ?_ rfl (fun w hSw=>?_) hHeld ?_
    rotate_left
    ·((try dsimp only at hSw);go_split_ands;go_simp;(try with_reducible rfl))
    try simp only[Act.put,zA,zB,zC,zD,zE,zF]
    refine rdc 18 rfl fun K hK=>?_
    try simp only[zA,zB,zC]
    (go_simp;refine (IH.out els hes.out A9 c9 d lo hi _ _ (by have:=hD.out;push_cast at this;omega) gE.out s4 s6.out hez.out (by omega)).mono ?_;rintro e w9 ⟨rfl,hBx⟩;rw[←hx2.out];replace hB:=bgo hB hBx;replace p8:=(hBx.cell (p:=⟨bl,o+j * 10+8,none⟩) hlt8).trans p8;replace p9:=(hBx.cell (p:=⟨bl,o+j * 10+9,none⟩) hlt8).trans p9;clear hBx hlt8)
    refine hK.out _ _ (⟨p8,p9⟩) ?_
    clear hHeld hK K
    intro hHeld
    try simp only[Act.put,zA,zB,zC,zD,zE,zF]
    refine tk 19 ?_ rfl (fun w hSw=>?_) hHeld ?_
    rotate_left
    ·((try dsimp only at hSw);go_split_ands;go_simp;(try with_reducible rfl))
    try simp only[Act.put,zA,zB,zC,zD,zE,zF]
    refine tk 20 ?_ rfl (fun w hSw=>?_) hHeld ?_
    rotate_left
    ·((try dsimp only at hSw);go_split_ands;go_simp;(try with_reducible rfl))
    try simp only[Act.put,zA,zB,zC,zD,zE,zF]
    refine wpAnyH_done (by kernel_rfl) ?_ _
    refine NoPanic.normal ?_
    clear p8 p9 i1 i2 i3 i4
    go_wp2_with fail
    go_round
    case rel=>exact ⟨j+1,m+x1+x2+1,by omega,by go_num,by push_cast;congr 1;omega,by omega,Lib.hid (by have:=HR'.out;omega),hB⟩
    case measure=>simp[intOf];omega
   ·go_wp2_with fail
    go_ret
    obtain rfl:j=n:=by omega
    have e1:L.drop j=.nil:=by rw[hn.out];exact Cms.drop_all L
    have h2:=HR.out
    rw[e1] at h2
    exact ⟨by rw[h2];rfl,hB⟩
set_option maxHeartbeats 1600000 in
theorem c_spec_ProgramV4 {lo hi:Nat} (L:Cms) (A:Option Addr) (c:Nat) (w:World) (hV:CmsV w lo hi A L) (hlen:L.len≤1049600) (hsm:L.small 1049600) (hz:L.sz≤4200000) :
  Calls Tryd.prog 48 #[.slice A L.len c] w fun e w'=>e=.returned (.bool L.prog)∧Below w.heap.size w w':=by
 obtain ⟨R,hR⟩:∃ R,R=L.prog:=⟨_,rfl⟩
 obtain ⟨x,hx⟩:∃ x,x=L.shape 4:=⟨_,rfl⟩
 rw[←hR]
 rw[Cms.prog,←hx] at hR
 have hc:x=true→L.count 4=L.sz:=fun h=>Cms.count_shape (by rw[←hx];exact h)
 replace hc:=Lib.hid hc
 replace hR:=Lib.hid hR
 replace hx:=Lib.hid hx
 replace hV:=Lib.hid hV
 replace hsm:=Lib.hid hsm
 go_enter Tryd.func48,Tryd.ntmps48
 go_wp2_with fail
 refine (l8Shape_go _ L (Nat.lt_succ_self _) A c 4 lo hi w hV.out hlen hsm.out (by omega)).mono ?_
 rintro e w1 ⟨rfl,hB1⟩
 rw[←hx.out]
 cases x
 ·go_wp2_with fail
  go_ret
  exact ⟨ret_bool (by rw[hR.out];rfl),hB1⟩
 go_wp2_with fail
 refine (l8Count_go _ L (Nat.lt_succ_self _) A c 4 lo hi 4 w1 rfl (hV.out.below hB1) hlen hsm.out hz (by omega)).mono ?_
 rintro e w2 ⟨rfl,hB2⟩
 rw[hc.out (by simp)]
 have hB:=bgo hB1 hB2
 go_wp2_with fail
 go_ret
 exact ⟨ret_bool (by rw[hR.out,Bool.true_and];simp;omega),hB⟩
theorem c_spec_ProgramValid {lo hi:Nat} (L:Cms) (A:Option Addr) (c:Nat) (w:World) (hV:CmsV w lo hi A L) (hlen:L.len≤1049600) (hsm:L.small 1049600) (hz:L.sz≤1049600) :
  Calls Tryd.prog 48 #[.slice A L.len c] w fun e w'=>e=.returned (.bool L.prog)∧Below w.heap.size w w':=
 c_spec_ProgramV4 L A c w hV hlen hsm (by omega)
end Go.Proofs.YtjbboklnegfohaaDoor

/- What the reader draws: programs. -/
namespace Go.Proofs.YtjbboklnegfohaaDoor
open Go Go.RowKit Go.Proofs
theorem CmsN.part {w:World} {base n c:Nat} {A:Option Addr} {L:Cms} (h:CmsN w base (.slice A n c) L):PartX w (fun b=>base≤b) A L:=fun hl=>by
 obtain ⟨cs,⟨hlen,h2⟩,h3,h4⟩:=h
 rcases h2 with ⟨e,hn⟩|⟨g,cap,cur,e,hb,hg,hn,hm,hs,ht⟩
 ·omega
 ·injection e with e1 e2 e3
  subst e1
  refine ⟨g,0,rfl,hb,(CmsT.x h3 fun j u hu=>?_).mono fun b hx _=>hx.1⟩
  rw[Nat.zero_add,cell_of_row w g j cur tC (0,0) hg]
  rw[←ht,List.getElem?_take] at hu
  split at hu
  ·simpa using hu
  ·cases hu
theorem PartX.fr {w w':World} {base g:Nat} {A:Option Addr} {L:Cms} (h:PartX w (fun b=>base≤b) A L) (hf:Fr g w w') (hg:g<base):PartX w' (fun b=>base≤b) A L:=h.keep fun b hb hl=>hf.block b hl (by omega)
theorem RwX.fr {w w':World} {base g size n:Nat} {A:Option Addr} {xs:List Value} (h:RwX w (fun b=>base≤b) size A n xs) (hf:Fr g w w') (hg:g<base):RwX w' (fun b=>base≤b) size A n xs:=h.keep fun b hb hl=>hf.block b hl (by omega)
theorem RwX.none (w:World) (X:Nat→Prop) (size:Nat) (A:Option Addr):RwX w X size A 0 []:=⟨by simp,fun h=>by omega⟩
section
variable {ops:Array Oper} {rest:List Oper} {o:Oper} {a:Act} {Q:Exit→Act→World→Prop} {w:World} {base:Nat} {v:Value}
theorem appCX (hgd:o.guard=none) (s x:Operand) (ho:o.op=.call { callee:=.builtin .append,args:=#[s,x],argTypes:=#[44,44] })
  {n:Nat} {cs:List Value} (hs:a.eval s=v) (hown:w.ownsRow base tC 10 v n cs) {g0 c:Nat} {arr:Array Value} (ten:List Value) (hx:a.eval x=.slice (some ⟨g0,0,none⟩) 1 c) (hk:Blk w g0 tC arr) (hcs:arr=ten.toArray) (ht:ten.length=10) (h1:∀ u∈ten,u.oneCell'=true) (hn:n+1≤1049600) (hb:base≤w.heap.size)
  (h:∀ A' c' w',w'.ownsRow base tC 10 (.slice A' (n+1) c') (n+1) (cs++ten)→w.grownBy w' v.ownBlock→Below base w w'→((Value.slice A' (n+1) c').ownBlock=v.ownBlock∨(Value.slice A' (n+1) c').ownBlock=some w.heap.size)→wpList Tryd.prog ops Q rest (a.put o.dst (.slice A' (n+1) c')) w'):wpList Tryd.prog ops Q (o :: rest) a w:=by
 have hadd:∀ j,(⟨g0,0,none⟩:Addr).add j=⟨g0,j,none⟩:=fun j=>by unfold Addr.add;split<;>simp_all
 unfold wpList
 rw[if_pos (show Region.wanted o (yielded ops a.tmps)=true by simp[Region.wanted,hgd])]
 refine Or.inl (wp_appX (news:=ten) s x 44 ho Tryd.underlying44 infoC rfl (by decide) (by decide) hs hown hx (by rw[ht]) (fun j u hu=>?_) h1 hn hb ?_)
 ·rw[hadd,hk.cell,hcs]
  simpa using hu
 ·intro v' w' q1 q2 q3 q4
  obtain ⟨q1a,q1b⟩:=q1
  rcases q1b with ⟨rfl,e⟩|⟨k,cap,cur,rfl,r⟩
  ·omega
  ·exact h _ _ w' ⟨q1a,Or.inr ⟨k,cap,cur,rfl,r⟩⟩ q2 q3 q4
end
theorem tenOne (k a b:Int) (t:Fct) (AF AA AB AE:Option Addr) (nF nA nB nE cF cA cB cE:Nat):∀ u∈tenL k a b t (.slice AF nF cF) (.slice AA nA cA) (.slice AB nB cB) (.slice AE nE cE),u.oneCell'=true:=by
 intro u hu
 simp only[tenL,List.mem_cons,List.not_mem_nil,or_false] at hu
 rcases hu with rfl|rfl|rfl|rfl|rfl|rfl|rfl|rfl|rfl|rfl<;>rfl
theorem ten0 {w:World} {g:Nat} {t:TypeId} {x0 x1 x2 x3 x4 x5 x6 x7 x8 x9 v0 v1 v2 v3 v4 v5 v6 v7 v8 v9:Value} (h:Blk w g t #[x0,x1,x2,x3,x4,x5,x6,x7,x8,x9]):Blk (((((((((((w).setCell ⟨g,0,none⟩ v0).setCell ⟨g,1,none⟩ v1).setCell ⟨g,2,none⟩ v2).setCell ⟨g,3,none⟩ v3).setCell ⟨g,4,none⟩ v4).setCell ⟨g,5,none⟩ v5).setCell ⟨g,6,none⟩ v6).setCell ⟨g,7,none⟩ v7).setCell ⟨g,8,none⟩ v8).setCell ⟨g,9,none⟩ v9) g t #[v0,v1,v2,v3,v4,v5,v6,v7,v8,v9]:=by
 have h2:=((((((((((h.set_ 0 v0).set_ 1 v1).set_ 2 v2).set_ 3 v3).set_ 4 v4).set_ 5 v5).set_ 6 v6).set_ 7 v7).set_ 8 v8).set_ 9 v9)
 simp only[List.setIfInBounds_toArray,List.set_cons_zero,List.set_cons_succ] at h2
 exact h2
theorem retW {P:Program} {F:Func} {Q:Ending→World→Prop} {a:Act} {T:World} {D:World→Prop} (hd:D T) (h:∀ T,D T→bodyPost P F Q Exit.ret a T):bodyPost P F Q Exit.ret a T:=h T hd
def simC (k a b:Int):Array Value:=#[.int .i64 k,.int .i64 a,.int .i64 b,.bool false,.int .i64 0,.int .i64 0,.slice none 0 0,.slice none 0 0,.slice none 0 0,.slice none 0 0]
end Go.Proofs.YtjbboklnegfohaaDoor

/- A command in a block of its own. -/
namespace Go.Proofs.YtjbboklnegfohaaDoor
open Go Go.RowKit Go.Proofs
theorem ten0_far {w:World} {g k:Nat} {v0 v1 v2 v3 v4 v5 v6 v7 v8 v9:Value} (h:k≠g):(((((((((((w).setCell ⟨g,0,none⟩ v0).setCell ⟨g,1,none⟩ v1).setCell ⟨g,2,none⟩ v2).setCell ⟨g,3,none⟩ v3).setCell ⟨g,4,none⟩ v4).setCell ⟨g,5,none⟩ v5).setCell ⟨g,6,none⟩ v6).setCell ⟨g,7,none⟩ v7).setCell ⟨g,8,none⟩ v8).setCell ⟨g,9,none⟩ v9).heap[k]? = w.heap[k]?:=by
 iterate 9 (refine (Below.heap_setCell _ _ _ k h).trans ?_)
 exact Below.heap_setCell _ _ _ k h
theorem Fr.ten {a w:World} {g cb:Nat} {v0 v1 v2 v3 v4 v5 v6 v7 v8 v9:Value} (h:Fr g a w) (hc:a.heap.size≤cb):Fr g a (((((((((((w).setCell ⟨cb,0,none⟩ v0).setCell ⟨cb,1,none⟩ v1).setCell ⟨cb,2,none⟩ v2).setCell ⟨cb,3,none⟩ v3).setCell ⟨cb,4,none⟩ v4).setCell ⟨cb,5,none⟩ v5).setCell ⟨cb,6,none⟩ v6).setCell ⟨cb,7,none⟩ v7).setCell ⟨cb,8,none⟩ v8).setCell ⟨cb,9,none⟩ v9):=by
 iterate 10 (refine Fr.set_ ?_ (Or.inr hc) _)
 exact h
theorem CmsN.own_lt {w:World} {base:Nat} {v:Value} {L:Cms} (h:CmsN w base v L):∀ b,v.ownBlock=some b→base≤b∧b<w.heap.size:=by
 obtain ⟨cs,⟨hl,h2⟩,h3,h4⟩:=h
 intro b hb
 rcases h2 with ⟨rfl,hn⟩|⟨g,cap,cur,rfl,hg0,hg,hn,hm,hs,ht⟩
 ·simp[Value.ownBlock] at hb
 ·simp[Value.ownBlock] at hb
  subst hb
  exact ⟨hg0,Blk.lt hg⟩
end Go.Proofs.YtjbboklnegfohaaDoor

/- Copies of programs: an own row; of each command the parts lie in intervals of their own, and its body lies in an own row. -/
namespace Go.Proofs.YtjbboklnegfohaaDoor
open Go Go.RowKit Go.Proofs
def CpN (w:World) (lo hi:Nat) (v:Value) (L:Cms):Prop:=∃ cs,w.ownsRow lo tC 10 v L.len cs∧CmsT w (fun b=>(lo≤b∧b<hi)∧v.ownBlock≠some b) L cs∧L.len≤1049600∧(∀ g,v.ownBlock=some g→g<hi)
section
variable {w w':World} {lo hi base:Nat} {v:Value} {L:Cms} {vo vo':Option Nat}
theorem own_keep {base size n:Nat} {t:TypeId} {v:Value} {cs:List Value} (h:w.ownsRow base t size v n cs) (hk:∀ g,v.ownBlock=some g→g<w.heap.size→w'.heap[g]? = w.heap[g]?):w'.ownsRow base t size v n cs:=by
 obtain ⟨hl,h2⟩:=h
 refine ⟨hl,?_⟩
 rcases h2 with ⟨rfl,hn⟩|⟨g,cap,cur,rfl,hb,hg,hn,hm,hs,ht⟩
 ·exact Or.inl ⟨rfl,hn⟩
 ·have e:=hk g (by simp[Value.ownBlock]) (Blk.lt hg)
  exact Or.inr ⟨g,cap,cur,rfl,hb,e.trans hg,hn,hm,hs,ht⟩
theorem CmsN.cp (h:CmsN w base v L):CpN w base w.heap.size v L:=by
 have hl:=h.own_lt
 obtain ⟨cs,h1,h2,h3⟩:=h
 exact ⟨cs,h1,h2.mono fun b hx hl=>⟨⟨hx.1,hl⟩,hx.2⟩,h3,fun g hg=>(hl g hg).2⟩
theorem CpN.keep (h:CpN w lo hi v L) (hk:∀ b,lo≤b→b<hi→b<w.heap.size→w'.heap[b]? = w.heap[b]?):CpN w' lo hi v L:=by
 obtain ⟨cs,h1,h2,h3,h4⟩:=h
 have hge:∀ g,v.ownBlock=some g→lo≤g:=by
  obtain ⟨_,h0⟩:=h1
  intro g hg
  rcases h0 with ⟨rfl,hn⟩|⟨g',cap,cur,rfl,hb,_⟩
  ·simp[Value.ownBlock] at hg
  ·simp[Value.ownBlock] at hg;omega
 exact ⟨cs,own_keep h1 fun g hg hl=>hk g (hge g hg) (h4 g hg) hl,h2.keep fun b hb hl=>hk b hb.1.1 hb.1.2 hl,h3,h4⟩
theorem CpN.n (h:CpN w lo hi v L):CmsN w lo v L:=by
 obtain ⟨cs,h1,h2,h3,h4⟩:=h
 exact ⟨cs,h1,h2.mono fun b hx _=>⟨hx.1.1,hx.2⟩,h3⟩
theorem CpN.part {A:Option Addr} {n c:Nat} (h:CpN w lo hi (.slice A n c) L):PartX w (fun b=>lo≤b∧b<hi) A L:=fun hl=>by
 obtain ⟨cs,⟨hlen,h2⟩,h3,h4,h5⟩:=h
 rcases h2 with ⟨e,hn⟩|⟨g,cap,cur,e,hb,hg,hn,hm,hs,ht⟩
 ·omega
 ·injection e with e1 e2 e3
  subst e1
  refine ⟨g,0,rfl,⟨hb,h5 g (by simp[Value.ownBlock])⟩,(CmsT.x h3 fun j u hu=>?_).mono fun b hx _=>hx.1⟩
  rw[Nat.zero_add,cell_of_row w g j cur tC (0,0) hg]
  rw[←ht,List.getElem?_take] at hu
  split at hu
  ·simpa using hu
  ·cases hu
end
end Go.Proofs.YtjbboklnegfohaaDoor

/- Contracts: a command's head from its first line (spec). -/
namespace Go.Proofs.YtjbboklnegfohaaDoor
open Go Go.RowKit Go.Proofs
theorem below_ten {a w:World} {cb:Nat} {v0 v1 v2 v3 v4 v5 v6 v7 v8 v9:Value} (h:Below a.heap.size a w) (hc:a.heap.size≤cb):Below a.heap.size a (((((((((((w).setCell ⟨cb,0,none⟩ v0).setCell ⟨cb,1,none⟩ v1).setCell ⟨cb,2,none⟩ v2).setCell ⟨cb,3,none⟩ v3).setCell ⟨cb,4,none⟩ v4).setCell ⟨cb,5,none⟩ v5).setCell ⟨cb,6,none⟩ v6).setCell ⟨cb,7,none⟩ v7).setCell ⟨cb,8,none⟩ v8).setCell ⟨cb,9,none⟩ v9):=by
 iterate 10 (refine Below.setCell ?_ (by simp only;exact hc) _)
 exact h
theorem own_ten {w:World} {cb base size n:Nat} {t e:TypeId} {v:Value} {xs:List Value} {cs:Array Value} {v0 v1 v2 v3 v4 v5 v6 v7 v8 v9:Value} (h:w.ownsRow base e size v n xs) (hk:Blk w cb t cs) (ht:t≠e):World.ownsRow (((((((((((w).setCell ⟨cb,0,none⟩ v0).setCell ⟨cb,1,none⟩ v1).setCell ⟨cb,2,none⟩ v2).setCell ⟨cb,3,none⟩ v3).setCell ⟨cb,4,none⟩ v4).setCell ⟨cb,5,none⟩ v5).setCell ⟨cb,6,none⟩ v6).setCell ⟨cb,7,none⟩ v7).setCell ⟨cb,8,none⟩ v8).setCell ⟨cb,9,none⟩ v9) base e size v n xs:=by
 refine own_keep h fun g hg _=>ten0_far fun e0=>?_
 obtain ⟨_,h2⟩:=h
 rcases h2 with ⟨rfl,_⟩|⟨g',cap,cur,rfl,_,hh,_⟩
 ·simp[Value.ownBlock] at hg
 ·simp only[Value.ownBlock,Option.some.injEq] at hg
  subst hg e0
  exact Blk.ne_ hk hh ht rfl
set_option maxRecDepth 100000 in
set_option maxHeartbeats 6400000 in
theorem c_l8Assign (x y:Bs) (w:World) (hx:x.length≤2000000) (hy:y.length≤2000000):Calls Tryd.prog 109 #[sv x,sv y] w fun e w'=>e=.returned (.agg (simC (asgnPF x y).k (asgnPF x y).a (asgnPF x y).b))∧Below w.heap.size w w':=by
 have c1:=Lib.hid (fun w=>c_l8Bare x w hx)
 have c2:=Lib.hid (fun w=>c_l8Bare y w hy)
 have hA:Hid (asgnPF x y=⟨if (bareL y).2 then 2 else if (bareL x).2 then 3 else 1,pT (bareL x).1,pT (bareL y).1,fctZ,⟨[],[]⟩⟩):=Lib.hid rfl
 have hta:=Lib.hid (show pT (bareL x).1=(((parseT (bareL x).1).getD 0:Nat):Int) from rfl)
 have htb:=Lib.hid (show pT (bareL y).1=(((parseT (bareL y).1).getD 0:Nat):Int) from rfl)
 obtain ⟨bx,hbx⟩:∃ b,b=(bareL x).2:=⟨_,rfl⟩
 obtain ⟨by',hby⟩:∃ b,b=(bareL y).2:=⟨_,rfl⟩
 obtain ⟨sx,hsx⟩:∃ b,b=(bareL x).1:=⟨_,rfl⟩
 obtain ⟨sy,hsy⟩:∃ b,b=(bareL y).1:=⟨_,rfl⟩
 rw[←hbx,←hsx] at c1
 rw[←hby,←hsy] at c2
 rw[←hbx,←hby,←hsx,←hsy] at hA
 rw[←hsx] at hta
 rw[←hsy] at htb
 clear hbx hby hsx hsy
 obtain ⟨ta,hta2⟩:∃ t:Int,t=pT sx:=⟨_,rfl⟩
 obtain ⟨tb,htb2⟩:∃ t:Int,t=pT sy:=⟨_,rfl⟩
 rw[←hta2] at hA hta
 rw[←htb2] at hA htb
 clear hta2 htb2
 have k0:Blk (w.alloc (.cells (simC 0 0 0) tC)) w.heap.size tC (simC 0 0 0):=Blk.new _ _ _
 go_enter Tryd.func109,Tryd.ntmps109
 go_wp2_with fail
 refine (c1.out _).mono ?_
 rintro e w1 ⟨rfl,hB1⟩
 replace k0:=k0.next hB1
 have HB1:=Lib.hid (bgo (w:=w) (bel:Below w.heap.size w (w.alloc (.cells (simC 0 0 0) tC))) hB1)
 clear hB1
 go_wp2_with fail
 refine (c2.out _).mono ?_
 rintro e w2 ⟨rfl,hB2⟩
 replace k0:=k0.next hB2
 have HB2:=Lib.hid (bgo HB1.out hB2)
 clear hB2 HB1
 go_wp2_with fail
 refine (c_ParseTerm sx _).mono ?_
 rintro e w3 ⟨rfl,rfl⟩
 rw[←hta.out]
 go_wp2_with fail
 refine (c_ParseTerm sy _).mono ?_
 rintro e w3 ⟨rfl,rfl⟩
 rw[←htb.out]
 have q0:=k0.cell
 have r0:=k0.frozen
 have l0:=k0.lt
 unfold simC at q0 k0
 cases by'
 ·cases bx
  ·go_wp2_with fail
   refine retW (D:=fun T=>Blk T w.heap.size tC (simC 1 ta tb)∧Below w.heap.size w T) ⟨ten0 k0,below_ten HB2.out (Nat.le_refl _)⟩ ?_
   rintro T ⟨kT,r1⟩
   have t:=kT.cell
   exact bodyPost_ret (v:=.agg (simC 1 ta tb)) (by simp[results,Tryd.results109,go_sem,simC,t]) rfl ⟨by rw[hA.out];rfl,r1⟩
  ·go_wp2_with fail
   refine retW (D:=fun T=>Blk T w.heap.size tC (simC 3 ta tb)∧Below w.heap.size w T) ⟨ten0 k0,below_ten HB2.out (Nat.le_refl _)⟩ ?_
   rintro T ⟨kT,r1⟩
   have t:=kT.cell
   exact bodyPost_ret (v:=.agg (simC 3 ta tb)) (by simp[results,Tryd.results109,go_sem,simC,t]) rfl ⟨by rw[hA.out];rfl,r1⟩
 ·cases bx
  ·go_wp2_with fail
   refine retW (D:=fun T=>Blk T w.heap.size tC (simC 2 ta tb)∧Below w.heap.size w T) ⟨ten0 k0,below_ten HB2.out (Nat.le_refl _)⟩ ?_
   rintro T ⟨kT,r1⟩
   have t:=kT.cell
   exact bodyPost_ret (v:=.agg (simC 2 ta tb)) (by simp[results,Tryd.results109,go_sem,simC,t]) rfl ⟨by rw[hA.out];rfl,r1⟩
  ·go_wp2_with fail
   refine retW (D:=fun T=>Blk T w.heap.size tC (simC 2 ta tb)∧Below w.heap.size w T) ⟨ten0 k0,below_ten HB2.out (Nat.le_refl _)⟩ ?_
   rintro T ⟨kT,r1⟩
   have t:=kT.cell
   exact bodyPost_ret (v:=.agg (simC 2 ta tb)) (by simp[results,Tryd.results109,go_sem,simC,t]) rfl ⟨by rw[hA.out];rfl,r1⟩
end Go.Proofs.YtjbboklnegfohaaDoor

/- Contracts: a command's head (spec.l8Head). -/
namespace Go.Proofs.YtjbboklnegfohaaDoor
open Go Go.RowKit Go.Proofs
def headV (h:Hd) (fv av:Value):Value:=.agg #[.int .i64 h.k,.int .i64 h.a,.int .i64 h.b,.bool h.t.eq,.int .i64 h.t.a,.int .i64 h.t.b,fv,av,.slice none 0 0,.slice none 0 0]
theorem head1 {l:Bs} (h:(splitM l [58,61]).2.2=true):headF l=asgnPF (splitM l [58,61]).1 (splitM l [58,61]).2.1:=by unfold headF;rw[if_pos h]
theorem headI0 {l:Bs} (h:(splitM l [58,61]).2.2=false):headF l=wordF (splitM l [32]).1 (splitM l [32]).2.1:=by unfold headF;rw[h];rfl
theorem word7 {word rest:Bs} (h1:word≠[110,101,119]) (h2:word≠[102,114,101,101]) (h3:word≠[105,102]) :
  wordF word rest=⟨7,0,0,pF (splitM rest [32,119,105,116,104,32]).1,pA (splitM rest [32,119,105,116,104,32]).2.1⟩:=by
 unfold wordF;rw[if_neg h1,if_neg h2,if_neg h3]
theorem headV_sim {h:Hd} (hi:h.i=⟨[],[]⟩) (ht:h.t=fctZ):Value.agg (simC h.k h.a h.b)=headV h (.slice none 0 0) (.slice none 0 0):=by
 obtain ⟨k,a,b,t,i⟩:=h
 simp only at hi ht
 subst hi ht
 rfl
set_option maxRecDepth 100000 in
set_option maxHeartbeats 6400000 in
theorem c_l8Head (l:Bs) (w:World) (hl:l.length≤1000000):Calls Tryd.prog 83 #[sv l] w fun e w'=>∃ fv av,e=.returned (headV (headF l) fv av)∧FactsO w' w.heap.size fv (headF l).i.facts∧AtomsO w' w.heap.size av (headF l).i.atoms∧Below w.heap.size w w':=by
 have k0:Blk (w.alloc (.cells (simC 0 0 0) tC)) w.heap.size tC (simC 0 0 0):=Blk.new _ _ _
 have s1:=splitM_len l [58,61]
 have s2:=splitM_len l [32]
 have H1:=Lib.hid (fun h=>head1 (l:=l) h)
 have H0:=Lib.hid (fun h=>headI0 (l:=l) h)
 have c1:=fun w=>c_l8Split l [58,61] w (by omega) (by simp)
 have c2:=fun w=>c_l8Split l [32] w (by omega) (by simp)
 obtain ⟨⟨le,ri,ok⟩,hs⟩:∃ s,s=splitM l [58,61]:=⟨_,rfl⟩
 obtain ⟨⟨wo,re,o2⟩,hs2⟩:∃ s,s=splitM l [32]:=⟨_,rfl⟩
 rw[←hs] at s1 H1 H0 c1
 rw[←hs2] at s2 H0 c2
 clear hs hs2
 simp only at s1 s2 c1 c2
 obtain ⟨l1,l2⟩:=s1
 obtain ⟨l3,l4⟩:=s2
 replace c1:=Lib.hid c1
 replace c2:=Lib.hid c2
 go_enter Tryd.func83,Tryd.ntmps83
 go_wp2_with fail
 refine (c1.out _).mono ?_
 rintro e w1 ⟨rfl,hB1⟩
 replace k0:=k0.next hB1
 have HB1:=Lib.hid (bgo (w:=w) (bel:Below w.heap.size w (w.alloc (.cells (simC 0 0 0) tC))) hB1)
 clear hB1 c1
 cases ok with
 | true=>
  have hH:=Lib.hid (H1.out rfl)
  clear H0 H1
  have q0:=k0.cell
  have r0:=k0.frozen
  have l0:=k0.lt
  go_wp2_with fail
  refine (c_l8Assign le ri _ (by omega) (by omega)).mono ?_
  rintro e w2 ⟨rfl,hB2⟩
  replace k0:=k0.next hB2
  have HB2:=Lib.hid (bgo HB1.out hB2)
  clear hB2 HB1 q0 r0 l0
  obtain ⟨ak,aa,ab,hak⟩:∃ k a b,k=(asgnPF le ri).k∧a=(asgnPF le ri).a∧b=(asgnPF le ri).b:=⟨_,_,_,rfl,rfl,rfl⟩
  have hv:Hid (Value.agg (simC ak aa ab)=headV (asgnPF le ri) (.slice none 0 0) (.slice none 0 0)):=Lib.hid (by rw[hak.1,hak.2.1,hak.2.2];exact headV_sim rfl rfl)
  rw[←hak.1,←hak.2.1,←hak.2.2]
  clear hak
  have q0:=k0.cell
  have r0:=k0.frozen
  have l0:=k0.lt
  unfold simC at q0 k0
  go_wp2_with fail
  unfold simC
  go_wp2_with fail
  refine retW (D:=fun T=>Blk T w.heap.size tC (simC ak aa ab)∧Below w.heap.size w T) ⟨ten0 k0,below_ten HB2.out (Nat.le_refl _)⟩ ?_
  rintro T ⟨kT,r1⟩
  have t:=kT.cell
  exact bodyPost_ret (v:=.agg (simC ak aa ab)) (by simp[results,Tryd.results83,go_sem,simC,t]) rfl ⟨_,_,by rw[hH.out,hv.out],by rw[hH.out];exact FactsO.nil _ _,by rw[hH.out];exact AtomsO.nil _ _,r1⟩
 | false=>
  have hH:=Lib.hid (H0.out rfl)
  clear H0 H1
  have q0:=k0.cell
  have r0:=k0.frozen
  have l0:=k0.lt
  go_wp2_with fail
  refine (c2.out _).mono ?_
  rintro e w2 ⟨rfl,hB2⟩
  replace k0:=k0.next hB2
  have HB2:=Lib.hid (bgo HB1.out hB2)
  clear hB2 HB1 q0 r0 l0
  have q0:=k0.cell
  have r0:=k0.frozen
  have l0:=k0.lt
  go_wp2_with fail
  refine (c_ParseTerm re _).mono ?_
  rintro e w3 ⟨rfl,rfl⟩
  obtain ⟨ta,hta⟩:∃ t:Int,t=pT re:=⟨_,rfl⟩
  rw[show (((parseT re).getD 0:Nat):Int)=ta from hta.symm]
  by_cases h1:wo=[110,101,119]
  ·subst h1
   have hH2:Hid (headF l=⟨4,ta,0,fctZ,⟨[],[]⟩⟩):=Lib.hid (by rw[hH.out,hta];rfl)
   clear hH hta
   unfold simC at q0 k0
   go_wp2_with fail
   refine retW (D:=fun T=>Blk T w.heap.size tC (simC 4 ta 0)∧Below w.heap.size w T) ⟨ten0 k0,below_ten HB2.out (Nat.le_refl _)⟩ ?_
   rintro T ⟨kT,r1⟩
   have t:=kT.cell
   exact bodyPost_ret (v:=.agg (simC 4 ta 0)) (by simp[results,Tryd.results83,go_sem,simC,t]) rfl ⟨_,_,by rw[hH2.out];rfl,by rw[hH2.out];exact FactsO.nil _ _,by rw[hH2.out];exact AtomsO.nil _ _,r1⟩
  have h1b:(wo == [110,101,119])=false:=by rw[bytes_eq];simpa using h1
  by_cases h2:wo=[102,114,101,101]
  ·subst h2
   have hH2:Hid (headF l=⟨5,ta,0,fctZ,⟨[],[]⟩⟩):=Lib.hid (by rw[hH.out,hta];rfl)
   clear hH hta h1 h1b
   unfold simC at q0 k0
   go_wp2_with fail
   refine retW (D:=fun T=>Blk T w.heap.size tC (simC 5 ta 0)∧Below w.heap.size w T) ⟨ten0 k0,below_ten HB2.out (Nat.le_refl _)⟩ ?_
   rintro T ⟨kT,r1⟩
   have t:=kT.cell
   exact bodyPost_ret (v:=.agg (simC 5 ta 0)) (by simp[results,Tryd.results83,go_sem,simC,t]) rfl ⟨_,_,by rw[hH2.out];rfl,by rw[hH2.out];exact FactsO.nil _ _,by rw[hH2.out];exact AtomsO.nil _ _,r1⟩
  have h2b:(wo == [102,114,101,101])=false:=by rw[bytes_eq];simpa using h2
  by_cases h3:wo=[105,102]
  ·subst h3
   have hH2:Hid (headF l=⟨6,0,0,pF re,⟨[],[]⟩⟩):=Lib.hid (by rw[hH.out];rfl)
   clear hH hta h1 h1b h2 h2b
   go_wp2_with fail
   refine (c_ParseFact re _).mono ?_
   rintro e w4 ⟨rfl,hB4⟩
   replace k0:=k0.next hB4
   have HB4:=Lib.hid (bgo HB2.out hB4)
   clear hB4 HB2 q0 r0 l0
   obtain ⟨fe,fa,fb,hfv⟩:∃ fe fa fb,((parseF re).getD fct0)=⟨fe,fa,fb⟩:=⟨_,_,_,rfl⟩
   have hfv2:((parseF re).getD fct0).val=.agg #[.bool fe,.int .i64 fa,.int .i64 fb]:=by rw[hfv]
   rw[hfv2]
   have hH3:Hid (headF l=⟨6,0,0,⟨fe,fa,fb⟩,⟨[],[]⟩⟩):=Lib.hid (by rw[hH2.out,←hfv];rfl)
   clear hfv hfv2 hH2
   have q0:=k0.cell
   have r0:=k0.frozen
   have l0:=k0.lt
   unfold simC at q0 k0
   go_wp2_with fail
   refine retW (D:=fun T=>Blk T w.heap.size tC #[.int .i64 6,.int .i64 0,.int .i64 0,.bool fe,.int .i64 fa,.int .i64 fb,.slice none 0 0,.slice none 0 0,.slice none 0 0,.slice none 0 0]∧Below w.heap.size w T) ⟨(ten0 k0).alloc _,(below_ten HB4.out (Nat.le_refl _)).alloc (by simp;omega) _⟩ ?_
   rintro T ⟨kT,r1⟩
   have t:=kT.cell
   exact bodyPost_ret (v:=headV ⟨6,0,0,⟨fe,fa,fb⟩,⟨[],[]⟩⟩ (.slice none 0 0) (.slice none 0 0)) (by simp[results,Tryd.results83,go_sem,headV,t]) rfl ⟨_,_,by rw[hH3.out],by rw[hH3.out];exact FactsO.nil _ _,by rw[hH3.out];exact AtomsO.nil _ _,r1⟩
  have h3b:(wo == [105,102])=false:=by rw[bytes_eq];simpa using h3
  have hH2:=Lib.hid (hH.out.trans (word7 h1 h2 h3))
  have s5:=splitM_len re [32,119,105,116,104,32]
  have c5:=fun w=>c_l8Split re [32,119,105,116,104,32] w (by omega) (by simp)
  obtain ⟨⟨te,iv,o3⟩,hs5⟩:∃ s,s=splitM re [32,119,105,116,104,32]:=⟨_,rfl⟩
  rw[←hs5] at s5 c5 hH2
  clear hs5 h1 h2 h3 hH hta
  simp only at s5 c5
  replace c5:=Lib.hid c5
  go_wp2_with fail
  refine (c5.out _).mono ?_
  rintro e w5 ⟨rfl,hB5⟩
  replace k0:=k0.next hB5
  have HB5:=Lib.hid (bgo HB2.out hB5)
  clear hB5 HB2 q0 r0 l0 c5
  have q0:=k0.cell
  have r0:=k0.frozen
  have l0:=k0.lt
  go_wp2_with fail
  refine (c_ParseFact te _).mono ?_
  rintro e w6 ⟨rfl,hB6⟩
  replace k0:=k0.next hB6
  have HB6:=Lib.hid (bgo HB5.out hB6)
  clear hB6 HB5 q0 r0 l0
  obtain ⟨fe,fa,fb,hfv⟩:∃ fe fa fb,((parseF te).getD fct0)=⟨fe,fa,fb⟩:=⟨_,_,_,rfl⟩
  have hfv2:((parseF te).getD fct0).val=.agg #[.bool fe,.int .i64 fa,.int .i64 fb]:=by rw[hfv]
  rw[hfv2]
  have hH3:Hid (headF l=⟨7,0,0,⟨fe,fa,fb⟩,pA iv⟩):=Lib.hid (by rw[hH2.out,←hfv];rfl)
  clear hfv hfv2 hH2
  have q0:=k0.cell
  have r0:=k0.frozen
  have l0:=k0.lt
  have hne:w.heap.size≠w6.heap.size:=by omega
  have k2:Blk (w6.alloc (.cells #[.bool fe,.int .i64 fa,.int .i64 fb] tF)) w6.heap.size tF #[.bool fe,.int .i64 fa,.int .i64 fb]:=blks
  go_wp2_with fail
  refine (c_ParseAssertion iv _ (by omega)).mono ?_
  rintro e w7 ⟨r7,rfl,o7,hB7⟩
  have z7:w6.heap.size+1≤w7.heap.size:=by simpa using hB7.size
  have hB67:Below w6.heap.size w6 w7:=bgo (w:=w6) bel hB7
  replace k0:=k0.next hB67
  replace k2:=k2.next hB7
  have HB7:=Lib.hid (bgo HB6.out hB67)
  have zz:=HB6.out.size
  have zw:w.heap.size≤(w6.alloc (.cells #[.bool fe,.int .i64 fa,.int .i64 fb] tF)).heap.size:=by simp;omega
  clear HB6 q0 r0 l0
  obtain ⟨i,hi⟩:∃ i,i=pA iv:=⟨_,rfl⟩
  rw[show (parseA iv).getD ⟨[],[]⟩=i from hi.symm] at o7
  rw[←hi] at hH3
  clear hi
  obtain ⟨fv,av,rfl,of,oa⟩:=o7
  obtain ⟨AF,cF,rfl,-⟩:=of.reads
  obtain ⟨AA,cA,rfl,-⟩:=oa.reads
  have HF:=Lib.hid (of.lower (base':=w.heap.size) zw)
  have HA:=Lib.hid (oa.lower (base':=w.heap.size) zw)
  clear of oa hB7 hB67
  obtain ⟨px,hpx⟩:∃ p,p=(parseA iv).isSome:=⟨_,rfl⟩
  rw[←hpx]
  clear hpx
  have q0:=k0.cell
  have r0:=k0.frozen
  have l0:=k0.lt
  have q2:=k2.cell
  have r2:=k2.frozen
  have l2':=k2.lt
  unfold simC at q0 k0
  go_wp2_with fail
  refine retW (D:=fun T=>Blk T w.heap.size tC #[.int .i64 7,.int .i64 0,.int .i64 0,.bool fe,.int .i64 fa,.int .i64 fb,.slice AF i.facts.length cF,.slice AA i.atoms.length cA,.slice none 0 0,.slice none 0 0]∧Below w.heap.size w T∧FactsO T w.heap.size (.slice AF i.facts.length cF) i.facts∧AtomsO T w.heap.size (.slice AA i.atoms.length cA) i.atoms) ⟨(ten0 k0).alloc _,(below_ten HB7.out (Nat.le_refl _)).alloc (by simp;omega) _,?_,?_⟩ ?_
  ·exact ⟨own_below (own_ten HF.out.1 k0 (by decide)) (bbox (Below.refl _ _) _),HF.out.2⟩
  ·exact ⟨own_below (own_ten HA.out.1 k0 (by decide)) (bbox (Below.refl _ _) _),HA.out.2⟩
  rintro T ⟨kT,r1,oF,oA⟩
  have t:=kT.cell
  exact bodyPost_ret (v:=headV ⟨7,0,0,⟨fe,fa,fb⟩,i⟩ (.slice AF i.facts.length cF) (.slice AA i.atoms.length cA)) (by simp[results,Tryd.results83,go_sem,headV,t]) rfl ⟨_,_,by rw[hH3.out],by rw[hH3.out];exact oF,by rw[hH3.out];exact oA,r1⟩
end Go.Proofs.YtjbboklnegfohaaDoor

/- Contracts: commands from lines (spec.l8Block). -/
namespace Go.Proofs.YtjbboklnegfohaaDoor
open Go Go.RowKit Go.Proofs
def atI:Option Nat→Int
 | some m=>(m:Int)
 | none=>-1
theorem app_assoc:∀ (A B C:Cms),(A.app B).app C=A.app (B.app C)
 | .nil,B,C=>rfl
 | .cons k a b t i body els r,B,C=>by simp only[Cms.app,app_assoc r B C]
theorem app_nil:∀ (A:Cms),A.app .nil=A
 | .nil=>rfl
 | .cons k a b t i body els r=>by simp only[Cms.app,app_nil r]
def blkSt (ls:List Bs) (d:Nat) (R:Cms×Option Nat) (acc:Cms):Option Nat→Prop
 | some p=>∃ n,ls.length≤n+p∧acc.app (blkF ls n p d).1=R.1∧(blkF ls n p d).2=R.2
 | none=>acc=R.1∧R.2=none
section
variable {ls:List Bs} {d p m:Nat} {R:Cms×Option Nat} {acc body els:Cms}
theorem blkSt.start (n:Nat) (h:ls.length≤n+p):blkSt ls d (blkF ls n p d) .nil (some p):=⟨n,h,rfl,rfl⟩
theorem blkSt.stop (h:blkSt ls d R acc (some p)) (hc:¬(p+1<ls.length∧ls.getD p []≠endL∧ls.getD p []≠elseL)):acc=R.1∧R.2=some p:=by
 obtain ⟨n,h1,h2,h3⟩:=h
 cases n with
 | zero=>exact ⟨by rw[←h2];exact (app_nil acc).symm,h3.symm⟩
 | succ n=>
  unfold blkF at h2 h3
  rw[if_neg hc] at h2 h3
  exact ⟨by rw[←h2];exact (app_nil acc).symm,h3.symm⟩
theorem blkSt.on (h:blkSt ls d R acc (some p)) (hp:p<ls.length):∃ m,ls.length≤m+(p+1)∧acc.app (blkF ls (m+1) p d).1=R.1∧(blkF ls (m+1) p d).2=R.2:=by
 obtain ⟨n,h1,h2,h3⟩:=h
 cases n with
 | zero=>omega
 | succ n=>exact ⟨n,by omega,h2,h3⟩
theorem blkSt.mk (hm:ls.length≤m+(p+1)) {F:Cms×Option Nat} (h2:acc.app F.1=R.1) (h3:F.2=R.2) {H:Hd} {q:Nat} (hq:p+1≤q) (e:F=(.one1 H body els (blkF ls m q d).1,(blkF ls m q d).2)):blkSt ls d R (acc.app (.one1 H body els .nil)) (some q):=by
 subst e
 exact ⟨m,by omega,by rw[app_assoc];exact h2,h3⟩
theorem blkSt.mk0 {F:Cms×Option Nat} (h2:acc.app F.1=R.1) (h3:F.2=R.2) {H:Hd} (e:F=(.one1 H body els .nil,none)):blkSt ls d R (acc.app (.one1 H body els .nil)) none:=by
 subst e
 exact ⟨h2,h3.symm⟩
theorem blk_basic (hc:p+1<ls.length∧ls.getD p []≠endL∧ls.getD p []≠elseL) (h:¬((headF (ls.getD p [])).k=6∨(headF (ls.getD p [])).k=7)) :
  blkF ls (m+1) p d=(.one1 (headF (ls.getD p [])) .nil .nil (blkF ls m (p+1) d).1,(blkF ls m (p+1) d).2):=by
 rw[blkF,if_pos hc,if_neg h]
theorem blk_zero (hc:p+1<ls.length∧ls.getD p []≠endL∧ls.getD p []≠elseL) (h:(headF (ls.getD p [])).k=6∨(headF (ls.getD p [])).k=7) (hd:d<1):blkF ls (m+1) p d=(.nil,none):=by
 rw[blkF,if_pos hc,if_pos h,if_pos hd]
theorem blk_none (hc:p+1<ls.length∧ls.getD p []≠endL∧ls.getD p []≠elseL) (h:(headF (ls.getD p [])).k=6∨(headF (ls.getD p [])).k=7) (hd:¬d<1) (hb:(blkF ls m (p+1) (d - 1)).2=none) :
  blkF ls (m+1) p d=(.one1 (headF (ls.getD p [])) (blkF ls m (p+1) (d - 1)).1 .nil .nil,none):=by
 rw[blkF,if_pos hc,if_pos h,if_neg hd]
 split
 ·rename_i b e;rw[e]
 ·rename_i b q e;rw[e] at hb;cases hb
theorem blk_noelse {q:Nat} (hc:p+1<ls.length∧ls.getD p []≠endL∧ls.getD p []≠elseL) (h:(headF (ls.getD p [])).k=6∨(headF (ls.getD p [])).k=7) (hd:¬d<1) (hb:(blkF ls m (p+1) (d - 1)).2=some q)
  (hq:¬(q<ls.length∧ls.getD q []=elseL)):blkF ls (m+1) p d=(.one1 (headF (ls.getD p [])) (blkF ls m (p+1) (d - 1)).1 .nil (blkF ls m (q+1) d).1,(blkF ls m (q+1) d).2):=by
 rw[blkF,if_pos hc,if_pos h,if_neg hd]
 split
 ·rename_i b e;rw[e] at hb;cases hb
 ·rename_i b q' e
  rw[e] at hb
  injection hb with hb
  subst hb
  rw[if_neg hq,e]
theorem blk_else0 {q:Nat} (hc:p+1<ls.length∧ls.getD p []≠endL∧ls.getD p []≠elseL) (h:(headF (ls.getD p [])).k=6∨(headF (ls.getD p [])).k=7) (hd:¬d<1) (hb:(blkF ls m (p+1) (d - 1)).2=some q)
  (hq:q<ls.length∧ls.getD q []=elseL) (he:(blkF ls m (q+1) (d - 1)).2=none):blkF ls (m+1) p d=(.one1 (headF (ls.getD p [])) (blkF ls m (p+1) (d - 1)).1 (blkF ls m (q+1) (d - 1)).1 .nil,none):=by
 rw[blkF,if_pos hc,if_pos h,if_neg hd]
 split
 ·rename_i b e;rw[e] at hb;cases hb
 ·rename_i b q' e
  rw[e] at hb
  injection hb with hb
  subst hb
  rw[if_pos hq,e]
  split
  ·rename_i b' e';rw[e']
  ·rename_i b' r e';rw[e'] at he;cases he
theorem blk_else {q r:Nat} (hc:p+1<ls.length∧ls.getD p []≠endL∧ls.getD p []≠elseL) (h:(headF (ls.getD p [])).k=6∨(headF (ls.getD p [])).k=7) (hd:¬d<1) (hb:(blkF ls m (p+1) (d - 1)).2=some q)
  (hq:q<ls.length∧ls.getD q []=elseL) (he:(blkF ls m (q+1) (d - 1)).2=some r):blkF ls (m+1) p d=(.one1 (headF (ls.getD p [])) (blkF ls m (p+1) (d - 1)).1 (blkF ls m (q+1) (d - 1)).1 (blkF ls m (r+1) d).1,(blkF ls m (r+1) d).2):=by
 rw[blkF,if_pos hc,if_pos h,if_neg hd]
 split
 ·rename_i b e;rw[e] at hb;cases hb
 ·rename_i b q' e
  rw[e] at hb
  injection hb with hb
  subst hb
  rw[if_pos hq,e]
  split
  ·rename_i b' e';rw[e'] at he;cases he
  ·rename_i b' r' e'
   rw[e'] at he
   injection he with he
   subst he
   rw[e']
end
end Go.Proofs.YtjbboklnegfohaaDoor

/- Contracts: commands from lines (spec.l8Block), the walk. -/
namespace Go.Proofs.YtjbboklnegfohaaDoor
open Go Go.RowKit Go.Proofs
theorem getD_at {ls:List Bs} {p:Nat} (h:p<ls.length):ls.getD p []=ls[p]:=by simp[List.getD,List.getElem?_eq_getElem h]
def BlkOk (d:Nat):Prop:=∀ (lo hi:Nat) (A:Option Addr) (c:Nat) (ls:List Bs) (p n:Nat) (w:World),StrsV w lo hi A ls→(∀ x∈ls,x.length≤1000000)→ls.length≤1049000→p≤ls.length→ls.length≤n+p→
  Calls Tryd.prog 46 #[.slice A ls.length c,.int .i64 p,.int .i64 d] w fun e w'=>∃ v,e=.returned (.tuple #[v,.int .i64 (atI (blkF ls n p d).2)])∧CmsN w' w.heap.size v (blkF ls n p d).1∧Below w.heap.size w w'
set_option maxRecDepth 100000 in
set_option maxHeartbeats 12800000 in
theorem l8Block_zero:BlkOk 0:=by
  intro lo hi A c ls p n w hV hS hL hp hn
  have HV:=Lib.hid hV
  have HS:=Lib.hid hS
  obtain ⟨R,hR⟩:∃ R,R=blkF ls n p (0):=⟨_,rfl⟩
  have hst:Hid (blkSt ls (0) R .nil (some p)):=Lib.hid (by rw[hR];exact blkSt.start n hn)
  rw[←hR]
  clear hV hS hn hR
  go_enter Tryd.func46,Tryd.ntmps46
  have hN0:=CmsN.empty w (Nat.le_refl _)
  go_wp2_with fail
  go_loopg [1,8] (ls.length+12) (fun gh s1 s8 wr=>∃ (acc:Cms) (nx:Option Nat),s1=.int .i64 (atI nx)∧Hid (CmsN wr w.heap.size s8 acc)∧Hid (blkSt ls (0) R acc nx)∧acc.len≤ls.length+0∧Hid (∀ q,nx=some q→acc.len≤q∧q≤ls.length+0∧ls.length+12≤gh+q)∧Hid (Below w.heap.size w wr))
  case atStart=>exact ⟨.nil,some p,rfl,Lib.hid hN0,hst,by simp[Cms.len],Lib.hid (fun q e=>by injection e with e;subst e;simp[Cms.len];omega),Lib.hid (bbox (Below.refl _ _) _)⟩
  case round=>
   clear hN0 hst
   obtain ⟨acc,nx,rfl,hN,hst,hal,hnx,HB⟩:=hrel
   have hz:=HB.out.size
   obtain ⟨A5,c5,rfl,-⟩:=hN.out.reads
   have hOL:=Lib.hid hN.out.own_lt
   cases nx with
   | none=>
    have hE:=Lib.hid hst.out
    have hf:Hid (R.2=none):=Lib.hid hE.out.2
    have ha:Hid (acc=R.1):=Lib.hid hE.out.1
    have hm1:atI none = -1:=rfl
    rw[hm1]
    clear hE hst hnx
    go_wp2_with fail
    refine bodyPost_ret (v:=.tuple #[.slice A5 acc.len c5,.int .i64 (-1)]) (by simp[results,Tryd.results46,go_sem]) rfl ⟨_,by rw[hf.out];rfl,by rw[←ha.out];exact hN.out,HB.out⟩
   | some q=>
    obtain ⟨hq1,hq2,hq3⟩:=hnx.out q rfl
    have hqi:atI (some q)=(q:Int):=rfl
    rw[hqi]
    clear hnx
    have hq0:(0:Int)≤(q:Int):=by omega
    have hSt:=Lib.hid (fun hc=>hst.out.stop hc)
    by_cases hlt:q+1<ls.length
    ·have hlti:(q:Int)+1<(ls.length:Int):=by omega
     obtain ⟨b,o,rfl,hc⟩:=(HV.out.below HB.out).at (show q<ls.length by omega)
     have hbl:=block_lt_of_cell hc
     have hgd:=getD_at (ls:=ls) (p:=q) (by omega)
     have hxl:(ls[q]'(by omega)).length≤1000000:=HS.out _ (List.getElem_mem _)
     have hOn:=Lib.hid (hst.out.on (by omega))
     obtain ⟨x,hxx⟩:∃ x,x=ls[q]'(by omega):=⟨_,rfl⟩
     rw[←hxx] at hc hgd hxl
     rw[hgd] at hSt
     clear hxx
     by_cases he1:x=endL
     ·subst he1
      have hE:=Lib.hid (hSt.out (fun h=>h.2.1 rfl))
      have hf:Hid (R.2=some q):=Lib.hid hE.out.2
      have ha:Hid (acc=R.1):=Lib.hid hE.out.1
      clear hE hSt hOn hst
      go_wp2_with fail
      refine bodyPost_ret (v:=.tuple #[.slice A5 acc.len c5,.int .i64 q]) (by simp[results,Tryd.results46,go_sem]) rfl ⟨_,by rw[hf.out];rfl,by rw[←ha.out];exact hN.out,HB.out⟩
     have he1b:(x == [101,110,100])=false:=by rw[bytes_eq];simpa using he1
     by_cases he2:x=elseL
     ·subst he2
      have hE:=Lib.hid (hSt.out (fun h=>h.2.2 rfl))
      have hf:Hid (R.2=some q):=Lib.hid hE.out.2
      have ha:Hid (acc=R.1):=Lib.hid hE.out.1
      clear hE hSt hOn hst
      go_wp2_with fail
      refine bodyPost_ret (v:=.tuple #[.slice A5 acc.len c5,.int .i64 q]) (by simp[results,Tryd.results46,go_sem]) rfl ⟨_,by rw[hf.out];rfl,by rw[←ha.out];exact hN.out,HB.out⟩
     have he2b:(x == [101,108,115,101])=false:=by rw[bytes_eq];simpa using he2
     have hcc:=Lib.hid (show q+1<ls.length∧ls.getD q []≠endL∧ls.getD q []≠elseL from ⟨hlt,by rw[hgd];exact he1,by rw[hgd];exact he2⟩)
     obtain ⟨m,hm,hF1,hF2⟩:=hOn.out
     replace hF1:=Lib.hid hF1
     replace hF2:=Lib.hid hF2
     clear he1 he2 hOn hst hSt
     go_wp2_with fail
     refine (c_l8Head x _ hxl).mono ?_
     rintro e w1 ⟨fv,av,rfl,of,oa,hB1⟩
     obtain ⟨⟨k,ha,hb,⟨te,ta,tb⟩,i⟩,hH⟩:∃ h,h=headF x:=⟨_,rfl⟩
     rw[←hH] at of oa ⊢
     replace hH:=Lib.hid (show headF (ls.getD q [])=⟨k,ha,hb,⟨te,ta,tb⟩,i⟩ by rw[hgd];exact hH.symm)
     unfold headV
     simp only at of oa ⊢
     obtain ⟨AF,cF,rfl,vF⟩:=of.reads
     obtain ⟨AA,cA,rfl,vA⟩:=oa.reads
     have zr:=hB1.size
     have HB1:=Lib.hid (bgo HB.out hB1)
     have hcb:w1.heap.size≠b:=by have h9:b<wr.heap.size:=hbl;omega
     have HX0:=Lib.hid (show ∀ y,wr.heap.size≤y→y<w1.heap.size→(w.heap.size≤y∧(Value.slice A5 acc.len c5).ownBlock≠some y∧y≠w1.heap.size) from fun y h1 h2=>⟨by omega,fun e=>by have:=hOL.out y e;omega,by omega⟩)
     have HXN:=Lib.hid (show ∀ y,w1.heap.size+1≤y→(w.heap.size≤y∧(Value.slice A5 acc.len c5).ownBlock≠some y∧y≠w1.heap.size) from fun y h1=>⟨by omega,fun e=>by have:=hOL.out y e;omega,by omega⟩)
     have XF:=Lib.hid (Rw.x vF.raw HX0.out)
     have XA:=Lib.hid (Rw.x vA.raw HX0.out)
     have HN1:=Lib.hid (hN.out.below hB1)
     have k0:Blk (w1.alloc (.cells #[.int .i64 k,.int .i64 ha,.int .i64 hb,.bool te,.int .i64 ta,.int .i64 tb,.slice AF i.facts.length cF,.slice AA i.atoms.length cA,.slice none 0 0,.slice none 0 0] tC)) w1.heap.size tC #[.int .i64 k,.int .i64 ha,.int .i64 hb,.bool te,.int .i64 ta,.int .i64 tb,.slice AF i.facts.length cF,.slice AA i.atoms.length cA,.slice none 0 0,.slice none 0 0]:=Blk.new _ _ _
     have hBw:Hid (Below w1.heap.size w1 (w1.alloc (.cells #[.int .i64 k,.int .i64 ha,.int .i64 hb,.bool te,.int .i64 ta,.int .i64 tb,.slice AF i.facts.length cF,.slice AA i.atoms.length cA,.slice none 0 0,.slice none 0 0] tC))):=Lib.hid (bbox (Below.refl _ _) _)
     have hq1i:=Lib.hid (show (q:Int)+1=((q+1:Nat):Int) by omega)
     clear of oa vF vA hB1 hc hN hbl HB
     by_cases hk:k=6∨k=7
     ·have hz0:=Lib.hid (blk_zero (m:=m) (d:=0) hcc.out (by rw[hH.out];exact hk) (by omega))
      have hR1:Hid (R.2=none):=Lib.hid (by rw[←hF2.out,hz0.out])
      have hR2:Hid (acc=R.1):=Lib.hid (by rw[←hF1.out,hz0.out];exact (app_nil acc).symm)
      have HB2:Hid (Below w.heap.size w (w1.alloc (.cells #[.int .i64 k,.int .i64 ha,.int .i64 hb,.bool te,.int .i64 ta,.int .i64 tb,.slice AF i.facts.length cF,.slice AA i.atoms.length cA,.slice none 0 0,.slice none 0 0] tC))):=Lib.hid (HB1.out.trans (hBw.out.mono (by omega)))
      have HN2:=Lib.hid (HN1.out.below hBw.out)
      clear hz0 hH hF1 hF2
      rcases hk with rfl|rfl
      all_goals
       (replace qk0:=k0.cell;replace rk0:=k0.frozen;replace lk0:=k0.lt)
       go_wp2_with fail
       refine bodyPost_ret (v:=.tuple #[.slice A5 acc.len c5,.int .i64 (-1)]) (by simp[results,Tryd.results46,go_sem]) rfl ⟨_,by rw[hR1.out];rfl,by rw[←hR2.out];exact HN2.out,HB2.out⟩
     ·have hk6:(k == 6)=false:=by simp;omega
      have hk7:(k == 7)=false:=by simp;omega
      have hzb:=Lib.hid (blk_basic (m:=m) (d:=0) hcc.out (by rw[hH.out];exact hk))
      have hstx:Hid (blkSt ls 0 R (acc.app (.cons k ha hb ⟨te,ta,tb⟩ i .nil .nil .nil)) (some (q+1))):=Lib.hid (blkSt.mk (H:=⟨k,ha,hb,⟨te,ta,tb⟩,i⟩) hm hF1.out hF2.out (Nat.le_refl _) (by rw[hzb.out,hH.out]))
      clear hzb hF1 hF2 hk
      (replace qk0:=k0.cell;replace rk0:=k0.frozen;replace lk0:=k0.lt)
      go_upto_region 17 with fail
      clear qk0 rk0 lk0
      rw[hq1i.out]
      generalize w1.alloc (.cells #[.int .i64 k,.int .i64 ha,.int .i64 hb,.bool te,.int .i64 ta,.int .i64 tb,.slice AF i.facts.length cF,.slice AA i.atoms.length cA,.slice none 0 0,.slice none 0 0] tC)=wx at *
      have hBx:=hBw
      have kx:=k0
      obtain ⟨nx,hnxe⟩:∃ nx,nx=some (q+1):=⟨_,rfl⟩
      have hati:((q+1:Nat):Int)=atI nx:=by rw[hnxe];rfl
      rw[hati]
      rw[←hnxe] at hstx
      have hnx:Hid (∀ r,nx=some r→q+1≤r∧r≤ls.length+0):=Lib.hid (fun r e=>by rw[hnxe] at e;injection e with e;subst e;omega)
      obtain ⟨AB,cB,AE,cE,hAB⟩:∃ (AB:Option Addr) (cB:Nat) (AE:Option Addr) (cE:Nat),AB=none∧cB=0∧AE=none∧cE=0:=⟨_,_,_,_,rfl,rfl,rfl,rfl⟩
      obtain ⟨body,hbody⟩:∃ body,body=Cms.nil:=⟨_,rfl⟩
      obtain ⟨els,hels⟩:∃ body,body=Cms.nil:=⟨_,rfl⟩
      have h3:Hid (PartX wx (fun y=>w.heap.size≤y∧(Value.slice A5 acc.len c5).ownBlock≠some y∧y≠w1.heap.size) AB body):=Lib.hid (by rw[hbody];exact PartX.nil _)
      have h4:Hid (PartX wx (fun y=>w.heap.size≤y∧(Value.slice A5 acc.len c5).ownBlock≠some y∧y≠w1.heap.size) AE els):=Lib.hid (by rw[hels];exact PartX.nil _)
      have hkx:Blk wx w1.heap.size tC #[.int .i64 k,.int .i64 ha,.int .i64 hb,.bool te,.int .i64 ta,.int .i64 tb,.slice AF i.facts.length cF,.slice AA i.atoms.length cA,.slice AB body.len cB,.slice AE els.len cE]:=by rw[hAB.1,hAB.2.1,hAB.2.2.1,hAB.2.2.2,hbody,hels];exact kx
      replace kx:=hkx
      replace hstx:Hid (blkSt ls 0 R (acc.app (.cons k ha hb ⟨te,ta,tb⟩ i body els .nil)) nx):=Lib.hid (by rw[hbody,hels];exact hstx.out)
      clear hAB hbody hels hkx hnxe hati k0 hBw hk6 hk7
      have hT0:=HN1.out.below hBx.out
      obtain ⟨cs,ho9,hT9,-⟩:=hT0
      replace hT9:=Lib.hid hT9
      replace ho9:=Lib.hid ho9
      have hl9:w.heap.size≤wx.heap.size:=by have:=hBx.out.size;omega
      have XF9:=Lib.hid (XF.out.keep (w':=wx) fun y _ hy=>hBx.out.block y hy)
      have XA9:=Lib.hid (XA.out.keep (w':=wx) fun y _ hy=>hBx.out.block y hy)
      clear XF XA HN1
      have hfin:acc.len+1≤1049600∧w.heap.size≤w1.heap.size:=by omega
      have hacc:acc.len+1≤ls.length+0:=by omega
      obtain ⟨hfin,hw1⟩:=hfin
      have hq3:=Lib.hid (show 1≤gk∧ls.length+12≤gk+q by omega)
      replace hacc:=Lib.hid hacc
      replace hq1:=Lib.hid hq1
      replace hw1:=Lib.hid hw1
      have qkx:=kx.cell
      have rkx:=kx.frozen
      have lkx:=kx.lt
      replace kx:=Lib.hid kx
      clear hqi hgd he1b he2b hcc hm hxl hq0 hlti hlt hal hq2 hH hcb hz zr
      go_wp2_with (at_builtin;(refine appCX (base:=w.heap.size) (g0:=wx.heap.size) rfl _ _ rfl rfl (own_below ho9.out (bbox (Below.refl _ _) _)) (tenL k ha hb ⟨te,ta,tb⟩ (.slice AF i.facts.length cF) (.slice AA i.atoms.length cA) (.slice AB body.len cB) (.slice AE els.len cE)) rfl (Blk.new _ _ _) rfl rfl (tenOne _ _ _ _ _ _ _ _ _ _ _ _ _ _ _ _) hfin (by simp;omega) ?_);(intro A8 c8 w8 o8 g8 B8 v8;have o8:=Lib.hid o8;have g8:=Lib.hid g8;have v8:=Lib.hid v8;have B8:=Lib.hid B8))
      have kX:∀ y,y<wx.heap.size→(wx.alloc (.cells (tenL k ha hb ⟨te,ta,tb⟩ (.slice AF i.facts.length cF) (.slice AA i.atoms.length cA) (.slice AB body.len cB) (.slice AE els.len cE)).toArray tC)).heap[y]? = wx.heap[y]?:=fun y hy=>(bbox (Below.refl _ wx) _).block y hy
      have N8:CmsN w8 w.heap.size (.slice A8 (acc.len+1) c8) (acc.app (.cons k ha hb ⟨te,ta,tb⟩ i body els .nil)):=CmsN.grow (hT9.out.keep fun y _ hy=>kX y hy) hfin ((XF9.out.mono fun y hy _=>⟨hy.1,hy.2.1⟩).keep fun y _ hy=>kX y hy) ((XA9.out.mono fun y hy _=>⟨hy.1,hy.2.1⟩).keep fun y _ hy=>kX y hy) ((h3.out.mono fun y hy _=>⟨hy.1,hy.2.1⟩).keep fun y _ hy=>kX y hy) ((h4.out.mono fun y hy _=>⟨hy.1,hy.2.1⟩).keep fun y _ hy=>kX y hy) o8.out g8.out v8.out
      have F8:Below w.heap.size w w8:=((HB1.out.trans (hBx.out.mono hw1.out)).alloc hl9 _).trans B8.out
      have hLl:(acc.app (.cons k ha hb ⟨te,ta,tb⟩ i body els .nil)).len=acc.len+1:=by rw[Cms.len_app];rfl
      go_roundg (gk - 1)
      case rel=>exact ⟨acc.app (.cons k ha hb ⟨te,ta,tb⟩ i body els .nil),nx,rfl,Lib.hid N8,hstx,by rw[hLl];exact hacc.out,Lib.hid (fun r e=>by have:=hnx.out r e;have:=hq1.out;have:=hq3.out;rw[hLl];omega),Lib.hid F8⟩
      case measure=>have:=hq3.out;omega
    ·have hlti:¬(q:Int)+1<(ls.length:Int):=by omega
     have hE:=Lib.hid (hSt.out (fun h=>hlt h.1))
     have hf:Hid (R.2=some q):=Lib.hid hE.out.2
     have ha:Hid (acc=R.1):=Lib.hid hE.out.1
     clear hE hSt hst
     go_wp2_with fail
     refine bodyPost_ret (v:=.tuple #[.slice A5 acc.len c5,.int .i64 q]) (by simp[results,Tryd.results46,go_sem]) rfl ⟨_,by rw[hf.out];rfl,by rw[←ha.out];exact hN.out,HB.out⟩
end Go.Proofs.YtjbboklnegfohaaDoor
