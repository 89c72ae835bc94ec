/- Programs: validity, the spec's way: the count. -/
import Derived.Test.YtjbboklnegfohaaGreatDoorCmdI
import Derived.Test.YtjbboklnegfohaaGreatDoorMRange
import Derived.IntWalk
import Derived.Test.YtjbboklnegfohaaGreatDoorMAlloc
import Derived.Test.YtjbboklnegfohaaGreatDoorDrawA
import Derived.Test.YtjbboklnegfohaaGreatDoorDrawB
import Derived.Test.YtjbboklnegfohaaGreatDoorDrawC
import Derived.Deep.DeepCutAuto
import Derived.Test.YtjbboklnegfohaaGreatDoorRdf
set_option linter.unusedSimpArgs false
set_option linter.unusedVariables false
namespace Go.Proofs.YtjbboklnegfohaaGreatDoor
open Go Go.RowKit Go.Proofs
set_option maxRecDepth 100000 in
set_option maxHeartbeats 6400000 in
theorem l8Count_go:∀ (N:Nat) (L:Cms),L.sz<N→∀ (A:Option Addr) (c d lo hi:Nat) (D:Int) (w:World),D=d→CmsV w lo hi A L→L.len≤1049600→L.small 1049600→L.sz≤4200000→d≤4→
  Calls Tryz.prog 19 #[.slice A L.len c,.int .i64 D] w fun e w'=>e=.returned (.int .i64 (L.count d))∧Below w.heap.size w w':=by
 intro N
 induction N with
 | zero=>intro L h;omega
 | succ N IH=>
  intro L hsz A c d lo hi D w hD hV hlen hsm hcz hd
  replace IH:=Lib.hid IH
  replace hV:=Lib.hid hV
  replace hsm:=Lib.hid hsm
  replace hsz:=Lib.hid hsz
  replace hcz:=Lib.hid hcz
  obtain ⟨n,hn⟩:∃ n,n=L.len:=⟨_,rfl⟩
  obtain ⟨R,hR⟩:∃ R,R=L.count d:=⟨_,rfl⟩
  have hRz:R≤4200000:=by rw[hR];exact Nat.le_trans (Cms.count_le L d) hcz.out
  rw[←hn,←hR]
  rw[←hn] at hlen
  replace hn:=Lib.hid hn
  replace hR:=Lib.hid hR
  rcases Nat.eq_zero_or_pos d with rfl|hd0
  ·subst hD
   have e0:Hid (R=0):=by rw[Hid,hR.out];cases L<;>simp[Cms.count]
   go_enter Tryz.func19,Tryz.ntmps19
   go_wp2_with fail
   go_loopw [5,6] (fun m x wr=>m=.int .i64 0∧x=.int .i64 0∧Below w.heap.size w wr) (fun _ _ _=>0)
   case atStart=>exact ⟨rfl,rfl,bel⟩
   case round=>
    obtain ⟨rfl,rfl,hB⟩:=hrel
    by_cases q1:0<n
    all_goals
     go_wp2_with fail
     go_ret
     exact ⟨by rw[e0.out];rfl,hB⟩
  obtain ⟨d,rfl⟩:∃ e,d=e+1:=⟨d - 1,by omega⟩
  clear hd0
  have hD1:0<D:=by omega
  have hD4:D≤4:=by omega
  replace hD:=Lib.hid hD
  go_enter Tryz.func19,Tryz.ntmps19
  go_wp2_with fail
  go_loopw [5,6] (fun y x wr=>∃ j m:Nat,j≤n∧x=.int .i64 j∧y=.int .i64 m∧m≤R∧Hid (R=m+(L.drop j).count (d+1))∧Below w.heap.size w wr) (fun _ x _=>n - (intOf x).toNat)
  case atStart=>exact ⟨0,0,Nat.zero_le _,rfl,rfl,Nat.zero_le _,Lib.hid (by rw[Nat.zero_add];exact hR.out),bel⟩
  case round=>
   obtain ⟨j,m,hj,rfl,rfl,hmR,HR,hB⟩:=hrel
   by_cases hlt:j<n
   ·have hpos:0<(L.drop j).len:=by rw[Cms.drop_len,←hn.out];omega
    obtain ⟨k,a,b,t,i,body,els,r,eL⟩:=Cms.cons_of_len hpos
    obtain ⟨bl,o,rfl,-,-,hAt⟩:=(hV.out.below hB) (by rw[←hn.out];omega)
    have hD:=hAt.drop j
    have hS:=Cms.small_drop j hsm.out
    have hZ:=Cms.sz_drop j L
    have hDs:=Cms.drop_succ j L eL
    have HR':=HR.out
    rw[eL] at hD hS hZ HR'
    obtain ⟨⟨p0,p1,p2,p3,p4,p5⟩,⟨A6,c6,p6,g6⟩,⟨A7,c7,p7,g7⟩,⟨A8,c8,p8,g8⟩,⟨A9,c9,p9,g9⟩,-⟩:=hD
    obtain ⟨s1,s2,s3,s4,s5,s6,-⟩:=hS
    simp only[Cms.sz] at hZ
    have hbs:body.sz<N:=by have:=hsz.out;omega
    have hes:els.sz<N:=by have:=hsz.out;omega
    have hbz:body.sz≤4200000:=by have:=hcz.out;omega
    have hez:els.sz≤4200000:=by have:=hcz.out;omega
    have gB:Hid (CmsV wr lo hi A8 body):=g8
    have gE:Hid (CmsV wr lo hi A9 els):=g9
    rw[Cms.count,if_pos (by omega),Nat.add_sub_cancel,←hDs] at HR'
    obtain ⟨x1,hx1⟩:∃ x,x=body.count d:=⟨_,rfl⟩
    obtain ⟨x2,hx2⟩:∃ x,x=els.count d:=⟨_,rfl⟩
    rw[←hx1,←hx2] at HR'
    have y1:m+x1+x2+1≤R:=by omega
    replace HR':=Lib.hid HR'
    replace hx1:=Lib.hid hx1
    replace hx2:=Lib.hid hx2
    replace hbs:=Lib.hid hbs
    replace hes:=Lib.hid hes
    replace hbz:=Lib.hid hbz
    replace hez:=Lib.hid hez
    replace s5:=Lib.hid s5
    replace s6:=Lib.hid s6
    clear hZ hpos hAt g6 g7 g8 g9 HR hDs eL s1 s2
    go_wp2_with fail
    have hlt8:=block_lt_of_cell p8
    have i1:IntKind.i64.wrap ((m:Int)+1)=(m:Int)+1:=IntWalk.i64_in _ (by omega)
    have i2:IntKind.i64.wrap ((m:Int)+1+x1)=(m:Int)+1+x1:=IntWalk.i64_in _ (by omega)
    have i3:IntKind.i64.wrap ((m:Int)+1+x1+x2)=(m:Int)+1+x1+x2:=IntWalk.i64_in _ (by omega)
    have i4:IntKind.i64.wrap (D - 1)=D - 1:=IntWalk.i64_in _ (by omega)
    clear p0 p1 p2 p3 p4 p5 p6 p7
    refine wp_region_noPanic ?_
    refine wp_region_held_drew (S:=(fun w'=>w'.cell? ⟨bl,o+j * 10+8,none⟩=some (.slice A8 body.len c8)∧w'.cell? ⟨bl,o+j * 10+9,none⟩=some (.slice A9 els.len c9))) (by kernel_rfl) (⟨p8,p9⟩) (fun hHeld=>?_)
    refine tk 0 ?_ rfl (fun w hSw=>?_) hHeld ?_
    rotate_left
    ·((try dsimp only at hSw);go_split_ands;go_simp;(try with_reducible rfl))
    try simp only[Act.put,zA,zB,zC,zD,zE,zF]
    refine tk 1 ?_ rfl (fun w hSw=>?_) hHeld ?_
    rotate_left
    ·((try dsimp only at hSw);go_split_ands;go_simp;(try with_reducible rfl))
    try simp only[Act.put,zA,zB,zC,zD,zE,zF]
    refine tk 2 ?_ rfl (fun w hSw=>?_) hHeld ?_
    rotate_left
    ·((try dsimp only at hSw);go_split_ands;go_simp;(try with_reducible rfl))
    try simp only[Act.put,zA,zB,zC,zD,zE,zF]
    refine tk 3 ?_ rfl (fun w hSw=>?_) hHeld ?_
    rotate_left
    ·((try dsimp only at hSw);go_split_ands;go_simp;(try with_reducible rfl))
    try simp only[Act.put,zA,zB,zC,zD,zE,zF]
    refine tk 4 ?_ rfl (fun w hSw=>?_) hHeld ?_
    rotate_left
    ·((try dsimp only at hSw);go_split_ands;go_simp;(try with_reducible rfl))
    try simp only[Act.put,zA,zB,zC,zD,zE,zF]
    refine tk 5 ?_ rfl (fun w hSw=>?_) hHeld ?_
    rotate_left
    ·((try dsimp only at hSw);go_split_ands;go_simp;(try with_reducible rfl))
    try simp only[Act.put,zA,zB,zC,zD,zE,zF]
    refine tk 6 ?_ rfl (fun w hSw=>?_) hHeld ?_
    rotate_left
    ·((try dsimp only at hSw);go_split_ands;go_simp;(try with_reducible rfl))
    try simp only[Act.put,zA,zB,zC,zD,zE,zF]
    refine tk 7 ?_ rfl (fun w hSw=>?_) hHeld ?_
    rotate_left
    ·((try dsimp only at hSw);go_split_ands;go_simp;(try with_reducible rfl))
    try simp only[Act.put,zA,zB,zC,zD,zE,zF]
    refine tk 8 ?_ rfl (fun w hSw=>?_) hHeld ?_
    rotate_left
    ·((try dsimp only at hSw);go_split_ands;go_simp;(try with_reducible rfl))
    try simp only[Act.put,zA,zB,zC,zD,zE,zF]
    refine tk 11 ?_ rfl (fun w hSw=>?_) hHeld ?_
    rotate_left
    ·((try dsimp only at hSw);go_split_ands;go_simp;(try with_reducible rfl))
    try simp only[Act.put,zA,zB,zC,zD,zE,zF]
    refine tk 12 ?_ rfl (fun w hSw=>?_) hHeld ?_
    rotate_left
    ·((try dsimp only at hSw);go_split_ands;go_simp;(try with_reducible rfl))
    try simp only[Act.put,zA,zB,zC,zD,zE,zF]
    refine tk 13 ?_ rfl (fun w hSw=>?_) hHeld ?_
    rotate_left
    ·((try dsimp only at hSw);go_split_ands;go_simp;(try with_reducible rfl))
    try simp only[Act.put,zA,zB,zC,zD,zE,zF]
    refine tk 14 ?_ rfl (fun w hSw=>?_) hHeld ?_
    rotate_left
    ·((try dsimp only at hSw);go_split_ands;go_simp;(try with_reducible rfl))
    try simp only[Act.put,zA,zB,zC,zD,zE,zF]
    refine tk 15 ?_ rfl (fun w hSw=>?_) hHeld ?_
    rotate_left
    ·((try dsimp only at hSw);go_split_ands;go_simp;(try with_reducible rfl))
    try simp only[Act.put,zA,zB,zC,zD,zE,zF]
    refine tk 16 ?_ rfl (fun w hSw=>?_) hHeld ?_
    rotate_left
    ·((try dsimp only at hSw);go_split_ands;go_simp;(try with_reducible rfl))
    try simp only[Act.put,zA,zB,zC,zD,zE,zF]
    refine tk 17 ?_ rfl (fun w hSw=>?_) hHeld ?_
    rotate_left
    ·((try dsimp only at hSw);go_split_ands;go_simp;(try with_reducible rfl))
    try simp only[Act.put,zA,zB,zC,zD,zE,zF]
    refine rdc 9 rfl fun K hK=>?_
    try simp only[zA,zB,zC]
    (go_simp;refine (IH.out body hbs.out A8 c8 d lo hi _ _ (by have:=hD.out;push_cast at this;omega) (gB.out.below bel) s3 s5.out hbz.out (by omega)).mono ?_;rintro e w8 ⟨rfl,hBx⟩;rw[←hx1.out];replace hB:=bgo hB.drew hBx;replace gE:=Lib.hid ((gE.out.below (Below.refl _ _).drew).below hBx);replace p8:=(hBx.cell (p:=⟨bl,o+j * 10+8,none⟩) hlt8).trans p8;replace p9:=(hBx.cell (p:=⟨bl,o+j * 10+9,none⟩) hlt8).trans p9;clear hBx hlt8;have hlt8:=block_lt_of_cell p8)
    refine hK.out _ _ (⟨p8,p9⟩) ?_
    clear hHeld hK K
    intro hHeld
    try simp only[Act.put,zA,zB,zC,zD,zE,zF]
    refine tk 10 ?_ rfl (fun w hSw=>?_) hHeld ?_
    rotate_left
    ·((try dsimp only at hSw);go_split_ands;go_simp;(try with_reducible rfl))
    try simp only[Act.put,zA,zB,zC,zD,zE,zF]
    refine rdc 18 rfl fun K hK=>?_
    try simp only[zA,zB,zC]
    (go_simp;refine (IH.out els hes.out A9 c9 d lo hi _ _ (by have:=hD.out;push_cast at this;omega) gE.out s4 s6.out hez.out (by omega)).mono ?_;rintro e w9 ⟨rfl,hBx⟩;rw[←hx2.out];replace hB:=bgo hB hBx;replace p8:=(hBx.cell (p:=⟨bl,o+j * 10+8,none⟩) hlt8).trans p8;replace p9:=(hBx.cell (p:=⟨bl,o+j * 10+9,none⟩) hlt8).trans p9;clear hBx hlt8)
    refine hK.out _ _ (⟨p8,p9⟩) ?_
    clear hHeld hK K
    intro hHeld
    try simp only[Act.put,zA,zB,zC,zD,zE,zF]
    refine tk 19 ?_ rfl (fun w hSw=>?_) hHeld ?_
    rotate_left
    ·((try dsimp only at hSw);go_split_ands;go_simp;(try with_reducible rfl))
    try simp only[Act.put,zA,zB,zC,zD,zE,zF]
    refine tk 20 ?_ rfl (fun w hSw=>?_) hHeld ?_
    rotate_left
    ·((try dsimp only at hSw);go_split_ands;go_simp;(try with_reducible rfl))
    try simp only[Act.put,zA,zB,zC,zD,zE,zF]
    refine wpAnyH_done (by kernel_rfl) ?_ _
    refine NoPanic.normal ?_
    clear p8 p9 i1 i2 i3 i4
    go_wp2_with fail
    go_round
    case rel=>exact ⟨j+1,m+x1+x2+1,by omega,by go_num,by push_cast;congr 1;omega,by omega,Lib.hid (by have:=HR'.out;omega),hB⟩
    case measure=>simp[intOf];omega
   ·go_wp2_with fail
    go_ret
    obtain rfl:j=n:=by omega
    have e1:L.drop j=.nil:=by rw[hn.out];exact Cms.drop_all L
    have h2:=HR.out
    rw[e1] at h2
    exact ⟨by rw[h2];rfl,hB⟩
set_option maxHeartbeats 1600000 in
theorem c_spec_ProgramV4 {lo hi:Nat} (L:Cms) (A:Option Addr) (c:Nat) (w:World) (hV:CmsV w lo hi A L) (hlen:L.len≤1049600) (hsm:L.small 1049600) (hz:L.sz≤4200000) :
  Calls Tryz.prog 9 #[.slice A L.len c] w fun e w'=>e=.returned (.bool L.prog)∧Below w.heap.size w w':=by
 obtain ⟨R,hR⟩:∃ R,R=L.prog:=⟨_,rfl⟩
 obtain ⟨x,hx⟩:∃ x,x=L.shape 4:=⟨_,rfl⟩
 rw[←hR]
 rw[Cms.prog,←hx] at hR
 have hc:x=true→L.count 4=L.sz:=fun h=>Cms.count_shape (by rw[←hx];exact h)
 replace hc:=Lib.hid hc
 replace hR:=Lib.hid hR
 replace hx:=Lib.hid hx
 replace hV:=Lib.hid hV
 replace hsm:=Lib.hid hsm
 go_enter Tryz.func9,Tryz.ntmps9
 go_wp2_with fail
 refine (l8Shape_go _ L (Nat.lt_succ_self _) A c 4 lo hi w hV.out hlen hsm.out (by omega)).mono ?_
 rintro e w1 ⟨rfl,hB1⟩
 rw[←hx.out]
 cases x
 ·go_wp2_with fail
  go_ret
  exact ⟨ret_bool (by rw[hR.out];rfl),hB1⟩
 go_wp2_with fail
 refine (l8Count_go _ L (Nat.lt_succ_self _) A c 4 lo hi 4 w1 rfl (hV.out.below hB1) hlen hsm.out hz (by omega)).mono ?_
 rintro e w2 ⟨rfl,hB2⟩
 rw[hc.out (by simp)]
 have hB:=bgo hB1 hB2
 go_wp2_with fail
 go_ret
 exact ⟨ret_bool (by rw[hR.out,Bool.true_and];simp;omega),hB⟩
theorem c_spec_ProgramValid {lo hi:Nat} (L:Cms) (A:Option Addr) (c:Nat) (w:World) (hV:CmsV w lo hi A L) (hlen:L.len≤1049600) (hsm:L.small 1049600) (hz:L.sz≤1049600) :
  Calls Tryz.prog 9 #[.slice A L.len c] w fun e w'=>e=.returned (.bool L.prog)∧Below w.heap.size w w':=
 c_spec_ProgramV4 L A c w hV hlen hsm (by omega)
end Go.Proofs.YtjbboklnegfohaaGreatDoor

/- What the reader draws: programs. -/
namespace Go.Proofs.YtjbboklnegfohaaGreatDoor
open Go Go.RowKit Go.Proofs
theorem CmsN.part {w:World} {base n c:Nat} {A:Option Addr} {L:Cms} (h:CmsN w base (.slice A n c) L):PartX w (fun b=>base≤b) A L:=fun hl=>by
 obtain ⟨cs,⟨hlen,h2⟩,h3,h4⟩:=h
 rcases h2 with ⟨e,hn⟩|⟨g,cap,cur,e,hb,hg,hn,hm,hs,ht⟩
 ·omega
 ·injection e with e1 e2 e3
  subst e1
  refine ⟨g,0,rfl,hb,(CmsT.x h3 fun j u hu=>?_).mono fun b hx _=>hx.1⟩
  rw[Nat.zero_add,cell_of_row w g j cur tC (0,0) hg]
  rw[←ht,List.getElem?_take] at hu
  split at hu
  ·simpa using hu
  ·cases hu
theorem PartX.fr {w w':World} {base g:Nat} {A:Option Addr} {L:Cms} (h:PartX w (fun b=>base≤b) A L) (hf:Fr g w w') (hg:g<base):PartX w' (fun b=>base≤b) A L:=h.keep fun b hb hl=>hf.block b hl (by omega)
theorem RwX.fr {w w':World} {base g size n:Nat} {A:Option Addr} {xs:List Value} (h:RwX w (fun b=>base≤b) size A n xs) (hf:Fr g w w') (hg:g<base):RwX w' (fun b=>base≤b) size A n xs:=h.keep fun b hb hl=>hf.block b hl (by omega)
theorem RwX.none (w:World) (X:Nat→Prop) (size:Nat) (A:Option Addr):RwX w X size A 0 []:=⟨by simp,fun h=>by omega⟩
section
variable {ops:Array Oper} {rest:List Oper} {o:Oper} {a:Act} {Q:Exit→Act→World→Prop} {w:World} {base:Nat} {v:Value}
theorem appCX (hgd:o.guard=none) (s x:Operand) (ho:o.op=.call { callee:=.builtin .append,args:=#[s,x],argTypes:=#[23,23] })
  {n:Nat} {cs:List Value} (hs:a.eval s=v) (hown:w.ownsRow base tC 10 v n cs) {g0 c:Nat} {arr:Array Value} (ten:List Value) (hx:a.eval x=.slice (some ⟨g0,0,none⟩) 1 c) (hk:Blk w g0 tC arr) (hcs:arr=ten.toArray) (ht:ten.length=10) (h1:∀ u∈ten,u.oneCell'=true) (hn:n+1≤1049600) (hb:base≤w.heap.size)
  (h:∀ A' c' w',w'.ownsRow base tC 10 (.slice A' (n+1) c') (n+1) (cs++ten)→w.grownBy w' v.ownBlock→Below base w w'→((Value.slice A' (n+1) c').ownBlock=v.ownBlock∨(Value.slice A' (n+1) c').ownBlock=some w.heap.size)→wpList Tryz.prog ops Q rest (a.put o.dst (.slice A' (n+1) c')) w'):wpList Tryz.prog ops Q (o :: rest) a w:=by
 have hadd:∀ j,(⟨g0,0,none⟩:Addr).add j=⟨g0,j,none⟩:=fun j=>by unfold Addr.add;split<;>simp_all
 unfold wpList
 rw[if_pos (show Region.wanted o (yielded ops a.tmps)=true by simp[Region.wanted,hgd])]
 refine Or.inl (wp_appX (news:=ten) s x 23 ho Tryz.underlying23 infoC rfl (by decide) (by decide) hs hown hx (by rw[ht]) (fun j u hu=>?_) h1 hn hb ?_)
 ·rw[hadd,hk.cell,hcs]
  simpa using hu
 ·intro v' w' q1 q2 q3 q4
  obtain ⟨q1a,q1b⟩:=q1
  rcases q1b with ⟨rfl,e⟩|⟨k,cap,cur,rfl,r⟩
  ·omega
  ·exact h _ _ w' ⟨q1a,Or.inr ⟨k,cap,cur,rfl,r⟩⟩ q2 q3 q4
end
theorem tenOne (k a b:Int) (t:Fct) (AF AA AB AE:Option Addr) (nF nA nB nE cF cA cB cE:Nat):∀ u∈tenL k a b t (.slice AF nF cF) (.slice AA nA cA) (.slice AB nB cB) (.slice AE nE cE),u.oneCell'=true:=by
 intro u hu
 simp only[tenL,List.mem_cons,List.not_mem_nil,or_false] at hu
 rcases hu with rfl|rfl|rfl|rfl|rfl|rfl|rfl|rfl|rfl|rfl<;>rfl
theorem ten0 {w:World} {g:Nat} {t:TypeId} {x0 x1 x2 x3 x4 x5 x6 x7 x8 x9 v0 v1 v2 v3 v4 v5 v6 v7 v8 v9:Value} (h:Blk w g t #[x0,x1,x2,x3,x4,x5,x6,x7,x8,x9]):Blk (((((((((((w).setCell ⟨g,0,none⟩ v0).setCell ⟨g,1,none⟩ v1).setCell ⟨g,2,none⟩ v2).setCell ⟨g,3,none⟩ v3).setCell ⟨g,4,none⟩ v4).setCell ⟨g,5,none⟩ v5).setCell ⟨g,6,none⟩ v6).setCell ⟨g,7,none⟩ v7).setCell ⟨g,8,none⟩ v8).setCell ⟨g,9,none⟩ v9) g t #[v0,v1,v2,v3,v4,v5,v6,v7,v8,v9]:=by
 have h2:=((((((((((h.set_ 0 v0).set_ 1 v1).set_ 2 v2).set_ 3 v3).set_ 4 v4).set_ 5 v5).set_ 6 v6).set_ 7 v7).set_ 8 v8).set_ 9 v9)
 simp only[List.setIfInBounds_toArray,List.set_cons_zero,List.set_cons_succ] at h2
 exact h2
theorem retW {P:Program} {F:Func} {Q:Ending→World→Prop} {a:Act} {T:World} {D:World→Prop} (hd:D T) (h:∀ T,D T→bodyPost P F Q Exit.ret a T):bodyPost P F Q Exit.ret a T:=h T hd
def simC (k a b:Int):Array Value:=#[.int .i64 k,.int .i64 a,.int .i64 b,.bool false,.int .i64 0,.int .i64 0,.slice none 0 0,.slice none 0 0,.slice none 0 0,.slice none 0 0]
set_option maxRecDepth 100000 in
set_option maxHeartbeats 3200000 in
theorem c_l8Simple (g p:Nat) (w:World) (h:Rdr w g p) (hp:p≤999990) :
  Calls Tryz.prog 73 #[.pointer (some ⟨g,0,none⟩)] w fun e w'=>∃ k a b,e=.returned (.agg (simC k a b))∧Rdr w' g (p+3)∧Fr g w w':=by
 have H:=Lib.hid h
 have hlt:=h.lt
 clear h
 have hgn:g≠w.heap.size:=by omega
 go_enter Tryz.func73,Tryz.ntmps73
 have k0:Blk (w.alloc (.cells (simC 0 0 0) tC)) w.heap.size tC (simC 0 0 0):=Blk.new _ _ _
 go_wp2_with fail
 refine (c_pick g p 5 _ (H.out.below bel) (by omega)).mono ?_
 rintro e w1 ⟨m,rfl,hm,hR1,hF1⟩
 have k1:=k0.fr hF1 (Ne.symm hgn)
 have F1:Fr g w w1:=((Fr.refl g w).alloc _).trans hF1
 have hm5:(m:Int)<5:=by omega
 replace hR1:=Lib.hid hR1
 replace F1:=Lib.hid F1
 clear k0 hF1 hm
 go_wp2_with fail
 refine (c_numL g (p+1) [1,2,3,1,4] _ _ _ _ (hR1.out.below bel) (by omega) (Blk.new _ _ _) (by rfl) (by have:=hR1.out.lt;omega) (by rfl) (by simp) (by simp)).mono ?_
 rintro e w2 ⟨a,-,rfl,hR2,hF2⟩
 have k2:=(k1.alloc _).fr hF2 (Ne.symm hgn)
 have F2:=Lib.hid ((F1.out.alloc _).trans hF2)
 replace hR2:=Lib.hid hR2
 clear k1 hF2 hR1 F1
 go_wp2_with fail
 refine (c_numL g (p+1+1) [2,0,1,3,5] _ _ _ _ (hR2.out.below bel) (by omega) (Blk.new _ _ _) (by rfl) (by have:=hR2.out.lt;omega) (by rfl) (by simp) (by simp)).mono ?_
 rintro e w3 ⟨b,-,rfl,hR3,hF3⟩
 have k3:=(k2.alloc _).fr hF3 (Ne.symm hgn)
 have F3:=Lib.hid ((F2.out.alloc _).trans hF3)
 replace hR3:=Lib.hid hR3
 clear k2 hF3 hR2 F2
 have lt3:=k3.lt
 have c0:w3.cell? ⟨w.heap.size,0,none⟩=some (.int .i64 0):=k3.cell 0
 have c1:w3.cell? ⟨w.heap.size,1,none⟩=some (.int .i64 0):=k3.cell 1
 have c2:w3.cell? ⟨w.heap.size,2,none⟩=some (.int .i64 0):=k3.cell 2
 have c3:w3.cell? ⟨w.heap.size,3,none⟩=some (.bool false):=k3.cell 3
 have c4:w3.cell? ⟨w.heap.size,4,none⟩=some (.int .i64 0):=k3.cell 4
 have c5:w3.cell? ⟨w.heap.size,5,none⟩=some (.int .i64 0):=k3.cell 5
 have c6:w3.cell? ⟨w.heap.size,6,none⟩=some (.slice none 0 0):=k3.cell 6
 have c7:w3.cell? ⟨w.heap.size,7,none⟩=some (.slice none 0 0):=k3.cell 7
 have c8:w3.cell? ⟨w.heap.size,8,none⟩=some (.slice none 0 0):=k3.cell 8
 have c9:w3.cell? ⟨w.heap.size,9,none⟩=some (.slice none 0 0):=k3.cell 9
 have f3:=k3.frozen
 have hgw:g<w3.heap.size:=by omega
 unfold simC at k3
 by_cases q4:1+(m:Int)=4
 ·go_wp2_with fail
  refine retW (D:=fun T=>Blk T w.heap.size tC #[.int .i64 4,.int .i64 a,.int .i64 0,.bool false,.int .i64 0,.int .i64 0,.slice none 0 0,.slice none 0 0,.slice none 0 0,.slice none 0 0]∧Rdr T g (p+3)∧Fr g w T) ⟨(ten0 k3).alloc _,?_,?_⟩ ?_
  ·refine Rdr.below ?_ (bbox (Below.refl _ _) _)
   iterate 10 (refine Rdr.set_ ?_ (by simp only;omega) _)
   exact hR3.out
  ·refine Fr.alloc ?_ _
   iterate 10 (refine Fr.set_ ?_ (Or.inr (Nat.le_refl _)) _)
   exact F3.out
  ·rintro T ⟨kT,r1,r2⟩
   have t:=kT.cell
   exact bodyPost_ret (v:=.agg (simC 4 a 0)) (by simp[results,Tryz.results73,go_sem,simC,t]) rfl ⟨_,_,_,rfl,r1,r2⟩
 ·have q4':=beq_false_of_ne q4
  by_cases q5:1+(m:Int)=5
  ·go_wp2_with fail
   refine retW (D:=fun T=>Blk T w.heap.size tC #[.int .i64 5,.int .i64 a,.int .i64 0,.bool false,.int .i64 0,.int .i64 0,.slice none 0 0,.slice none 0 0,.slice none 0 0,.slice none 0 0]∧Rdr T g (p+3)∧Fr g w T) ⟨(ten0 k3).alloc _,?_,?_⟩ ?_
   ·refine Rdr.below ?_ (bbox (Below.refl _ _) _)
    iterate 10 (refine Rdr.set_ ?_ (by simp only;omega) _)
    exact hR3.out
   ·refine Fr.alloc ?_ _
    iterate 10 (refine Fr.set_ ?_ (Or.inr (Nat.le_refl _)) _)
    exact F3.out
   ·rintro T ⟨kT,r1,r2⟩
    have t:=kT.cell
    exact bodyPost_ret (v:=.agg (simC 5 a 0)) (by simp[results,Tryz.results73,go_sem,simC,t]) rfl ⟨_,_,_,rfl,r1,r2⟩
  ·have q5':=beq_false_of_ne q5
   go_wp2_with fail
   refine retW (D:=fun T=>Blk T w.heap.size tC #[.int .i64 (1+(m:Int)),.int .i64 a,.int .i64 b,.bool false,.int .i64 0,.int .i64 0,.slice none 0 0,.slice none 0 0,.slice none 0 0,.slice none 0 0]∧Rdr T g (p+3)∧Fr g w T) ⟨(ten0 k3).alloc _,?_,?_⟩ ?_
   ·refine Rdr.below ?_ (bbox (Below.refl _ _) _)
    iterate 10 (refine Rdr.set_ ?_ (by simp only;omega) _)
    exact hR3.out
   ·refine Fr.alloc ?_ _
    iterate 10 (refine Fr.set_ ?_ (Or.inr (Nat.le_refl _)) _)
    exact F3.out
   ·rintro T ⟨kT,r1,r2⟩
    have t:=kT.cell
    exact bodyPost_ret (v:=.agg (simC (1+(m:Int)) a b)) (by simp[results,Tryz.results73,go_sem,simC,t]) rfl ⟨_,_,_,rfl,r1,r2⟩
set_option maxRecDepth 100000 in
set_option maxHeartbeats 1600000 in
theorem c_l8Test (g p:Nat) (w:World) (h:Rdr w g p) (hp:p≤999990) :
  Calls Tryz.prog 74 #[.pointer (some ⟨g,0,none⟩)] w fun e w'=>∃ f:Fct,e=.returned f.val∧Rdr w' g (p+3)∧Fr g w w':=by
 have H:=Lib.hid h
 have hlt:=h.lt
 clear h
 go_enter Tryz.func74,Tryz.ntmps74
 have k0:Blk (w.alloc (.cells #[.bool false,.int .i64 0,.int .i64 0] tF)) w.heap.size tF #[.bool false,.int .i64 0,.int .i64 0]:=Blk.new _ _ _
 go_wp2_with fail
 refine (c_pick g p 3 _ (H.out.below bel) (by omega)).mono ?_
 rintro e w1 ⟨m,rfl,-,hR,hF⟩
 replace k0:=k0.fr hF (by omega)
 have HF1:=Lib.hid (((Fr.refl g w).alloc (.cells #[.bool false,.int .i64 0,.int .i64 0] tF)).trans hF)
 have HR1:=Lib.hid hR
 clear hR hF
 go_wp2_with fail
 refine (c_numL g (p+1) [1,2,3] _ _ _ _ (HR1.out.below bel) (by omega) (Blk.new _ _ _) (by rfl) (by have:=HR1.out.lt;omega) (by rfl) (by simp) (by simp)).mono ?_
 rintro e w2 ⟨a,-,rfl,hR,hF⟩
 replace k0:=(k0.alloc _).fr hF (by omega)
 have HF2:=Lib.hid ((HF1.out.alloc _).trans hF)
 have HR2:=Lib.hid hR
 clear hR hF
 go_wp2_with fail
 refine (c_numL g (p+1+1) [0,2,0,5] _ _ _ _ (HR2.out.below bel) (by omega) (Blk.new _ _ _) (by rfl) (by have:=HR2.out.lt;omega) (by rfl) (by simp) (by simp)).mono ?_
 rintro e w3 ⟨b,-,rfl,hR,hF⟩
 replace k0:=(k0.alloc _).fr hF (by omega)
 have HF3:=Lib.hid ((HF2.out.alloc _).trans hF)
 have HR3:=Lib.hid hR
 clear hR hF
 (replace qk0:=k0.cell;replace rk0:=k0.frozen;replace lk0:=k0.lt)
 go_wp2_with fail
 refine bodyPost_ret (v:=(Fct.mk ((m:Int) == 0) a b).val) (by simp[results,Tryz.results74,go_sem,qk0]) rfl ⟨⟨(m:Int) == 0,a,b⟩,rfl,?_,?_⟩
 ·repeat (first|exact HR3.out|refine Rdr.set_ ?_ (by simp only;omega) _)
 ·repeat (first|exact HF3.out|refine Fr.set_ ?_ (Or.inr (Nat.le_refl _)) _)
end Go.Proofs.YtjbboklnegfohaaGreatDoor

/- A command in a block of its own. -/
namespace Go.Proofs.YtjbboklnegfohaaGreatDoor
open Go Go.RowKit Go.Proofs
theorem ten0_far {w:World} {g k:Nat} {v0 v1 v2 v3 v4 v5 v6 v7 v8 v9:Value} (h:k≠g):(((((((((((w).setCell ⟨g,0,none⟩ v0).setCell ⟨g,1,none⟩ v1).setCell ⟨g,2,none⟩ v2).setCell ⟨g,3,none⟩ v3).setCell ⟨g,4,none⟩ v4).setCell ⟨g,5,none⟩ v5).setCell ⟨g,6,none⟩ v6).setCell ⟨g,7,none⟩ v7).setCell ⟨g,8,none⟩ v8).setCell ⟨g,9,none⟩ v9).heap[k]? = w.heap[k]?:=by
 iterate 9 (refine (Below.heap_setCell _ _ _ k h).trans ?_)
 exact Below.heap_setCell _ _ _ k h
theorem Rdr.ten {w:World} {g p cb:Nat} {v0 v1 v2 v3 v4 v5 v6 v7 v8 v9:Value} (h:Rdr w g p) (hc:g<cb):Rdr (((((((((((w).setCell ⟨cb,0,none⟩ v0).setCell ⟨cb,1,none⟩ v1).setCell ⟨cb,2,none⟩ v2).setCell ⟨cb,3,none⟩ v3).setCell ⟨cb,4,none⟩ v4).setCell ⟨cb,5,none⟩ v5).setCell ⟨cb,6,none⟩ v6).setCell ⟨cb,7,none⟩ v7).setCell ⟨cb,8,none⟩ v8).setCell ⟨cb,9,none⟩ v9) g p:=by
 iterate 10 (refine Rdr.set_ ?_ (by simp only;omega) _)
 exact h
theorem Fr.ten {a w:World} {g cb:Nat} {v0 v1 v2 v3 v4 v5 v6 v7 v8 v9:Value} (h:Fr g a w) (hc:a.heap.size≤cb):Fr g a (((((((((((w).setCell ⟨cb,0,none⟩ v0).setCell ⟨cb,1,none⟩ v1).setCell ⟨cb,2,none⟩ v2).setCell ⟨cb,3,none⟩ v3).setCell ⟨cb,4,none⟩ v4).setCell ⟨cb,5,none⟩ v5).setCell ⟨cb,6,none⟩ v6).setCell ⟨cb,7,none⟩ v7).setCell ⟨cb,8,none⟩ v8).setCell ⟨cb,9,none⟩ v9):=by
 iterate 10 (refine Fr.set_ ?_ (Or.inr hc) _)
 exact h
def CmdIn (w:World) (X:Nat→Prop) (cb n:Nat):Prop:=∃ (k a b:Int) (t:Fct) (i:Asn) (body els:Cms) (AF:Option Addr) (cF:Nat) (AA:Option Addr) (cA:Nat) (AB:Option Addr) (cB:Nat) (AE:Option Addr) (cE:Nat),Blk w cb tC #[.int .i64 k,.int .i64 a,.int .i64 b,.bool t.eq,.int .i64 t.a,.int .i64 t.b,.slice AF i.facts.length cF,.slice AA i.atoms.length cA,.slice AB body.len cB,.slice AE els.len cE]∧RwX w X 3 AF i.facts.length (encF i.facts)∧RwX w X 3 AA i.atoms.length (encA i.atoms)∧PartX w X AB body∧PartX w X AE els∧i.facts.length+i.atoms.length+(body.len+body.cost)+(els.len+els.cost)≤n
theorem CmdIn.ten {w:World} {X:Nat→Prop} {cb n:Nat} {x0 x1 x2 x3 x4 x5 x6 x7 x8 x9:Value} (h:Blk w cb tC #[x0,x1,x2,x3,x4,x5,x6,x7,x8,x9]) (hX:∀ b,X b→b≠cb) {k a b:Int} {t:Fct} {i:Asn} {body els:Cms} {AF AA AB AE:Option Addr} {cF cA cB cE:Nat}
  (h1:RwX w X 3 AF i.facts.length (encF i.facts)) (h2:RwX w X 3 AA i.atoms.length (encA i.atoms)) (h3:PartX w X AB body) (h4:PartX w X AE els) (hn:i.facts.length+i.atoms.length+(body.len+body.cost)+(els.len+els.cost)≤n) :
  CmdIn (((((((((((w).setCell ⟨cb,0,none⟩ (.int .i64 k)).setCell ⟨cb,1,none⟩ (.int .i64 a)).setCell ⟨cb,2,none⟩ (.int .i64 b)).setCell ⟨cb,3,none⟩ (.bool t.eq)).setCell ⟨cb,4,none⟩ (.int .i64 t.a)).setCell ⟨cb,5,none⟩ (.int .i64 t.b)).setCell ⟨cb,6,none⟩ (.slice AF i.facts.length cF)).setCell ⟨cb,7,none⟩ (.slice AA i.atoms.length cA)).setCell ⟨cb,8,none⟩ (.slice AB body.len cB)).setCell ⟨cb,9,none⟩ (.slice AE els.len cE)) X cb n:=
 ⟨k,a,b,t,i,body,els,AF,cF,AA,cA,AB,cB,AE,cE,ten0 h,h1.keep fun b hb _=>ten0_far (hX b hb),h2.keep fun b hb _=>ten0_far (hX b hb),h3.keep fun b hb _=>ten0_far (hX b hb),h4.keep fun b hb _=>ten0_far (hX b hb),hn⟩
theorem CmdIn.els_ {w:World} {X:Nat→Prop} {cb n:Nat} {v:Value} (hX:∀ b,X b→b≠cb) {k a b:Int} {t:Fct} {i:Asn} {body els:Cms} {AF AA AB AE:Option Addr} {cF cA cB cE:Nat}
  (h:Blk w cb tC #[.int .i64 k,.int .i64 a,.int .i64 b,.bool t.eq,.int .i64 t.a,.int .i64 t.b,.slice AF i.facts.length cF,.slice AA i.atoms.length cA,.slice AB body.len cB,v])
  (h1:RwX w X 3 AF i.facts.length (encF i.facts)) (h2:RwX w X 3 AA i.atoms.length (encA i.atoms)) (h3:PartX w X AB body) (h4:PartX w X AE els) (hn:i.facts.length+i.atoms.length+(body.len+body.cost)+(els.len+els.cost)≤n) :
  CmdIn (w.setCell ⟨cb,9,none⟩ (.slice AE els.len cE)) X cb n:=
 have hk:∀ b,X b→b<w.heap.size→(w.setCell ⟨cb,9,none⟩ (.slice AE els.len cE)).heap[b]? = w.heap[b]?:=fun b hb _=>Below.heap_setCell w ⟨cb,9,none⟩ (.slice AE els.len cE) b (hX b hb)
 ⟨k,a,b,t,i,body,els,AF,cF,AA,cA,AB,cB,AE,cE,(by have h0:=h.set_ 9 (.slice AE els.len cE);simpa only[List.setIfInBounds_toArray,List.set_cons_zero,List.set_cons_succ] using h0),h1.keep hk,h2.keep hk,h3.keep hk,h4.keep hk,hn⟩
theorem CmdIn.fr {g:Nat} {w w':World} {X:Nat→Prop} {cb n:Nat} (h:CmdIn w X cb n) (hf:Fr g w w') (hX:∀ b,X b→b≠g) (hc:cb≠g):CmdIn w' X cb n:=by
 obtain ⟨k,a,b,t,i,body,els,AF,cF,AA,cA,AB,cB,AE,cE,h0,h1,h2,h3,h4,hn⟩:=h
 have hk:∀ b,X b→b<w.heap.size→w'.heap[b]? = w.heap[b]?:=fun b hb hl=>hf.block b hl (hX b hb)
 exact ⟨k,a,b,t,i,body,els,AF,cF,AA,cA,AB,cB,AE,cE,h0.fr hf hc,h1.keep hk,h2.keep hk,h3.keep hk,h4.keep hk,hn⟩
theorem CmdIn.lt {w:World} {X:Nat→Prop} {cb n:Nat} (h:CmdIn w X cb n):cb<w.heap.size:=by
 obtain ⟨k,a,b,t,i,body,els,AF,cF,AA,cA,AB,cB,AE,cE,h0,-⟩:=h
 exact h0.lt
theorem CmdIn.more {w:World} {X:Nat→Prop} {cb n m:Nat} (h:CmdIn w X cb n) (hm:n≤m):CmdIn w X cb m:=by
 obtain ⟨k,a,b,t,i,body,els,AF,cF,AA,cA,AB,cB,AE,cE,h0,h1,h2,h3,h4,hn⟩:=h
 exact ⟨k,a,b,t,i,body,els,AF,cF,AA,cA,AB,cB,AE,cE,h0,h1,h2,h3,h4,by omega⟩
theorem CmdIn.simple {w:World} {X:Nat→Prop} {cb:Nat} {k a b:Int} (h:Blk w cb tC #[.int .i64 k,.int .i64 a,.int .i64 b,.bool false,.int .i64 0,.int .i64 0,.slice none 0 0,.slice none 0 0,.slice none 0 0,.slice none 0 0]):CmdIn w X cb 0:=
 ⟨k,a,b,⟨false,0,0⟩,⟨[],[]⟩,.nil,.nil,none,0,none,0,none,0,none,0,h,RwX.none ..,RwX.none ..,PartX.nil _,PartX.nil _,by simp[Cms.len,Cms.cost]⟩
theorem CmsN.own_lt {w:World} {base:Nat} {v:Value} {L:Cms} (h:CmsN w base v L):∀ b,v.ownBlock=some b→base≤b∧b<w.heap.size:=by
 obtain ⟨cs,⟨hl,h2⟩,h3,h4⟩:=h
 intro b hb
 rcases h2 with ⟨rfl,hn⟩|⟨g,cap,cur,rfl,hg0,hg,hn,hm,hs,ht⟩
 ·simp[Value.ownBlock] at hb
 ·simp[Value.ownBlock] at hb
  subst hb
  exact ⟨hg0,Blk.lt hg⟩
end Go.Proofs.YtjbboklnegfohaaGreatDoor

/- Copies of programs: an own row; of each command the parts lie in intervals of their own, and its body lies in an own row. -/
namespace Go.Proofs.YtjbboklnegfohaaGreatDoor
open Go Go.RowKit Go.Proofs
def CpN (w:World) (lo hi:Nat) (v:Value) (L:Cms):Prop:=∃ cs,w.ownsRow lo tC 10 v L.len cs∧CmsT w (fun b=>(lo≤b∧b<hi)∧v.ownBlock≠some b) L cs∧L.len≤1049600∧(∀ g,v.ownBlock=some g→g<hi)
def CpAt (w:World) (vo:Option Nat):Cms→List Value→Nat→Nat→Prop
 | .nil,cs,lo,hi=>cs=[]∧lo≤hi
 | .cons k a b t i body els r,cs,lo,hi=>∃ AF cF AA cA AB cB AE cE rest m0 m1 m2 m3,cs=tenL k a b t (.slice AF i.facts.length cF) (.slice AA i.atoms.length cA) (.slice AB body.len cB) (.slice AE els.len cE)++rest∧
   (lo≤m0∧m0≤m1∧m1≤m2∧m2≤m3∧∀ g,vo=some g→¬(m0≤g∧g<m3))∧RwX w (fun b=>m0≤b∧b<m1) 3 AF i.facts.length (encF i.facts)∧RwX w (fun b=>m0≤b∧b<m1) 3 AA i.atoms.length (encA i.atoms)∧
   CpN w m1 m2 (.slice AB body.len cB) body∧PartX w (fun b=>m2≤b∧b<m3) AE els∧CpAt w vo r rest m3 hi
def CpO (w:World) (base:Nat) (v:Value) (L:Cms):Prop:=∃ cs,w.ownsRow base tC 10 v L.len cs∧CpAt w v.ownBlock L cs base w.heap.size∧L.len≤1049600
section
variable {w w':World} {lo hi base:Nat} {v:Value} {L:Cms} {vo vo':Option Nat}
theorem own_keep {base size n:Nat} {t:TypeId} {v:Value} {cs:List Value} (h:w.ownsRow base t size v n cs) (hk:∀ g,v.ownBlock=some g→g<w.heap.size→w'.heap[g]? = w.heap[g]?):w'.ownsRow base t size v n cs:=by
 obtain ⟨hl,h2⟩:=h
 refine ⟨hl,?_⟩
 rcases h2 with ⟨rfl,hn⟩|⟨g,cap,cur,rfl,hb,hg,hn,hm,hs,ht⟩
 ·exact Or.inl ⟨rfl,hn⟩
 ·have e:=hk g (by simp[Value.ownBlock]) (Blk.lt hg)
  exact Or.inr ⟨g,cap,cur,rfl,hb,e.trans hg,hn,hm,hs,ht⟩
theorem CmsN.cp (h:CmsN w base v L):CpN w base w.heap.size v L:=by
 have hl:=h.own_lt
 obtain ⟨cs,h1,h2,h3⟩:=h
 exact ⟨cs,h1,h2.mono fun b hx hl=>⟨⟨hx.1,hl⟩,hx.2⟩,h3,fun g hg=>(hl g hg).2⟩
theorem CpN.keep (h:CpN w lo hi v L) (hk:∀ b,lo≤b→b<hi→b<w.heap.size→w'.heap[b]? = w.heap[b]?):CpN w' lo hi v L:=by
 obtain ⟨cs,h1,h2,h3,h4⟩:=h
 have hge:∀ g,v.ownBlock=some g→lo≤g:=by
  obtain ⟨_,h0⟩:=h1
  intro g hg
  rcases h0 with ⟨rfl,hn⟩|⟨g',cap,cur,rfl,hb,_⟩
  ·simp[Value.ownBlock] at hg
  ·simp[Value.ownBlock] at hg;omega
 exact ⟨cs,own_keep h1 fun g hg hl=>hk g (hge g hg) (h4 g hg) hl,h2.keep fun b hb hl=>hk b hb.1.1 hb.1.2 hl,h3,h4⟩
theorem CpN.n (h:CpN w lo hi v L):CmsN w lo v L:=by
 obtain ⟨cs,h1,h2,h3,h4⟩:=h
 exact ⟨cs,h1,h2.mono fun b hx _=>⟨hx.1.1,hx.2⟩,h3⟩
theorem CpN.part {A:Option Addr} {n c:Nat} (h:CpN w lo hi (.slice A n c) L):PartX w (fun b=>lo≤b∧b<hi) A L:=fun hl=>by
 obtain ⟨cs,⟨hlen,h2⟩,h3,h4,h5⟩:=h
 rcases h2 with ⟨e,hn⟩|⟨g,cap,cur,e,hb,hg,hn,hm,hs,ht⟩
 ·omega
 ·injection e with e1 e2 e3
  subst e1
  refine ⟨g,0,rfl,⟨hb,h5 g (by simp[Value.ownBlock])⟩,(CmsT.x h3 fun j u hu=>?_).mono fun b hx _=>hx.1⟩
  rw[Nat.zero_add,cell_of_row w g j cur tC (0,0) hg]
  rw[←ht,List.getElem?_take] at hu
  split at hu
  ·simpa using hu
  ·cases hu
theorem CpAt.le:∀ {L:Cms} {cs:List Value} {lo hi:Nat},CpAt w vo L cs lo hi→lo≤hi
 | .nil,_,_,_,h=>h.2
 | .cons k a b t i body els r,_,_,_,h=>by
  obtain ⟨AF,cF,AA,cA,AB,cB,AE,cE,rest,m0,m1,m2,m3,-,⟨h0,h1,h2,h3,-⟩,-,-,-,-,h⟩:=h
  have:=CpAt.le h
  omega
theorem CpAt.hi_ {hi':Nat}:∀ {L:Cms} {cs:List Value} {lo hi:Nat},CpAt w vo L cs lo hi→hi≤hi'→CpAt w vo L cs lo hi'
 | .nil,_,_,_,h,e=>⟨h.1,Nat.le_trans h.2 e⟩
 | .cons k a b t i body els r,_,_,_,h,e=>by
  obtain ⟨AF,cF,AA,cA,AB,cB,AE,cE,rest,m0,m1,m2,m3,p1,p2,p3,p4,p5,p6,h⟩:=h
  exact ⟨AF,cF,AA,cA,AB,cB,AE,cE,rest,m0,m1,m2,m3,p1,p2,p3,p4,p5,p6,CpAt.hi_ h e⟩
theorem CpAt.keep:∀ {L:Cms} {cs:List Value} {lo hi:Nat},CpAt w vo L cs lo hi→(∀ b,lo≤b→b<hi→vo≠some b→b<w.heap.size→w'.heap[b]? = w.heap[b]?)→CpAt w' vo L cs lo hi
 | .nil,_,_,_,h,_=>h
 | .cons k a b t i body els r,_,lo,hi,h,hk=>by
  obtain ⟨AF,cF,AA,cA,AB,cB,AE,cE,rest,m0,m1,m2,m3,p1,⟨q0,q1,q2,q3,q4⟩,p3,p4,p5,p6,h⟩:=h
  have hle:=CpAt.le h
  have hk3:∀ b,m0≤b→b<m3→b<w.heap.size→w'.heap[b]? = w.heap[b]?:=fun b h1 h2 h3=>hk b (by omega) (by omega) (fun e=>q4 b e ⟨h1,h2⟩) h3
  exact ⟨AF,cF,AA,cA,AB,cB,AE,cE,rest,m0,m1,m2,m3,p1,⟨q0,q1,q2,q3,q4⟩,p3.keep fun b hb hl=>hk3 b hb.1 (by omega) hl,p4.keep fun b hb hl=>hk3 b hb.1 (by omega) hl,
   p5.keep fun b h1 h2 hl=>hk3 b (by omega) (by omega) hl,p6.keep fun b hb hl=>hk3 b (by omega) hb.2 hl,CpAt.keep h fun b h1 h2 h3 h4=>hk b (by omega) h2 h3 h4⟩
theorem CpAt.own:∀ {L:Cms} {cs:List Value} {lo hi:Nat},CpAt w vo L cs lo hi→(∀ g,vo'=some g→vo=some g∨hi≤g)→CpAt w vo' L cs lo hi
 | .nil,_,_,_,h,_=>h
 | .cons k a b t i body els r,_,lo,hi,h,hv=>by
  obtain ⟨AF,cF,AA,cA,AB,cB,AE,cE,rest,m0,m1,m2,m3,p1,⟨q0,q1,q2,q3,q4⟩,p3,p4,p5,p6,h⟩:=h
  have hle:=CpAt.le h
  exact ⟨AF,cF,AA,cA,AB,cB,AE,cE,rest,m0,m1,m2,m3,p1,⟨q0,q1,q2,q3,fun g hg hx=>(hv g hg).elim (fun e=>q4 g e hx) (fun e=>by omega)⟩,p3,p4,p5,p6,CpAt.own h hv⟩
theorem CpAt.T:∀ {L:Cms} {cs:List Value} {lo hi:Nat},CpAt w vo L cs lo hi→CmsT w (fun b=>lo≤b∧vo≠some b) L cs
 | .nil,_,_,_,h=>h.1
 | .cons k a b t i body els r,_,lo,hi,h=>by
  obtain ⟨AF,cF,AA,cA,AB,cB,AE,cE,rest,m0,m1,m2,m3,p1,⟨q0,q1,q2,q3,q4⟩,p3,p4,p5,p6,h⟩:=h
  have hx:∀ b,m0≤b→b<m3→lo≤b∧vo≠some b:=fun b h1 h2=>⟨by omega,fun e=>q4 b e ⟨h1,h2⟩⟩
  exact ⟨AF,cF,AA,cA,AB,cB,AE,cE,rest,p1,p3.mono fun b hb _=>hx b hb.1 (by omega),p4.mono fun b hb _=>hx b hb.1 (by omega),p5.part.mono fun b hb _=>hx b (by omega) (by omega),p6.mono fun b hb _=>hx b (by omega) hb.2,
   (CpAt.T h).mono fun b hb _=>⟨by omega,hb.2⟩⟩
theorem CpAt.lo_ {lo':Nat}:∀ {L:Cms} {cs:List Value} {lo hi:Nat},CpAt w vo L cs lo hi→lo'≤lo→CpAt w vo L cs lo' hi
 | .nil,_,_,_,h,e=>⟨h.1,Nat.le_trans e h.2⟩
 | .cons k a b t i body els r,_,_,_,h,e=>by
  obtain ⟨AF,cF,AA,cA,AB,cB,AE,cE,rest,m0,m1,m2,m3,p1,⟨q0,q⟩,h⟩:=h
  exact ⟨AF,cF,AA,cA,AB,cB,AE,cE,rest,m0,m1,m2,m3,p1,⟨by omega,q⟩,h⟩
theorem CpAt.app {M:Cms} {ds:List Value} {m:Nat}:∀ {L:Cms} {cs:List Value} {lo:Nat},CpAt w vo L cs lo m→CpAt w vo M ds m hi→CpAt w vo (L.app M) (cs++ds) lo hi
 | .nil,cs,lo,h,h'=>by
  obtain ⟨rfl,h⟩:=h
  exact h'.lo_ h
 | .cons k a b t i body els r,_,lo,h,h'=>by
  obtain ⟨AF,cF,AA,cA,AB,cB,AE,cE,rest,m0,m1,m2,m3,rfl,p2,p3,p4,p5,p6,h⟩:=h
  exact ⟨AF,cF,AA,cA,AB,cB,AE,cE,rest++ds,m0,m1,m2,m3,List.append_assoc ..,p2,p3,p4,p5,p6,CpAt.app h h'⟩
theorem CpO.n (h:CpO w base v L):CmsN w base v L:=by
 obtain ⟨cs,h1,h2,h3⟩:=h
 exact ⟨cs,h1,h2.T,h3⟩
theorem CpO.below (h:CpO w base v L) (hb:Below w.heap.size w w'):CpO w' base v L:=by
 obtain ⟨cs,h1,h2,h3⟩:=h
 exact ⟨cs,own_below h1 hb,(h2.keep fun b _ _ _ hl=>hb.block b hl).hi_ hb.size,h3⟩
theorem CpO.empty (w:World) {base:Nat} (hb:base≤w.heap.size):CpO (w.alloc (.cells #[] tC)) base (.slice (some ⟨w.heap.size,0,none⟩) 0 0) .nil:=
 ⟨[],own_lower (own_empty w _ _) hb,⟨rfl,by simp;omega⟩,by simp[Cms.len]⟩
theorem CpO.grow {v':Value} {k a b:Int} {t:Fct} {i:Asn} {body els:Cms} {AF AA AB AE:Option Addr} {cF cA cB cE:Nat} {cs:List Value} {m m1 m2 m3:Nat}
  (hT:CpAt w v.ownBlock L cs base m) (hv0:∀ g,v.ownBlock=some g→g<m) (hl:L.len+1≤1049600) (e1:m≤m1) (e2:m1≤m2) (e3:m2≤m3) (e4:m3≤w.heap.size)
  (h1:RwX w (fun b=>m≤b∧b<m1) 3 AF i.facts.length (encF i.facts)) (h2:RwX w (fun b=>m≤b∧b<m1) 3 AA i.atoms.length (encA i.atoms))
  (h3:CpN w m1 m2 (.slice AB body.len cB) body) (h4:PartX w (fun b=>m2≤b∧b<m3) AE els)
  (ho:w'.ownsRow base tC 10 v' (L.len+1) (cs++tenL k a b t (.slice AF i.facts.length cF) (.slice AA i.atoms.length cA) (.slice AB body.len cB) (.slice AE els.len cE)))
  (hg:w.grownBy w' v.ownBlock) (hv:v'.ownBlock=v.ownBlock∨v'.ownBlock=some w.heap.size) (hz:w.heap.size≤w'.heap.size):CpO w' base v' (L.app (.cons k a b t i body els .nil)):=by
 have hlen:(L.app (.cons k a b t i body els .nil)).len=L.len+1:=by rw[Cms.len_app];rfl
 refine ⟨cs++tenL k a b t (.slice AF i.facts.length cF) (.slice AA i.atoms.length cA) (.slice AB body.len cB) (.slice AE els.len cE),by rw[hlen];exact ho,?_,by omega⟩
 have hM:CpAt w v.ownBlock (.cons k a b t i body els .nil) (tenL k a b t (.slice AF i.facts.length cF) (.slice AA i.atoms.length cA) (.slice AB body.len cB) (.slice AE els.len cE)) m w.heap.size:=
  ⟨AF,cF,AA,cA,AB,cB,AE,cE,[],m,m1,m2,m3,by rw[List.append_nil],⟨Nat.le_refl _,e1,e2,e3,fun g hg hx=>by have:=hv0 g hg;omega⟩,h1,h2,h3,h4,rfl,e4⟩
 have hA:=((hT.app hM).keep (w':=w') fun b _ _ hb hlt=>hg.block b hlt (fun e=>hb e.symm))
 exact (hA.own fun g hg=>by
  rcases hv with hv|hv
  ·exact Or.inl (hv▸hg)
  ·rw[hv] at hg;injection hg with hg;exact Or.inr (by omega)).hi_ hz
end
end Go.Proofs.YtjbboklnegfohaaGreatDoor

/- What the reader draws: l8Copy. -/
namespace Go.Proofs.YtjbboklnegfohaaGreatDoor
open Go Go.RowKit Go.Proofs
theorem Cms.take_snoc:∀ {L:Cms} {j:Nat} {k a b:Int} {t:Fct} {i:Asn} {body els r:Cms},L.drop j=.cons k a b t i body els r→L.take (j+1)=(L.take j).app (.cons k a b t i body els .nil)
 | .nil,0,_,_,_,_,_,_,_,_,h=>by cases h
 | .nil,_+1,_,_,_,_,_,_,_,_,h=>by cases h
 | .cons ..,0,_,_,_,_,_,_,_,_,h=>by
  simp only[Cms.drop] at h
  injection h with e1 e2 e3 e4 e5 e6 e7 e8
  subst e1 e2 e3 e4 e5 e6 e7 e8
  simp[Cms.take,Cms.app]
 | .cons k' a' b' t' i' body' els' r',j+1,_,_,_,_,_,_,_,_,h=>by
  simp only[Cms.drop] at h
  have:=Cms.take_snoc h
  simp only[Cms.take] at this ⊢
  rw[this]
  rfl
section
variable {w:World} {g:Nat} {t:TypeId} {x0 x1 x2 x3 x4 x5 x6 x7 x8 x9 u v:Value}
theorem ten67 (h:Blk w g t #[x0,x1,x2,x3,x4,x5,x6,x7,x8,x9]):Blk ((w.setCell ⟨g,6,none⟩ u).setCell ⟨g,7,none⟩ v) g t #[x0,x1,x2,x3,x4,x5,u,v,x8,x9]:=by
 have h2:=(h.set_ 6 u).set_ 7 v
 simp only[List.setIfInBounds_toArray,List.set_cons_zero,List.set_cons_succ] at h2
 exact h2
theorem ten8 (h:Blk w g t #[x0,x1,x2,x3,x4,x5,x6,x7,x8,x9]):Blk (w.setCell ⟨g,8,none⟩ u) g t #[x0,x1,x2,x3,x4,x5,x6,x7,u,x9]:=by
 have h2:=h.set_ 8 u
 simp only[List.setIfInBounds_toArray,List.set_cons_zero,List.set_cons_succ] at h2
 exact h2
theorem ten9 (h:Blk w g t #[x0,x1,x2,x3,x4,x5,x6,x7,x8,x9]):Blk (w.setCell ⟨g,9,none⟩ u) g t #[x0,x1,x2,x3,x4,x5,x6,x7,x8,u]:=by
 have h2:=h.set_ 9 u
 simp only[List.setIfInBounds_toArray,List.set_cons_zero,List.set_cons_succ] at h2
 exact h2
end
set_option maxRecDepth 100000 in
set_option maxHeartbeats 6400000 in
theorem l8Copy_go:∀ (N:Nat) (L:Cms),L.sz<N→∀ (A:Option Addr) (c:Nat) (w:World) (lo hi:Nat),CmsV w lo hi A L→L.len≤1049600→L.small 1049600→
  Calls Tryz.prog 47 #[.slice A L.len c] w fun e w'=>∃ A' c',e=.returned (.slice A' L.len c')∧CpO w' w.heap.size (.slice A' L.len c') L∧Below w.heap.size w w':=by
 intro N
 induction N with
 | zero=>intro L h;omega
 | succ N IH=>
  intro L hsz A c w lo hi hV hlen hsm
  replace IH:=Lib.hid IH
  replace hV:=Lib.hid hV
  replace hsm:=Lib.hid hsm
  replace hsz:=Lib.hid hsz
  obtain ⟨n,hn⟩:∃ n,n=L.len:=⟨_,rfl⟩
  rw[←hn] at hlen ⊢
  replace hn:=Lib.hid hn
  go_enter Tryz.func47,Tryz.ntmps47
  go_wp2_with fail
  go_loopw [3,4] (fun s3 s4 wr=>∃ (j:Nat) (A5:Option Addr) (c5:Nat),j≤n∧s4=.int .i64 j∧s3=.slice A5 j c5∧Hid (CpO wr w.heap.size (.slice A5 j c5) (L.take j))∧Hid (Below w.heap.size w wr)) (fun _ s4 _=>n - (intOf s4).toNat)
  case atStart=>exact ⟨0,_,_,Nat.zero_le _,rfl,rfl,by cases L<;>exact CpO.empty w (Nat.le_refl _),bbox (Below.refl _ _) _⟩
  case round=>
   obtain ⟨j,A5,c5,hj,rfl,rfl,HC,hB⟩:=hrel
   obtain ⟨wo,rfl⟩:∃ x,x=wr:=⟨_,rfl⟩
   have hsz0:=hB.out.size
   by_cases hlt:j<n
   ·have hpos:0<(L.drop j).len:=by rw[Cms.drop_len,←hn.out];omega
    obtain ⟨k,a,b,t,i,body,els,r,eL⟩:=Cms.cons_of_len hpos
    obtain ⟨bl,o,rfl,-,-,hAt⟩:=(hV.out.below hB.out) (by rw[←hn.out];omega)
    have hD:=hAt.drop j
    have hS:=Cms.small_drop j hsm.out
    have hZ:=Cms.sz_drop j L
    rw[eL] at hD hS hZ
    obtain ⟨⟨p0,p1,p2,p3,p4,p5⟩,⟨A6,c6,p6,g6⟩,⟨A7,c7,p7,g7⟩,⟨A8,c8,p8,g8⟩,⟨A9,c9,p9,g9⟩,-⟩:=hD
    obtain ⟨s1,s2,s3,s4,s5,s6,-⟩:=hS
    simp only[Cms.sz] at hZ
    have hbs:body.sz<N:=by have:=hsz.out;omega
    have hes:els.sz<N:=by have:=hsz.out;omega
    have ha:AsnV wo lo hi (.agg #[.slice A6 i.facts.length c6,.slice A7 i.atoms.length c7]) i:=⟨_,_,_,_,rfl,⟨g6,s1⟩,⟨g7,s2⟩⟩
    have hbl:bl<wo.heap.size:=block_lt_of_cell p0
    replace ha:=Lib.hid ha
    replace hbs:=Lib.hid hbs
    replace hes:=Lib.hid hes
    replace s3:=Lib.hid s3
    replace s4:=Lib.hid s4
    replace s5:=Lib.hid s5
    replace s6:=Lib.hid s6
    replace g8:=Lib.hid (show CmsV wo lo hi A8 body from g8)
    replace g9:=Lib.hid (show CmsV wo lo hi A9 els from g9)
    replace eL:=Lib.hid eL
    clear hZ hpos hAt g6 g7 s1 s2
    have k1:Blk (wo.alloc (.cells #[.int .i64 k,.int .i64 a,.int .i64 b,.bool t.eq,.int .i64 t.a,.int .i64 t.b,.slice A6 i.facts.length c6,.slice A7 i.atoms.length c7,.slice A8 body.len c8,.slice A9 els.len c9] tC)) wo.heap.size tC #[.int .i64 k,.int .i64 a,.int .i64 b,.bool t.eq,.int .i64 t.a,.int .i64 t.b,.slice A6 i.facts.length c6,.slice A7 i.atoms.length c7,.slice A8 body.len c8,.slice A9 els.len c9]:=Blk.new _ _ _
    go_wp2_with fail
    refine (c_l3Copy _ i _ (ha.out.below (bbox (Below.refl _ _) _))).mono ?_
    rintro e w2 ⟨rI,rfl,hI,hB2⟩
    obtain ⟨B1,d1,B2,d2,rfl,hI1,hI2⟩:=hI.reads
    have k2:=k1.next hB2
    have z2:=hB2.size
    simp only[World.size_alloc] at z2
    have W2:Hid (Below wo.heap.size wo w2):=bgo (bbox (Below.refl _ _) _) hB2
    have P1:=Lib.hid (hI1.1.x (X:=fun x=>wo.heap.size+1≤x∧x<w2.heap.size) fun x h1 h2=>⟨by simpa using h1,h2⟩)
    have P2:=Lib.hid (hI2.1.x (X:=fun x=>wo.heap.size+1≤x∧x<w2.heap.size) fun x h1 h2=>⟨by simpa using h1,h2⟩)
    have K2:=Lib.hid (ten67 (u:=.slice B1 i.facts.length d1) (v:=.slice B2 i.atoms.length d2) k2)
    clear hB2 hI hI1 hI2 k1 ha
    (replace qk2:=k2.cell;replace rk2:=k2.frozen;replace lk2:=k2.lt)
    clear k2 p0 p1 p2 p3 p4 p5 p6 p7 p8 p9
    go_wp2_with fail
    refine (IH.out body hbs.out A8 c8 _ lo hi (g8.out.below ((W2.out.setCell (by simp) _).setCell (by simp) _)) s3.out s5.out).mono ?_
    rintro e w3 ⟨AB,cB,rfl,hC3,hB3⟩
    have z3:=hB3.size
    simp only[World.size_setCell] at z3
    have W3:Hid (Below wo.heap.size wo w3):=bgo ((W2.out.setCell (by simp) _).setCell (by simp) _) hB3
    have k23:∀ x,wo.heap.size+1≤x→x<w2.heap.size→w3.heap[x]? = w2.heap[x]?:=fun x h1 h2=>(hB3.block x (by simpa using h2)).trans ((Below.heap_setCell _ _ _ x (by simp only;omega)).trans (Below.heap_setCell _ _ _ x (by simp only;omega)))
    have k3:=K2.out.next hB3
    have K3:=Lib.hid (ten8 (u:=.slice AB body.len cB) k3)
    have N3:=Lib.hid hC3.n.cp
    simp only[World.size_setCell] at N3
    replace P1:=Lib.hid (P1.out.keep fun x hx _=>k23 x hx.1 hx.2)
    replace P2:=Lib.hid (P2.out.keep fun x hx _=>k23 x hx.1 hx.2)
    clear hB3 hC3 K2 k23 qk2 rk2 lk2 W2 g8
    (replace qk3:=k3.cell;replace rk3:=k3.frozen;replace lk3:=k3.lt)
    clear k3
    go_wp2_with fail
    refine (IH.out els hes.out A9 c9 _ lo hi (g9.out.below (W3.out.setCell (by simp) _)) s4.out s6.out).mono ?_
    rintro e w4 ⟨AE,cE,rfl,hC4,hB4⟩
    have z4:=hB4.size
    simp only[World.size_setCell] at z4
    have W4:Hid (Below wo.heap.size wo w4):=bgo (W3.out.setCell (by simp) _) hB4
    have k34:∀ x,wo.heap.size+1≤x→x<w3.heap.size→w4.heap[x]? = w3.heap[x]?:=fun x h1 h2=>(hB4.block x (by simpa using h2)).trans (Below.heap_setCell _ _ _ x (by simp only;omega))
    have k4:=K3.out.next hB4
    have K4:=Lib.hid (ten9 (u:=.slice AE els.len cE) k4)
    have N4:=Lib.hid hC4.n.cp
    simp only[World.size_setCell] at N4
    replace P1:=Lib.hid (P1.out.keep fun x hx _=>k34 x hx.1 (by omega))
    replace P2:=Lib.hid (P2.out.keep fun x hx _=>k34 x hx.1 (by omega))
    replace N3:=Lib.hid (N3.out.keep fun x h1 h2 _=>k34 x (by omega) h2)
    clear hB4 hC4 K3 k34 qk3 rk3 lk3 W3 g9
    (replace qk4:=k4.cell;replace rk4:=k4.frozen;replace lk4:=k4.lt)
    clear k4
    have hlv:∀ g,(Value.slice A5 j c5).ownBlock=some g→g<wo.heap.size:=fun g hg=>(HC.out.n.own_lt g hg).2
    replace hlv:=Lib.hid hlv
    have htl:(L.take j).len=j:=Cms.take_len j L (by have:=hn.out;omega)
    obtain ⟨cs,ho0,hT0,-⟩:=HC.out
    rw[htl] at ho0
    have ho4:=Lib.hid (own_below ho0 W4.out)
    have hT4:=Lib.hid (hT0.keep (w':=w4) fun x _ h1 _ _=>W4.out.block x h1)
    clear ho0 hT0 HC
    replace htl:=Lib.hid htl
    have kW:∀ x,x≠wo.heap.size→x<w4.heap.size→((w4.setCell ⟨wo.heap.size,9,none⟩ (.slice AE els.len cE)).alloc (.cells (tenL k a b t (.slice B1 i.facts.length d1) (.slice B2 i.atoms.length d2) (.slice AB body.len cB) (.slice AE els.len cE)).toArray tC)).heap[x]? = w4.heap[x]?:=fun x h1 h2=>
     ((bbox (Below.refl _ _) _).block x (by simpa using h2)).trans (Below.heap_setCell _ _ _ x h1)
    have ho5:((w4.setCell ⟨wo.heap.size,9,none⟩ (.slice AE els.len cE)).alloc (.cells (tenL k a b t (.slice B1 i.facts.length d1) (.slice B2 i.atoms.length d2) (.slice AB body.len cB) (.slice AE els.len cE)).toArray tC)).ownsRow w.heap.size tC 10 (.slice A5 j c5) j cs:=own_keep ho4.out fun g hg hl=>kW g (by have:=hlv.out g hg;omega) hl
    replace kW:=Lib.hid kW
    replace ho5:=Lib.hid ho5
    go_wp2_with (at_builtin;go_loud (refine appCX (base:=w.heap.size) (g0:=w4.heap.size) rfl _ _ rfl rfl ho5.out (tenL k a b t (.slice B1 i.facts.length d1) (.slice B2 i.atoms.length d2) (.slice AB body.len cB) (.slice AE els.len cE)) rfl (Blk.newE (by simp)) rfl rfl (tenOne _ _ _ _ _ _ _ _ _ _ _ _ _ _ _ _) (by omega) (by simp;omega) ?_);(intro A9' c9' w9 o9 g9 B9 v9;have o9:=Lib.hid o9;have g9:=Lib.hid g9;have v9:=Lib.hid v9;have B9:=Lib.hid B9))
    have N9:CpO w9 w.heap.size (.slice A9' (j+1) c9') (L.take (j+1)):=by
     rw[Cms.take_snoc eL.out]
     have hk:∀ x,wo.heap.size+1≤x→x<w4.heap.size→_:=fun x h1 h2=>kW.out x (by omega) h2
     exact CpO.grow (m:=wo.heap.size+1) (m1:=w2.heap.size) (m2:=w3.heap.size) (m3:=w4.heap.size) ((hT4.out.keep fun x _ h1 _ h2=>kW.out x (by omega) h2).hi_ (by omega)) (fun g hg=>by have:=hlv.out g hg;omega) (by rw[htl.out];omega) z2 z3 z4 (by simp)
      (P1.out.keep fun x hx hl=>hk x hx.1 hl) (P2.out.keep fun x hx hl=>hk x hx.1 hl) (N3.out.keep fun x h1 _ hl=>hk x (by omega) hl) (N4.out.part.keep fun x hx hl=>hk x (by omega) hl) (by rw[htl.out];exact o9.out) g9.out v9.out B9.out.size
    have B10:Below w.heap.size w w9:=by
     have h1:Below w.heap.size w ((w4.setCell ⟨wo.heap.size,9,none⟩ (.slice AE els.len cE)).alloc (.cells (tenL k a b t (.slice B1 i.facts.length d1) (.slice B2 i.atoms.length d2) (.slice AB body.len cB) (.slice AE els.len cE)).toArray tC)):=bbox ((bgo hB.out W4.out).setCell (by simp only;omega) _) _
     exact ⟨B9.out.os.trans h1.os,B9.out.tape.trans h1.tape,B9.out.output.trans h1.output,Nat.le_trans h1.size B9.out.size,fun x hx=>(B9.out.block x hx).trans (h1.block x hx)⟩
    go_round
    case rel=>exact ⟨j+1,A9',c9',by omega,by go_num,rfl,N9,B10⟩
    case measure=>simp only[intOf];omega
   ·have hjn:j=n:=by omega
    subst hjn
    go_wp2_with fail
    go_ret
    have hN:=HC.out
    rw[hn.out,Cms.take_all] at hN
    exact ⟨A5,c5,rfl,by rw[hn.out];exact hN,hB.out⟩
end Go.Proofs.YtjbboklnegfohaaGreatDoor

/- Copies of programs: opened at one command. -/
namespace Go.Proofs.YtjbboklnegfohaaGreatDoor
open Go Go.RowKit Go.Proofs
section
variable {w w':World} {lo hi base:Nat} {v:Value} {L:Cms} {vo vo':Option Nat}
theorem CpAt.T2:∀ {L:Cms} {cs:List Value} {lo hi:Nat},CpAt w vo L cs lo hi→CmsT w (fun b=>(lo≤b∧b<hi)∧vo≠some b) L cs
 | .nil,_,_,_,h=>h.1
 | .cons k a b t i body els r,_,lo,hi,h=>by
  obtain ⟨AF,cF,AA,cA,AB,cB,AE,cE,rest,m0,m1,m2,m3,p1,⟨q0,q1,q2,q3,q4⟩,p3,p4,p5,p6,h⟩:=h
  have hle:=CpAt.le h
  have hx:∀ b,m0≤b→b<m3→(lo≤b∧b<hi)∧vo≠some b:=fun b h1 h2=>⟨by omega,fun e=>q4 b e ⟨h1,h2⟩⟩
  exact ⟨AF,cF,AA,cA,AB,cB,AE,cE,rest,p1,p3.mono fun b hb _=>hx b hb.1 (by omega),p4.mono fun b hb _=>hx b hb.1 (by omega),p5.part.mono fun b hb _=>hx b (by omega) (by omega),p6.mono fun b hb _=>hx b (by omega) hb.2,
   (CpAt.T2 h).mono fun b hb _=>⟨by omega,hb.2⟩⟩
theorem CpN.own_ge (h:CpN w lo hi v L):∀ g,v.ownBlock=some g→lo≤g∧g<hi:=by
 obtain ⟨cs,⟨_,h0⟩,h2,h3,h4⟩:=h
 intro g hg
 refine ⟨?_,h4 g hg⟩
 rcases h0 with ⟨rfl,hn⟩|⟨g',cap,cur,rfl,hb,_⟩
 ·simp[Value.ownBlock] at hg
 ·simp[Value.ownBlock] at hg;omega
theorem CpAt.split:∀ {L:Cms} {cs:List Value} {lo hi k:Nat},CpAt w vo L cs lo hi→k<L.len→∃ P kd a b t i body els R AF cF AA cA AB cB AE cE pre post,L=P.app (.cons kd a b t i body els R)∧P.len=k∧
   cs=pre++(tenL kd a b t (.slice AF i.facts.length cF) (.slice AA i.atoms.length cA) (.slice AB body.len cB) (.slice AE els.len cE)++post)∧
   (∀ g,(Value.slice AB body.len cB).ownBlock=some g→lo≤g∧vo≠some g)∧
   CmsT w (fun x=>lo≤x∧vo≠some x∧(Value.slice AB body.len cB).ownBlock≠some x) P pre∧CmsT w (fun x=>lo≤x∧vo≠some x∧(Value.slice AB body.len cB).ownBlock≠some x) R post∧
   RwX w (fun x=>lo≤x∧vo≠some x∧(Value.slice AB body.len cB).ownBlock≠some x) 3 AF i.facts.length (encF i.facts)∧RwX w (fun x=>lo≤x∧vo≠some x∧(Value.slice AB body.len cB).ownBlock≠some x) 3 AA i.atoms.length (encA i.atoms)∧
   PartX w (fun x=>lo≤x∧vo≠some x∧(Value.slice AB body.len cB).ownBlock≠some x) AE els∧
   ∃ csB,w.ownsRow lo tC 10 (.slice AB body.len cB) body.len csB∧CmsT w (fun x=>lo≤x∧vo≠some x∧(Value.slice AB body.len cB).ownBlock≠some x) body csB
 | .nil,_,_,_,_,_,h=>by simp[Cms.len] at h
 | .cons kd a b t i body els r,cs,lo,hi,0,h,_=>by
  obtain ⟨AF,cF,AA,cA,AB,cB,AE,cE,rest,m0,m1,m2,m3,p1,⟨q0,q1,q2,q3,q4⟩,p3,p4,p5,p6,h⟩:=h
  have hle:=CpAt.le h
  have hO:=p5.own_ge
  have hx:∀ x,m0≤x→x<m3→(x<m1∨m2≤x)→lo≤x∧vo≠some x∧(Value.slice AB body.len cB).ownBlock≠some x:=fun x h1 h2 h3=>⟨by omega,fun e=>q4 x e ⟨h1,h2⟩,fun e=>by have:=hO x e;omega⟩
  obtain ⟨csB,o1,o2,o3,o4⟩:=p5
  refine ⟨.nil,kd,a,b,t,i,body,els,r,AF,cF,AA,cA,AB,cB,AE,cE,[],rest,rfl,rfl,p1,fun g hg=>?_,rfl,?_,p3.mono fun x hx' _=>hx x hx'.1 (by omega) (by omega),p4.mono fun x hx' _=>hx x hx'.1 (by omega) (by omega),p6.mono fun x hx' _=>hx x (by omega) hx'.2 (by omega),csB,own_lower o1 (by omega),?_⟩
  ·have:=hO g hg
   exact ⟨by omega,fun e=>q4 g e (by omega)⟩
  ·exact h.T2.mono fun x hx' _=>⟨by omega,hx'.2,fun e=>by have:=hO x e;omega⟩
  ·exact o2.mono fun x hx' _=>⟨by omega,fun e=>q4 x e (by omega),hx'.2⟩
 | .cons kd0 a0 b0 t0 i0 body0 els0 r0,cs,lo,hi,k+1,h,hk=>by
  obtain ⟨AF0,cF0,AA0,cA0,AB0,cB0,AE0,cE0,rest,m0,m1,m2,m3,rfl,⟨q0,q1,q2,q3,q4⟩,p3,p4,p5,p6,h⟩:=h
  obtain ⟨P,kd,a,b,t,i,body,els,R,AF,cF,AA,cA,AB,cB,AE,cE,pre,post,rfl,rfl,rfl,s1,s2,s3,s4,s5,s6,csB,s7,s8⟩:=CpAt.split h (by simpa[Cms.len] using hk)
  have hY:∀ x,(m3≤x∧vo≠some x∧(Value.slice AB body.len cB).ownBlock≠some x)→(lo≤x∧vo≠some x∧(Value.slice AB body.len cB).ownBlock≠some x):=fun x hx=>⟨by omega,hx.2⟩
  have hx:∀ x,m0≤x→x<m3→(lo≤x∧vo≠some x∧(Value.slice AB body.len cB).ownBlock≠some x):=fun x h1 h2=>⟨by omega,fun e=>q4 x e ⟨h1,h2⟩,fun e=>by have:=s1 x e;omega⟩
  exact ⟨.cons kd0 a0 b0 t0 i0 body0 els0 P,kd,a,b,t,i,body,els,R,AF,cF,AA,cA,AB,cB,AE,cE,_,post,rfl,rfl,(List.append_assoc ..).symm,fun g hg=>by have:=s1 g hg;exact ⟨by omega,this.2⟩,
   ⟨AF0,cF0,AA0,cA0,AB0,cB0,AE0,cE0,pre,rfl,p3.mono fun x hx' _=>hx x hx'.1 (by omega),p4.mono fun x hx' _=>hx x hx'.1 (by omega),p5.part.mono fun x hx' _=>hx x (by omega) (by omega),p6.mono fun x hx' _=>hx x (by omega) hx'.2,s2.mono fun x hx _=>hY x hx⟩,
   s3.mono fun x hx _=>hY x hx,s4.mono fun x hx _=>hY x hx,s5.mono fun x hx _=>hY x hx,s6.mono fun x hx _=>hY x hx,csB,own_lower s7 (by omega),s8.mono fun x hx _=>hY x hx⟩
theorem row_open {n c:Nat} {A:Option Addr} {cs:List Value} (h:w.ownsRow base tC 10 (.slice A n c) n cs) (hn:0<n):∃ g cur,A=some ⟨g,0,none⟩∧base≤g∧Blk w g tC cur∧(Value.slice A n c).ownBlock=some g∧∀ j u,cs[j]? = some u→w.cell? ⟨g,j,none⟩=some u:=by
 obtain ⟨hl,h2⟩:=h
 rcases h2 with ⟨e,hn'⟩|⟨g,cap,cur,e,hb,hg,hn',hm,hs,ht⟩
 ·omega
 ·injection e with e1 e2 e3
  subst e1
  refine ⟨g,cur,rfl,hb,hg,by simp[Value.ownBlock],fun j u hu=>?_⟩
  rw[cell_of_row w g j cur tC (0,0) hg]
  rw[←ht,List.getElem?_take] at hu
  split at hu
  ·simpa using hu
  ·cases hu
theorem CmsT.rd {X:Nat→Prop} {cs:List Value} {g:Nat} (hT:CmsT w X L cs) (hX:∀ b,X b→lo≤b) (hg:lo≤g) (hl:g<w.heap.size) (hc:∀ j u,cs[j]? = some u→w.cell? ⟨g,j,none⟩=some u):CmsV w lo w.heap.size (some ⟨g,0,none⟩) L:=
 fun _=>⟨g,0,rfl,hg,hl,CmsX.at_ hX (CmsT.x hT fun j u hu=>by rw[Nat.zero_add];exact hc j u hu)⟩
theorem cells_set {g p:Nat} {t:TypeId} {cur:Array Value} {cs:List Value} {u0:Value} (hk:Blk w g t cur) (hc:∀ j u,cs[j]? = some u→w.cell? ⟨g,j,none⟩=some u) (hp:cs[p]? = some u0) (x:Value) :
  ∀ j u,(cs.set p x)[j]? = some u→(w.setCell ⟨g,p,none⟩ x).cell? ⟨g,j,none⟩=some u:=by
 intro j u hu
 have hz:=hk.set_ p x
 rw[hz.cell]
 have h0:=hc p u0 hp
 rw[hk.cell] at h0
 have hlt:p<cur.size:=by
  rcases Nat.lt_or_ge p cur.size with h|h
  ·exact h
  ·rw[Array.getElem?_eq_none h] at h0;cases h0
 rw[Array.getElem?_setIfInBounds]
 rw[List.getElem?_set] at hu
 split at hu
 ·rename_i e
  subst e
  rw[if_pos rfl,if_pos hlt]
  split at hu
  ·exact hu
  ·cases hu
 ·rename_i e
  rw[if_neg e]
  have:=hc j u hu
  rwa [hk.cell] at this
theorem mid {pre post ten:List Value} {q d:Nat} {u:Value} (h:pre.length=q) (hd:ten[d]? = some u):(pre++(ten++post))[q+d]? = some u:=by
 have hlt:d<ten.length:=by
  rcases Nat.lt_or_ge d ten.length with h|h
  ·exact h
  ·rw[List.getElem?_eq_none h] at hd;cases hd
 subst h
 rw[List.getElem?_append_right (by omega),Nat.add_sub_cancel_left,List.getElem?_append_left hlt,hd]
theorem mid_set {pre post ten:List Value} {q d:Nat} {x:Value} (h:pre.length=q) (hd:d<ten.length):(pre++(ten++post)).set (q+d) x=pre++(ten.set d x++post):=by
 subst h
 rw[List.set_append_right _ _ (by omega),Nat.add_sub_cancel_left,List.set_append_left _ _ hd]
theorem part_of {X Y:Nat→Prop} {n c:Nat} {A:Option Addr} {cs:List Value} (h:w.ownsRow lo tC 10 (.slice A n c) L.len cs) (hT:CmsT w X L cs) (hX:∀ x,X x→Y x) (ho:∀ g,(Value.slice A n c).ownBlock=some g→Y g):PartX w Y A L:=fun hl=>by
 obtain ⟨hlen,h2⟩:=h
 rcases h2 with ⟨e,hn⟩|⟨g,cap,cur,e,hb,hg,hn,hm,hs,ht⟩
 ·omega
 ·injection e with e1 e2 e3
  subst e1
  refine ⟨g,0,rfl,ho g (by simp[Value.ownBlock]),(CmsT.x hT fun j u hu=>?_).mono fun b hx _=>hX b hx⟩
  rw[Nat.zero_add,cell_of_row w g j cur tC (0,0) hg]
  rw[←ht,List.getElem?_take] at hu
  split at hu
  ·simpa using hu
  ·cases hu
theorem CpO.fr {g:Nat} (h:CpO w base v L) (hf:Fr g w w') (hg:g<base):CpO w' base v L:=by
 obtain ⟨cs,h1,h2,h3⟩:=h
 exact ⟨cs,own_fr h1 hf hg,(h2.keep fun b hb _ _ hl=>hf.block b hl (by omega)).hi_ hf.size,h3⟩
theorem mut_close {W:World} {gb:Nat} {P R:Cms} {pre post:List Value} {kd a b:Int} {t:Fct} {i:Asn} {body els:Cms} {AF AA AB AE:Option Addr} {cF cA cB cE:Nat}
  (hP:CmsT w (fun x=>base≤x∧x≠gb) P pre) (hR:CmsT w (fun x=>base≤x∧x≠gb) R post) (hF:RwX w (fun x=>base≤x∧x≠gb) 3 AF i.facts.length (encF i.facts)) (hA:RwX w (fun x=>base≤x∧x≠gb) 3 AA i.atoms.length (encA i.atoms))
  (hB:PartX w (fun x=>base≤x∧x≠gb) AB body) (hE:PartX w (fun x=>base≤x∧x≠gb) AE els) (hk:∀ x,base≤x→x≠gb→x<w.heap.size→W.heap[x]? = w.heap[x]?) (hgb:base≤gb) (hlt:gb<W.heap.size)
  (hc:∀ j u,(pre++(tenL kd a b t (.slice AF i.facts.length cF) (.slice AA i.atoms.length cA) (.slice AB body.len cB) (.slice AE els.len cE)++post))[j]? = some u→W.cell? ⟨gb,j,none⟩=some u) :
  CmsV W base W.heap.size (some ⟨gb,0,none⟩) (P.app (.cons kd a b t i body els R)):=by
 have kk:∀ x,(base≤x∧x≠gb)→x<w.heap.size→W.heap[x]? = w.heap[x]?:=fun x hx hl=>hk x hx.1 hx.2 hl
 have hT:CmsT W (fun x=>base≤x∧x≠gb) (P.app (.cons kd a b t i body els R)) (pre++(tenL kd a b t (.slice AF i.facts.length cF) (.slice AA i.atoms.length cA) (.slice AB body.len cB) (.slice AE els.len cE)++post)):=
  (hP.keep kk).app ⟨AF,cF,AA,cA,AB,cB,AE,cE,post,rfl,hF.keep kk,hA.keep kk,hB.keep kk,hE.keep kk,hR.keep kk⟩
 exact hT.rd (fun x hx=>hx.1) hgb hlt hc
theorem setCell_congr {w w':World} {a:Addr} {v:Value} (h:w.heap[a.block]? = w'.heap[a.block]?):(w.setCell a v).heap[a.block]? = (w'.setCell a v).heap[a.block]?:=by
 simp only[World.setCell,Array.getElem?_modify,h]
theorem cells10 {g q:Nat} {t:TypeId} {cur:Array Value} {pre post:List Value} {x0 x1 x2 x3 x4 x5 x6 x7 x8 x9 v0 v1 v2 v3 v4 v5 v6 v7 v8 v9:Value} (hk:Blk w g t cur) (hq:pre.length=q) (hc:∀ j u,(pre++([x0,x1,x2,x3,x4,x5,x6,x7,x8,x9]++post))[j]? = some u→w.cell? ⟨g,j,none⟩=some u) :
  ∀ j u,(pre++([v0,v1,v2,v3,v4,v5,v6,v7,v8,v9]++post))[j]? = some u→(((((((((((w).setCell ⟨g,q,none⟩ v0).setCell ⟨g,q+1,none⟩ v1).setCell ⟨g,q+2,none⟩ v2).setCell ⟨g,q+3,none⟩ v3).setCell ⟨g,q+4,none⟩ v4).setCell ⟨g,q+5,none⟩ v5).setCell ⟨g,q+6,none⟩ v6).setCell ⟨g,q+7,none⟩ v7).setCell ⟨g,q+8,none⟩ v8).setCell ⟨g,q+9,none⟩ v9).cell? ⟨g,j,none⟩=some u:=by
 have D0:=cells_set hk hc (mid (d:=0) hq (by rfl)) v0
 rw[mid_set hq (by simp)] at D0
 simp only[List.set_cons_zero,List.set_cons_succ] at D0
 have D1:=cells_set (hk.set_ (q+0) v0) D0 (mid (d:=1) hq (by rfl)) v1
 rw[mid_set hq (by simp)] at D1
 simp only[List.set_cons_zero,List.set_cons_succ] at D1
 have D2:=cells_set ((hk.set_ (q+0) v0).set_ (q+1) v1) D1 (mid (d:=2) hq (by rfl)) v2
 rw[mid_set hq (by simp)] at D2
 simp only[List.set_cons_zero,List.set_cons_succ] at D2
 have D3:=cells_set (((hk.set_ (q+0) v0).set_ (q+1) v1).set_ (q+2) v2) D2 (mid (d:=3) hq (by rfl)) v3
 rw[mid_set hq (by simp)] at D3
 simp only[List.set_cons_zero,List.set_cons_succ] at D3
 have D4:=cells_set ((((hk.set_ (q+0) v0).set_ (q+1) v1).set_ (q+2) v2).set_ (q+3) v3) D3 (mid (d:=4) hq (by rfl)) v4
 rw[mid_set hq (by simp)] at D4
 simp only[List.set_cons_zero,List.set_cons_succ] at D4
 have D5:=cells_set (((((hk.set_ (q+0) v0).set_ (q+1) v1).set_ (q+2) v2).set_ (q+3) v3).set_ (q+4) v4) D4 (mid (d:=5) hq (by rfl)) v5
 rw[mid_set hq (by simp)] at D5
 simp only[List.set_cons_zero,List.set_cons_succ] at D5
 have D6:=cells_set ((((((hk.set_ (q+0) v0).set_ (q+1) v1).set_ (q+2) v2).set_ (q+3) v3).set_ (q+4) v4).set_ (q+5) v5) D5 (mid (d:=6) hq (by rfl)) v6
 rw[mid_set hq (by simp)] at D6
 simp only[List.set_cons_zero,List.set_cons_succ] at D6
 have D7:=cells_set (((((((hk.set_ (q+0) v0).set_ (q+1) v1).set_ (q+2) v2).set_ (q+3) v3).set_ (q+4) v4).set_ (q+5) v5).set_ (q+6) v6) D6 (mid (d:=7) hq (by rfl)) v7
 rw[mid_set hq (by simp)] at D7
 simp only[List.set_cons_zero,List.set_cons_succ] at D7
 have D8:=cells_set ((((((((hk.set_ (q+0) v0).set_ (q+1) v1).set_ (q+2) v2).set_ (q+3) v3).set_ (q+4) v4).set_ (q+5) v5).set_ (q+6) v6).set_ (q+7) v7) D7 (mid (d:=8) hq (by rfl)) v8
 rw[mid_set hq (by simp)] at D8
 simp only[List.set_cons_zero,List.set_cons_succ] at D8
 have D9:=cells_set (((((((((hk.set_ (q+0) v0).set_ (q+1) v1).set_ (q+2) v2).set_ (q+3) v3).set_ (q+4) v4).set_ (q+5) v5).set_ (q+6) v6).set_ (q+7) v7).set_ (q+8) v8) D8 (mid (d:=9) hq (by rfl)) v9
 rw[mid_set hq (by simp)] at D9
 simp only[List.set_cons_zero,List.set_cons_succ] at D9
 exact D9
theorem mut4 {W:World} {gb g8 c9:Nat} {P R:Cms} {pre post csB:List Value} {kd a b:Int} {t:Fct} {i:Asn} {body els:Cms} {AF AA AB AE:Option Addr} {cF cA cB cE:Nat}
  (h2:CmsT w (fun x=>base≤x∧some gb≠some x∧(Value.slice AB body.len cB).ownBlock≠some x) P pre) (h3:CmsT w (fun x=>base≤x∧some gb≠some x∧(Value.slice AB body.len cB).ownBlock≠some x) R post) (h4:RwX w (fun x=>base≤x∧some gb≠some x∧(Value.slice AB body.len cB).ownBlock≠some x) 3 AF i.facts.length (encF i.facts)) (h5:RwX w (fun x=>base≤x∧some gb≠some x∧(Value.slice AB body.len cB).ownBlock≠some x) 3 AA i.atoms.length (encA i.atoms)) (h6:PartX w (fun x=>base≤x∧some gb≠some x∧(Value.slice AB body.len cB).ownBlock≠some x) AE els) (h8:CmsT w (fun x=>base≤x∧some gb≠some x∧(Value.slice AB body.len cB).ownBlock≠some x) body csB)
  (kW:∀ x,base≤x→x≠gb→(Value.slice AB body.len cB).ownBlock≠some x→x<w.heap.size→W.heap[x]? = w.heap[x]?) (e8:base≤g8) (hne:gb≠g8)
  (c8:∀ j u,(csB++((tenL 5 1 0 ⟨false,0,0⟩ (.slice none 0 0) (.slice none 0 0) (.slice none 0 0) (.slice none 0 0))++[]))[j]? = some u→W.cell? ⟨g8,j,none⟩=some u) (hgb:base≤gb) (hlt:gb<W.heap.size)
  (cb:∀ j u,(pre++(tenL kd a b t (.slice AF i.facts.length cF) (.slice AA i.atoms.length cA) (.slice (some ⟨g8,0,none⟩) (body.len+1) c9) (.slice AE els.len cE)++post))[j]? = some u→W.cell? ⟨gb,j,none⟩=some u) :
  CmsV W base W.heap.size (some ⟨gb,0,none⟩) (P.app (.cons kd a b t i (body.app (.cons 5 1 0 ⟨false,0,0⟩ ⟨[],[]⟩ .nil .nil .nil)) els R)):=by
 have hl:(body.app (.cons 5 1 0 ⟨false,0,0⟩ ⟨[],[]⟩ .nil .nil .nil)).len=body.len+1:=by rw[Cms.len_app];rfl
 have kk:∀ x,(base≤x∧some gb≠some x∧(Value.slice AB body.len cB).ownBlock≠some x)→x<w.heap.size→W.heap[x]? = w.heap[x]?:=fun x hx hl=>kW x hx.1 (fun e=>hx.2.1 (by rw[e])) hx.2.2 hl
 have zz:∀ x,(base≤x∧some gb≠some x∧(Value.slice AB body.len cB).ownBlock≠some x)→(base≤x∧x≠gb):=fun x hx=>⟨hx.1,fun e=>hx.2.1 (by rw[e])⟩
 have hT:CmsT W (fun x=>base≤x∧x≠gb) (body.app (.cons 5 1 0 ⟨false,0,0⟩ ⟨[],[]⟩ .nil .nil .nil)) (csB++((tenL 5 1 0 ⟨false,0,0⟩ (.slice none 0 0) (.slice none 0 0) (.slice none 0 0) (.slice none 0 0))++[])):=((h8.keep kk).mono fun x hx _=>zz x hx).app ⟨none,0,none,0,none,0,none,0,[],rfl,RwX.none ..,RwX.none ..,PartX.nil _,PartX.nil _,rfl⟩
 refine mut_close (w:=W) (AB:=some ⟨g8,0,none⟩) (cF:=cF) (cA:=cA) (cB:=c9) (cE:=cE) ((h2.keep kk).mono fun x hx _=>zz x hx) ((h3.keep kk).mono fun x hx _=>zz x hx) ((h4.keep kk).mono fun x hx _=>zz x hx) ((h5.keep kk).mono fun x hx _=>zz x hx) (fun _=>⟨g8,0,rfl,⟨e8,fun e=>hne e.symm⟩,CmsT.x hT fun j u hu=>by rw[Nat.zero_add];exact c8 j u hu⟩) ((h6.keep kk).mono fun x hx _=>zz x hx) (fun _ _ _ _=>rfl) hgb hlt ?_
 rw[hl]
 exact cb
end
section
variable {ops:Array Oper} {o:Oper} {a:Act} {Q:Exit→Act→World→Prop} {w:World} {base:Nat} {v:Value}
theorem stepCX {K:Act→World→Prop} {E:Prop} (hgd:o.guard=none) (s x:Operand) (ho:o.op=.call { callee:=.builtin .append,args:=#[s,x],argTypes:=#[23,23] })
  {n:Nat} {cs:List Value} (hs:a.eval s=v) (hown:w.ownsRow base tC 10 v n cs) {g0 c:Nat} {arr:Array Value} (ten:List Value) (hx:a.eval x=.slice (some ⟨g0,0,none⟩) 1 c) (hk:Blk w g0 tC arr) (hcs:arr=ten.toArray) (ht:ten.length=10) (h1:∀ u∈ten,u.oneCell'=true) (hn:n+1≤1049600) (hb:base≤w.heap.size)
  (h:∀ A' c' w',w'.ownsRow base tC 10 (.slice A' (n+1) c') (n+1) (cs++ten)→w.grownBy w' v.ownBlock→Below base w w'→((Value.slice A' (n+1) c').ownBlock=v.ownBlock∨(Value.slice A' (n+1) c').ownBlock=some w.heap.size)→K (a.put o.dst (.slice A' (n+1) c')) w'):if Region.wanted o (yielded ops a.tmps)=true then Oper.wp Tryz.prog o a w K Q else E:=by
 have hadd:∀ j,(⟨g0,0,none⟩:Addr).add j=⟨g0,j,none⟩:=fun j=>by unfold Addr.add;split<;>simp_all
 rw[if_pos (show Region.wanted o (yielded ops a.tmps)=true by simp[Region.wanted,hgd])]
 refine wp_appX (news:=ten) s x 23 ho Tryz.underlying23 infoC rfl (by decide) (by decide) hs hown hx (by rw[ht]) (fun j u hu=>?_) h1 hn hb ?_
 ·rw[hadd,hk.cell,hcs]
  simpa using hu
 ·intro v' w' q1 q2 q3 q4
  obtain ⟨q1a,q1b⟩:=q1
  rcases q1b with ⟨rfl,e⟩|⟨k,cap,cur,rfl,r⟩
  ·omega
  ·exact h _ _ w' ⟨q1a,Or.inr ⟨k,cap,cur,rfl,r⟩⟩ q2 q3 q4
end
end Go.Proofs.YtjbboklnegfohaaGreatDoor

/- A command put behind the body of a drawn command: what is read then. Printed. -/
namespace Go.Proofs.YtjbboklnegfohaaGreatDoor
open Go Go.RowKit Go.Proofs
set_option maxHeartbeats 1600000
theorem row_cap {w:World} {base size n c:Nat} {e:TypeId} {A:Option Addr} {cs:List Value} (h:w.ownsRow base e size (.slice A n c) n cs):n≤c:=by
 obtain ⟨_,h2⟩:=h
 rcases h2 with ⟨_,rfl⟩|⟨g,cap,cur,e,hb,hg,hn,_⟩
 ·exact Nat.zero_le _
 ·injection e with e1 e2 e3;omega
theorem mut4A {w w3 w9:World} {g qr gb g8 c9 k:Nat} {cur cur8:Array Value} {P R:Cms} {pre post csB:List Value} {kd a b:Int} {t:Fct} {i:Asn} {body els:Cms} {AF AA AB AE:Option Addr} {cF cA cB cE:Nat}
  (s2:CmsT w3 (fun x=>w.heap.size≤x∧some gb≠some x∧(Value.slice AB body.len cB).ownBlock≠some x) P pre) (s3:CmsT w3 (fun x=>w.heap.size≤x∧some gb≠some x∧(Value.slice AB body.len cB).ownBlock≠some x) R post) (s4:RwX w3 (fun x=>w.heap.size≤x∧some gb≠some x∧(Value.slice AB body.len cB).ownBlock≠some x) 3 AF i.facts.length (encF i.facts)) (s5:RwX w3 (fun x=>w.heap.size≤x∧some gb≠some x∧(Value.slice AB body.len cB).ownBlock≠some x) 3 AA i.atoms.length (encA i.atoms)) (s6:PartX w3 (fun x=>w.heap.size≤x∧some gb≠some x∧(Value.slice AB body.len cB).ownBlock≠some x) AE els) (s8:CmsT w3 (fun x=>w.heap.size≤x∧some gb≠some x∧(Value.slice AB body.len cB).ownBlock≠some x) body csB)
  (hx8:∀ x,x<w3.heap.size→(Value.slice AB body.len cB).ownBlock≠some x→x≠g8) (same9:∀ x,x<w3.heap.size→(Value.slice AB body.len cB).ownBlock≠some x→w9.heap[x]? = w3.heap[x]?)
  (e8:w.heap.size≤g8) (hne8:gb≠g8) (hk8:Blk w9 g8 tC cur8) (hpl8:csB.length=body.len * 10)
  (hc8:∀ j u,(csB++([.int .i64 0,.int .i64 0,.int .i64 0,.bool false,.int .i64 0,.int .i64 0,.slice none 0 0,.slice none 0 0,.slice none 0 0,.slice none 0 0]++[]))[j]? = some u→w9.cell? ⟨g8,j,none⟩=some u)
  (hkb9:Blk w9 gb tC cur) (hgb9:w9.heap[gb]? = w3.heap[gb]?)
  (hc:∀ j u,(pre++(tenL kd a b t (.slice AF i.facts.length cF) (.slice AA i.atoms.length cA) (.slice AB body.len cB) (.slice AE els.len cE)++post))[j]? = some u→w3.cell? ⟨gb,j,none⟩=some u)
  (hpl:pre.length=k * 10) (hgb:w.heap.size≤gb) (F9:Rdf g qr w w9) :
  CmsV (((((((((((w9.setCell ⟨g8,body.len * 10,none⟩ (.int .i64 5)).setCell ⟨g8,body.len * 10+1,none⟩ (.int .i64 1)).setCell ⟨g8,body.len * 10+2,none⟩ (.int .i64 0)).setCell ⟨g8,body.len * 10+3,none⟩ (.bool false)).setCell ⟨g8,body.len * 10+4,none⟩ (.int .i64 0)).setCell ⟨g8,body.len * 10+5,none⟩ (.int .i64 0)).setCell ⟨g8,body.len * 10+6,none⟩ (.slice none 0 0)).setCell ⟨g8,body.len * 10+7,none⟩ (.slice none 0 0)).setCell ⟨g8,body.len * 10+8,none⟩ (.slice none 0 0)).setCell ⟨g8,body.len * 10+9,none⟩ (.slice none 0 0)).setCell ⟨gb,k * 10+8,none⟩ (.slice (some ⟨g8,0,none⟩) (body.len+1) c9)) w.heap.size (((((((((((w9.setCell ⟨g8,body.len * 10,none⟩ (.int .i64 5)).setCell ⟨g8,body.len * 10+1,none⟩ (.int .i64 1)).setCell ⟨g8,body.len * 10+2,none⟩ (.int .i64 0)).setCell ⟨g8,body.len * 10+3,none⟩ (.bool false)).setCell ⟨g8,body.len * 10+4,none⟩ (.int .i64 0)).setCell ⟨g8,body.len * 10+5,none⟩ (.int .i64 0)).setCell ⟨g8,body.len * 10+6,none⟩ (.slice none 0 0)).setCell ⟨g8,body.len * 10+7,none⟩ (.slice none 0 0)).setCell ⟨g8,body.len * 10+8,none⟩ (.slice none 0 0)).setCell ⟨g8,body.len * 10+9,none⟩ (.slice none 0 0)).setCell ⟨gb,k * 10+8,none⟩ (.slice (some ⟨g8,0,none⟩) (body.len+1) c9)).heap.size (some ⟨gb,0,none⟩) (P.app (.cons kd a b t i (body.app (.cons 5 1 0 ⟨false,0,0⟩ ⟨[],[]⟩ .nil .nil .nil)) els R))∧Rdf g qr w (((((((((((w9.setCell ⟨g8,body.len * 10,none⟩ (.int .i64 5)).setCell ⟨g8,body.len * 10+1,none⟩ (.int .i64 1)).setCell ⟨g8,body.len * 10+2,none⟩ (.int .i64 0)).setCell ⟨g8,body.len * 10+3,none⟩ (.bool false)).setCell ⟨g8,body.len * 10+4,none⟩ (.int .i64 0)).setCell ⟨g8,body.len * 10+5,none⟩ (.int .i64 0)).setCell ⟨g8,body.len * 10+6,none⟩ (.slice none 0 0)).setCell ⟨g8,body.len * 10+7,none⟩ (.slice none 0 0)).setCell ⟨g8,body.len * 10+8,none⟩ (.slice none 0 0)).setCell ⟨g8,body.len * 10+9,none⟩ (.slice none 0 0)).setCell ⟨gb,k * 10+8,none⟩ (.slice (some ⟨g8,0,none⟩) (body.len+1) c9)):=by
 have hlb:gb<w9.heap.size:=hkb9.lt
 have D8:=cells_set hkb9 (fun j u hu=>(World.cell?_of_block (a:=⟨gb,j,none⟩) hgb9).trans (hc j u hu)) (mid (d:=8) hpl (by rfl)) (.slice (some ⟨g8,0,none⟩) (body.len+1) c9)
 rw[mid_set hpl (by simp[tenL])] at D8
 have C8:=cells10 (v0:=.int .i64 5) (v1:=.int .i64 1) (v2:=.int .i64 0) (v3:=.bool false) (v4:=.int .i64 0) (v5:=.int .i64 0) (v6:=.slice none 0 0) (v7:=.slice none 0 0) (v8:=.slice none 0 0) (v9:=.slice none 0 0) hk8 hpl8 hc8
 have hS:∀ x,x≠g8→((((((((((w9.setCell ⟨g8,body.len * 10,none⟩ (.int .i64 5)).setCell ⟨g8,body.len * 10+1,none⟩ (.int .i64 1)).setCell ⟨g8,body.len * 10+2,none⟩ (.int .i64 0)).setCell ⟨g8,body.len * 10+3,none⟩ (.bool false)).setCell ⟨g8,body.len * 10+4,none⟩ (.int .i64 0)).setCell ⟨g8,body.len * 10+5,none⟩ (.int .i64 0)).setCell ⟨g8,body.len * 10+6,none⟩ (.slice none 0 0)).setCell ⟨g8,body.len * 10+7,none⟩ (.slice none 0 0)).setCell ⟨g8,body.len * 10+8,none⟩ (.slice none 0 0)).setCell ⟨g8,body.len * 10+9,none⟩ (.slice none 0 0)).heap[x]? = w9.heap[x]?:=fun x hx=>by
  iterate 10 (refine (Below.heap_setCell _ _ _ x hx).trans ?_)
  exact rfl
 refine ⟨mut4 (cF:=cF) (cA:=cA) (cE:=cE) (c9:=c9) s2 s3 s4 s5 s6 s8 (fun x h1 h2 h3 hl=>?_) e8 hne8 (fun j u hu=>?_) hgb ?_ (fun j u hu=>?_),?_⟩
 ·exact (Below.heap_setCell _ _ _ x h2).trans ((hS x (hx8 x hl h3)).trans (same9 x hl h3))
 ·exact (World.cell?_of_block (a:=⟨g8,j,none⟩) (Below.heap_setCell _ _ _ g8 (Ne.symm hne8))).trans (C8 j u hu)
 ·simp only[World.size_setCell];exact hlb
 ·refine (World.cell?_of_block (a:=⟨gb,j,none⟩) ?_).trans (D8 j u hu)
  exact setCell_congr (a:=⟨gb,k * 10+8,none⟩) (hS gb hne8)
 ·iterate 11 (refine Rdf.set_ ?_ (Or.inr (by simp only;omega)) _)
  exact F9
theorem mut4B {w w3 w9:World} {g qr gb g8 c9 k:Nat} {cur cur8:Array Value} {P R:Cms} {pre post csB:List Value} {kd a b:Int} {t:Fct} {i:Asn} {body els:Cms} {AF AA AB AE:Option Addr} {cF cA cB cE:Nat}
  (s2:CmsT w3 (fun x=>w.heap.size≤x∧some gb≠some x∧(Value.slice AB body.len cB).ownBlock≠some x) P pre) (s3:CmsT w3 (fun x=>w.heap.size≤x∧some gb≠some x∧(Value.slice AB body.len cB).ownBlock≠some x) R post) (s4:RwX w3 (fun x=>w.heap.size≤x∧some gb≠some x∧(Value.slice AB body.len cB).ownBlock≠some x) 3 AF i.facts.length (encF i.facts)) (s5:RwX w3 (fun x=>w.heap.size≤x∧some gb≠some x∧(Value.slice AB body.len cB).ownBlock≠some x) 3 AA i.atoms.length (encA i.atoms)) (s6:PartX w3 (fun x=>w.heap.size≤x∧some gb≠some x∧(Value.slice AB body.len cB).ownBlock≠some x) AE els) (s8:CmsT w3 (fun x=>w.heap.size≤x∧some gb≠some x∧(Value.slice AB body.len cB).ownBlock≠some x) body csB)
  (hx8:∀ x,x<w3.heap.size→(Value.slice AB body.len cB).ownBlock≠some x→x≠g8) (same9:∀ x,x<w3.heap.size→(Value.slice AB body.len cB).ownBlock≠some x→w9.heap[x]? = w3.heap[x]?)
  (e8:w.heap.size≤g8) (hne8:gb≠g8) (hk8:Blk w9 g8 tC cur8) (hpl8:csB.length=body.len * 10)
  (hc8:∀ j u,(csB++([.int .i64 0,.int .i64 0,.int .i64 0,.bool false,.int .i64 0,.int .i64 0,.slice none 0 0,.slice none 0 0,.slice none 0 0,.slice none 0 0]++[]))[j]? = some u→w9.cell? ⟨g8,j,none⟩=some u)
  (hkb9:Blk w9 gb tC cur) (hgb9:w9.heap[gb]? = w3.heap[gb]?)
  (hc:∀ j u,(pre++(tenL kd a b t (.slice AF i.facts.length cF) (.slice AA i.atoms.length cA) (.slice AB body.len cB) (.slice AE els.len cE)++post))[j]? = some u→w3.cell? ⟨gb,j,none⟩=some u)
  (hpl:pre.length=k * 10) (hgb:w.heap.size≤gb) (F9:Rdf g qr w w9) :
  CmsV (((((((((((w9.setCell ⟨gb,k * 10+8,none⟩ (.slice (some ⟨g8,0,none⟩) (body.len+1) c9)).setCell ⟨g8,body.len * 10,none⟩ (.int .i64 5)).setCell ⟨g8,body.len * 10+1,none⟩ (.int .i64 1)).setCell ⟨g8,body.len * 10+2,none⟩ (.int .i64 0)).setCell ⟨g8,body.len * 10+3,none⟩ (.bool false)).setCell ⟨g8,body.len * 10+4,none⟩ (.int .i64 0)).setCell ⟨g8,body.len * 10+5,none⟩ (.int .i64 0)).setCell ⟨g8,body.len * 10+6,none⟩ (.slice none 0 0)).setCell ⟨g8,body.len * 10+7,none⟩ (.slice none 0 0)).setCell ⟨g8,body.len * 10+8,none⟩ (.slice none 0 0)).setCell ⟨g8,body.len * 10+9,none⟩ (.slice none 0 0)) w.heap.size (((((((((((w9.setCell ⟨gb,k * 10+8,none⟩ (.slice (some ⟨g8,0,none⟩) (body.len+1) c9)).setCell ⟨g8,body.len * 10,none⟩ (.int .i64 5)).setCell ⟨g8,body.len * 10+1,none⟩ (.int .i64 1)).setCell ⟨g8,body.len * 10+2,none⟩ (.int .i64 0)).setCell ⟨g8,body.len * 10+3,none⟩ (.bool false)).setCell ⟨g8,body.len * 10+4,none⟩ (.int .i64 0)).setCell ⟨g8,body.len * 10+5,none⟩ (.int .i64 0)).setCell ⟨g8,body.len * 10+6,none⟩ (.slice none 0 0)).setCell ⟨g8,body.len * 10+7,none⟩ (.slice none 0 0)).setCell ⟨g8,body.len * 10+8,none⟩ (.slice none 0 0)).setCell ⟨g8,body.len * 10+9,none⟩ (.slice none 0 0)).heap.size (some ⟨gb,0,none⟩) (P.app (.cons kd a b t i (body.app (.cons 5 1 0 ⟨false,0,0⟩ ⟨[],[]⟩ .nil .nil .nil)) els R))∧Rdf g qr w (((((((((((w9.setCell ⟨gb,k * 10+8,none⟩ (.slice (some ⟨g8,0,none⟩) (body.len+1) c9)).setCell ⟨g8,body.len * 10,none⟩ (.int .i64 5)).setCell ⟨g8,body.len * 10+1,none⟩ (.int .i64 1)).setCell ⟨g8,body.len * 10+2,none⟩ (.int .i64 0)).setCell ⟨g8,body.len * 10+3,none⟩ (.bool false)).setCell ⟨g8,body.len * 10+4,none⟩ (.int .i64 0)).setCell ⟨g8,body.len * 10+5,none⟩ (.int .i64 0)).setCell ⟨g8,body.len * 10+6,none⟩ (.slice none 0 0)).setCell ⟨g8,body.len * 10+7,none⟩ (.slice none 0 0)).setCell ⟨g8,body.len * 10+8,none⟩ (.slice none 0 0)).setCell ⟨g8,body.len * 10+9,none⟩ (.slice none 0 0)):=by
 have hlb:gb<w9.heap.size:=hkb9.lt
 have D8:=cells_set hkb9 (fun j u hu=>(World.cell?_of_block (a:=⟨gb,j,none⟩) hgb9).trans (hc j u hu)) (mid (d:=8) hpl (by rfl)) (.slice (some ⟨g8,0,none⟩) (body.len+1) c9)
 rw[mid_set hpl (by simp[tenL])] at D8
 have C8:=cells10 (v0:=.int .i64 5) (v1:=.int .i64 1) (v2:=.int .i64 0) (v3:=.bool false) (v4:=.int .i64 0) (v5:=.int .i64 0) (v6:=.slice none 0 0) (v7:=.slice none 0 0) (v8:=.slice none 0 0) (v9:=.slice none 0 0) (hk8.far (p:=⟨gb,k * 10+8,none⟩) (Ne.symm hne8) (.slice (some ⟨g8,0,none⟩) (body.len+1) c9)) hpl8 (fun j u hu=>(World.cell?_of_block (a:=⟨g8,j,none⟩) (Below.heap_setCell w9 ⟨gb,k * 10+8,none⟩ (.slice (some ⟨g8,0,none⟩) (body.len+1) c9) g8 (Ne.symm hne8))).trans (hc8 j u hu))
 have hS:∀ x,x≠g8→(((((((((((w9.setCell ⟨gb,k * 10+8,none⟩ (.slice (some ⟨g8,0,none⟩) (body.len+1) c9)).setCell ⟨g8,body.len * 10,none⟩ (.int .i64 5)).setCell ⟨g8,body.len * 10+1,none⟩ (.int .i64 1)).setCell ⟨g8,body.len * 10+2,none⟩ (.int .i64 0)).setCell ⟨g8,body.len * 10+3,none⟩ (.bool false)).setCell ⟨g8,body.len * 10+4,none⟩ (.int .i64 0)).setCell ⟨g8,body.len * 10+5,none⟩ (.int .i64 0)).setCell ⟨g8,body.len * 10+6,none⟩ (.slice none 0 0)).setCell ⟨g8,body.len * 10+7,none⟩ (.slice none 0 0)).setCell ⟨g8,body.len * 10+8,none⟩ (.slice none 0 0)).setCell ⟨g8,body.len * 10+9,none⟩ (.slice none 0 0)).heap[x]? = (w9.setCell ⟨gb,k * 10+8,none⟩ (.slice (some ⟨g8,0,none⟩) (body.len+1) c9)).heap[x]?:=fun x hx=>by
  iterate 10 (refine (Below.heap_setCell _ _ _ x hx).trans ?_)
  exact rfl
 refine ⟨mut4 (cF:=cF) (cA:=cA) (cE:=cE) (c9:=c9) s2 s3 s4 s5 s6 s8 (fun x h1 h2 h3 hl=>?_) e8 hne8 (fun j u hu=>?_) hgb ?_ (fun j u hu=>?_),?_⟩
 ·exact (hS x (hx8 x hl h3)).trans ((Below.heap_setCell _ _ _ x h2).trans (same9 x hl h3))
 ·exact C8 j u hu
 ·simp only[World.size_setCell];exact hlb
 ·exact (World.cell?_of_block (a:=⟨gb,j,none⟩) (hS gb hne8)).trans (D8 j u hu)
 ·iterate 11 (refine Rdf.set_ ?_ (Or.inr (by simp only;omega)) _)
  exact F9
end Go.Proofs.YtjbboklnegfohaaGreatDoor
