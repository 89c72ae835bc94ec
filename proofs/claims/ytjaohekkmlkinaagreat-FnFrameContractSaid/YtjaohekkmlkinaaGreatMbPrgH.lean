/- Programs: validity, the spec's way: the count. -/
import Derived.Test.YtjaohekkmlkinaaGreatMbCmdI
import Derived.IntWalk
set_option linter.unusedSimpArgs false
set_option linter.unusedVariables false
set_option maxRecDepth 100000
set_option maxHeartbeats 25600000
namespace Go.Proofs.YtjaohekkmlkinaaGreat
section
open Go Go.RowKit Go.Proofs
theorem l8Count_go:∀ (N:Nat) (L:Cms),L.sz<N→∀ (A:Option Addr) (c d lo hi:Nat) (D:Int) (w:World),D=d→CmsV w lo hi A L→L.len≤1049600→L.small 1049600→L.sz≤4200000→d≤4→
  Calls Tryz.prog 129 #[.slice A L.len c,.int .i64 D] w fun e w'=>e=.returned (.int .i64 (L.count d))∧Below w.heap.size w w':=by
 intro N
 induction N with
 | zero=>intro L h;omega
 | succ N IH=>
  intro L hsz A c d lo hi D w hD hV hlen hsm hcz hd;replace IH:=ax IH;replace hV:=ax hV;replace hsm:=ax hsm;replace hsz:=ax hsz;replace hcz:=ax hcz;obtain ⟨n,hn⟩:∃ n,n=L.len:=⟨_,rfl⟩;obtain ⟨R,hR⟩:∃ R,R=L.count d:=⟨_,rfl⟩;have hRz:R≤4200000:=by rw[hR];exact Nat.le_trans (Cms.count_le L d) hcz.o
  rw[←hn,←hR];rw[←hn] at hlen;replace hn:=ax hn;replace hR:=ax hR;rcases Nat.eq_zero_or_pos d with rfl|hd0
  ·subst hD;have e0:aJ (R=0):=by rw[aJ,hR.o];cases L<;>simp[Cms.count]
   (go_enter Tryz.func129,Tryz.ntmps129);(go_wp2_with fail)
   go_loopw [5,6] (fun m x wr=>m=.int .i64 0∧x=.int .i64 0∧Below w.heap.size w wr) (fun _ _ _=>0)
   case atStart=>exact ⟨rfl,rfl,bel⟩
   case round=>
    obtain ⟨rfl,rfl,hB⟩:=hrel;by_cases q1:0<n
    all_goals
     (go_wp2_with fail);go_ret;exact ⟨by rw[e0.o];rfl,hB⟩
  obtain ⟨d,rfl⟩:∃ e,d=e+1:=⟨d - 1,by omega⟩;clear hd0;have hD1:0<D:=by omega
  have hD4:D≤4:=by omega
  replace hD:=ax hD;(go_enter Tryz.func129,Tryz.ntmps129);(go_wp2_with fail)
  go_loopw [5,6] (fun y x wr=>∃ j m:Nat,j≤n∧x=.int .i64 j∧y=.int .i64 m∧m≤R∧aJ (R=m+(L.drop j).count (d+1))∧Below w.heap.size w wr) (fun _ x _=>n - (intOf x).toNat)
  case atStart=>exact ⟨0,0,Nat.zero_le _,rfl,rfl,Nat.zero_le _,ax (by rw[Nat.zero_add];exact hR.o),bel⟩
  case round=>
   obtain ⟨j,m,hj,rfl,rfl,hmR,HR,hB⟩:=hrel;by_cases hlt:j<n
   ·have hpos:0<(L.drop j).len:=by rw[Cms.drop_len,←hn.o];omega
    obtain ⟨k,a,b,t,i,body,els,r,eL⟩:=Cms.cons_of_len hpos;obtain ⟨bl,o,rfl,-,-,hAt⟩:=(hV.o.bz hB) (by rw[←hn.o];omega);have hD:=hAt.drop j;have hS:=Cms.small_drop j hsm.o;have hZ:=Cms.sz_drop j L;have hDs:=Cms.drop_succ j L eL;have HR':=HR.o;rw[eL] at hD hS hZ HR';obtain ⟨⟨p0,p1,p2,p3,p4,p5⟩,⟨A6,c6,p6,g6⟩,⟨A7,c7,p7,g7⟩,⟨A8,c8,p8,g8⟩,⟨A9,c9,p9,g9⟩,-⟩:=hD;obtain ⟨s1,s2,s3,s4,s5,s6,-⟩:=hS;simp only[Cms.sz] at hZ;have hbs:body.sz<N:=by have:=hsz.o;omega
    have hes:els.sz<N:=by have:=hsz.o;omega
    have hbz:body.sz≤4200000:=by have:=hcz.o;omega
    have hez:els.sz≤4200000:=by have:=hcz.o;omega
    have gB:aJ (CmsV wr lo hi A8 body):=g8;have gE:aJ (CmsV wr lo hi A9 els):=g9;rw[Cms.count,if_pos (by omega),Nat.add_sub_cancel,←hDs] at HR';obtain ⟨x1,hx1⟩:∃ x,x=body.count d:=⟨_,rfl⟩;obtain ⟨x2,hx2⟩:∃ x,x=els.count d:=⟨_,rfl⟩;rw[←hx1,←hx2] at HR';have y1:m+x1+x2+1≤R:=by omega
    replace HR':=ax HR';replace hx1:=ax hx1;replace hx2:=ax hx2;replace hbs:=ax hbs;replace hes:=ax hes;replace hbz:=ax hbz;replace hez:=ax hez;replace s5:=ax s5;replace s6:=ax s6;clear hZ hpos hAt g6 g7 g8 g9 HR hDs eL s1 s2;(go_wp2_with fail);have hlt8:=block_lt_of_cell p8;have i1:IntKind.i64.wrap ((m:Int)+1)=(m:Int)+1:=IntWalk.i64_in _ (by omega);have i2:IntKind.i64.wrap ((m:Int)+1+x1)=(m:Int)+1+x1:=IntWalk.i64_in _ (by omega);have i3:IntKind.i64.wrap ((m:Int)+1+x1+x2)=(m:Int)+1+x1+x2:=IntWalk.i64_in _ (by omega);have i4:IntKind.i64.wrap (D - 1)=D - 1:=IntWalk.i64_in _ (by omega);clear p0 p1 p2 p3 p4 p5 p6 p7;refine wp_region_noPanic ?_;refine wp_region_held_drew (S:=(fun w'=>w'.cell? ⟨bl,o+j * 10+8,none⟩=some (.slice A8 body.len c8)∧w'.cell? ⟨bl,o+j * 10+9,none⟩=some (.slice A9 els.len c9))) (by kernel_rfl) (⟨p8,p9⟩) (fun aH=>?_);refine tk2 0 rfl aH (h:=tk2 1 rfl aH (h:=tk2 2 rfl aH (h:=?_)));(try simp only[zz]);refine tk2 3 rfl aH (h:=tk2 4 rfl aH (h:=tk2 5 rfl aH (h:=?_)));(try simp only[zz]);refine tk2 6 rfl aH (h:=tk2 7 rfl aH (h:=tk2 8 rfl aH (h:=?_)));(try simp only[zz]);refine tk2 11 rfl aH (h:=tk2 12 rfl aH (h:=tk2 13 rfl aH (h:=?_)));(try simp only[zz]);refine tk2 14 rfl aH (h:=tk2 15 rfl aH (h:=tk2 16 rfl aH (h:=?_)));(try simp only[zz]);refine tk2 17 rfl aH (h:=?_);refine rdc 9 rfl fun K hK=>?_;(try simp only[zz]);(go_simp;refine (IH.o body hbs.o A8 c8 d lo hi _ _ (by have:=hD.o;push_cast at this;omega) (gB.o.bz bel) s3 s5.o hbz.o (by omega)).mono ?_;rintro e w8 ⟨rfl,hBx⟩;rw[←hx1.o];replace hB:=bgo hB.drew hBx;replace gE:=ax ((gE.o.bz (Below.refl _ _).drew).bz hBx);replace p8:=(hBx.cell (p:=⟨bl,o+j * 10+8,none⟩) hlt8).trans p8;replace p9:=(hBx.cell (p:=⟨bl,o+j * 10+9,none⟩) hlt8).trans p9;clear hBx hlt8;have hlt8:=block_lt_of_cell p8);refine hK.out _ _ (⟨p8,p9⟩) ?_;clear aH hK K;intro aH;(try simp only[zz]);refine tk2 10 rfl aH (h:=?_);refine rdc 18 rfl fun K hK=>?_;(try simp only[zz]);(go_simp;refine (IH.o els hes.o A9 c9 d lo hi _ _ (by have:=hD.o;push_cast at this;omega) gE.o s4 s6.o hez.o (by omega)).mono ?_;rintro e w9 ⟨rfl,hBx⟩;rw[←hx2.o];replace hB:=bgo hB hBx;replace p8:=(hBx.cell (p:=⟨bl,o+j * 10+8,none⟩) hlt8).trans p8;replace p9:=(hBx.cell (p:=⟨bl,o+j * 10+9,none⟩) hlt8).trans p9;clear hBx hlt8);refine hK.out _ _ (⟨p8,p9⟩) ?_;clear aH hK K;intro aH;(try simp only[zz]);refine tk2 19 rfl aH (h:=tk2 20 rfl aH (h:=?_));(try simp only[zz]);refine dn1 ?_;clear p8 p9 i1 i2 i3 i4;(go_wp2_with fail)
    go_round
    case rel=>exact ⟨j+1,m+x1+x2+1,by omega,by go_num,by push_cast;congr 1;omega,by omega,ax (by have:=HR'.o;omega),hB⟩
    case measure=>simp[intOf];omega
   ·(go_wp2_with fail);go_ret;obtain rfl:j=n:=by omega
    have e1:L.drop j=.nil:=by rw[hn.o];exact Cms.drop_all L
    have h2:=HR.o;rw[e1] at h2;exact ⟨by rw[h2];rfl,hB⟩
theorem c_spec_ProgramV4 {lo hi:Nat} (L:Cms) (A:Option Addr) (c:Nat) (w:World) (hV:CmsV w lo hi A L) (hlen:L.len≤1049600) (hsm:L.small 1049600) (hz:L.sz≤4200000) :
  Calls Tryz.prog 55 #[.slice A L.len c] w fun e w'=>e=.returned (.bool L.prog)∧Below w.heap.size w w':=by
 obtain ⟨R,hR⟩:∃ R,R=L.prog:=⟨_,rfl⟩;obtain ⟨x,hx⟩:∃ x,x=L.shape 4:=⟨_,rfl⟩;rw[←hR];rw[Cms.prog,←hx] at hR;have hc:x=true→L.count 4=L.sz:=fun h=>Cms.count_shape (by rw[←hx];exact h);replace hc:=ax hc;replace hR:=ax hR;replace hx:=ax hx;replace hV:=ax hV;replace hsm:=ax hsm;(go_enter Tryz.func55,Tryz.ntmps55);(go_wp2_with fail);refine (l8Shape_go _ L (Nat.lt_succ_self _) A c 4 lo hi w hV.o hlen hsm.o (by omega)).mono ?_;rintro e w1 ⟨rfl,hB1⟩;rw[←hx.o];cases x
 ·(go_wp2_with fail);go_ret;exact ⟨zjD (by rw[hR.o];rfl),hB1⟩
 (go_wp2_with fail);refine (l8Count_go _ L (Nat.lt_succ_self _) A c 4 lo hi 4 w1 rfl (hV.o.bz hB1) hlen hsm.o hz (by omega)).mono ?_;rintro e w2 ⟨rfl,hB2⟩;rw[hc.o (by simp)];have hB:=bgo hB1 hB2;(go_wp2_with fail);go_ret;exact ⟨zjD (by rw[hR.o,Bool.true_and];simp;omega),hB⟩
theorem c_spec_ProgramValid {lo hi:Nat} (L:Cms) (A:Option Addr) (c:Nat) (w:World) (hV:CmsV w lo hi A L) (hlen:L.len≤1049600) (hsm:L.small 1049600) (hz:L.sz≤1049600) :
  Calls Tryz.prog 55 #[.slice A L.len c] w fun e w'=>e=.returned (.bool L.prog)∧Below w.heap.size w w':=
 c_spec_ProgramV4 L A c w hV hlen hsm (by omega)
theorem CmsN.part {w:World} {base n c:Nat} {A:Option Addr} {L:Cms} (h:CmsN w base (.slice A n c) L):PartX w (fun b=>base≤b) A L:=fun hl=>by
 obtain ⟨cs,⟨hlen,h2⟩,h3,h4⟩:=h;rcases h2 with ⟨e,hn⟩|⟨g,cap,cur,e,hb,hg,hn,hm,hs,ht⟩
 ·omega
 ·injection e with e1 e2 e3;subst e1;refine ⟨g,0,rfl,hb,(CmsT.x h3 fun j u hu=>?_).mono fun b hx _=>hx.1⟩;rw[Nat.zero_add,cell_of_row w g j cur tC (0,0) hg];rw[←ht,List.getElem?_take] at hu
  split at hu
  ·simpa using hu
  ·cases hu
theorem PartX.fr {w w':World} {base g:Nat} {A:Option Addr} {L:Cms} (h:PartX w (fun b=>base≤b) A L) (hf:Fr g w w') (hg:g<base):PartX w' (fun b=>base≤b) A L:=h.keep fun b hb hl=>hf.block b hl (by omega)
theorem RwX.fr {w w':World} {base g size n:Nat} {A:Option Addr} {xs:List Value} (h:RwX w (fun b=>base≤b) size A n xs) (hf:Fr g w w') (hg:g<base):RwX w' (fun b=>base≤b) size A n xs:=h.keep fun b hb hl=>hf.block b hl (by omega)
theorem RwX.none (w:World) (X:Nat→Prop) (size:Nat) (A:Option Addr):RwX w X size A 0 []:=⟨by simp,fun h=>by omega⟩
section
variable {ops:Array Oper} {rest:List Oper} {o:Oper} {a:Act} {Q:Exit→Act→World→Prop} {w:World} {base:Nat} {v:Value}
theorem appCX (hgd:o.guard=none) (s x:Operand) (ho:o.op=.call { callee:=.builtin .append,args:=#[s,x],argTypes:=#[42,42] })
  {n:Nat} {cs:List Value} (hs:a.eval s=v) (hown:w.ownsRow base tC 10 v n cs) {g0 c:Nat} {arr:Array Value} (ten:List Value) (hx:a.eval x=.slice (some ⟨g0,0,none⟩) 1 c) (hk:Blk w g0 tC arr) (hcs:arr=ten.toArray) (ht:ten.length=10) (h1:∀ u∈ten,u.oneCell'=true) (hn:n+1≤1049600) (hb:base≤w.heap.size)
  (h:∀ A' c' w',w'.ownsRow base tC 10 (.slice A' (n+1) c') (n+1) (cs++ten)→w.grownBy w' v.ownBlock→Below base w w'→((Value.slice A' (n+1) c').ownBlock=v.ownBlock∨(Value.slice A' (n+1) c').ownBlock=some w.heap.size)→wpList Tryz.prog ops Q rest (a.put o.dst (.slice A' (n+1) c')) w'):wpList Tryz.prog ops Q (o :: rest) a w:=by
 have hadd:∀ j,(⟨g0,0,none⟩:Addr).add j=⟨g0,j,none⟩:=fun j=>by unfold Addr.add;split<;>simp_all
 unfold wpList;rw[if_pos (show Region.wanted o (yielded ops a.tmps)=true by simp[Region.wanted,hgd])];refine Or.inl (wp_appX (news:=ten) s x 42 ho Tryz.underlying42 infoC rfl (by decide) (by decide) hs hown hx (by rw[ht]) (fun j u hu=>?_) h1 hn hb ?_)
 ·rw[hadd,hk.cell,hcs];simpa using hu
 ·intro v' w' q1 q2 q3 q4;obtain ⟨q1a,q1b⟩:=q1;rcases q1b with ⟨rfl,e⟩|⟨k,cap,cur,rfl,r⟩
  ·omega
  ·exact h _ _ w' ⟨q1a,Or.inr ⟨k,cap,cur,rfl,r⟩⟩ q2 q3 q4
end
theorem tenOne (k a b:Int) (t:Fct) (AF AA AB AE:Option Addr) (nF nA nB nE cF cA cB cE:Nat):∀ u∈tenL k a b t (.slice AF nF cF) (.slice AA nA cA) (.slice AB nB cB) (.slice AE nE cE),u.oneCell'=true:=by
 intro u hu;simp only[tenL,List.mem_cons,List.not_mem_nil,or_false] at hu;rcases hu with rfl|rfl|rfl|rfl|rfl|rfl|rfl|rfl|rfl|rfl<;>rfl
theorem ten0 {w:World} {g:Nat} {t:TypeId} {x0 x1 x2 x3 x4 x5 x6 x7 x8 x9 v0 v1 v2 v3 v4 v5 v6 v7 v8 v9:Value} (h:Blk w g t #[x0,x1,x2,x3,x4,x5,x6,x7,x8,x9]):Blk (((((((((((w).setCell ⟨g,0,none⟩ v0).setCell ⟨g,1,none⟩ v1).setCell ⟨g,2,none⟩ v2).setCell ⟨g,3,none⟩ v3).setCell ⟨g,4,none⟩ v4).setCell ⟨g,5,none⟩ v5).setCell ⟨g,6,none⟩ v6).setCell ⟨g,7,none⟩ v7).setCell ⟨g,8,none⟩ v8).setCell ⟨g,9,none⟩ v9) g t #[v0,v1,v2,v3,v4,v5,v6,v7,v8,v9]:=by
 have h2:=((((((((((h.set_ 0 v0).set_ 1 v1).set_ 2 v2).set_ 3 v3).set_ 4 v4).set_ 5 v5).set_ 6 v6).set_ 7 v7).set_ 8 v8).set_ 9 v9);simp only[List.setIfInBounds_toArray,List.set_cons_zero,List.set_cons_succ] at h2;exact h2
theorem retW {P:Program} {F:Func} {Q:Ending→World→Prop} {a:Act} {T:World} {D:World→Prop} (hd:D T) (h:∀ T,D T→bodyPost P F Q Exit.ret a T):bodyPost P F Q Exit.ret a T:=h T hd
def simC (k a b:Int):Array Value:=#[.int .i64 k,.int .i64 a,.int .i64 b,.bool false,.int .i64 0,.int .i64 0,.slice none 0 0,.slice none 0 0,.slice none 0 0,.slice none 0 0]
theorem c_l8Simple (g p:Nat) (w:World) (h:Rdr w g p) (hp:p≤999990) :
  Calls Tryz.prog 226 #[.pointer (some ⟨g,0,none⟩)] w fun e w'=>∃ k a b,e=.returned (.agg (simC k a b))∧Rdr w' g (p+3)∧Fr g w w':=by
 have H:=ax h;have hlt:=h.lt;clear h;have hgn:g≠w.heap.size:=by omega
 (go_enter Tryz.func226,Tryz.ntmps226);have k0:Blk (w.alloc (.cells (simC 0 0 0) tC)) w.heap.size tC (simC 0 0 0):=Blk.new _ _ _;(go_wp2_with fail);refine (c_pick g p 5 _ (H.o.bz bel) (by omega)).mono ?_;rintro e w1 ⟨m,rfl,hm,hR1,hF1⟩;have k1:=k0.fr hF1 (Ne.symm hgn);have F1:Fr g w w1:=((Fr.refl g w).alloc _).trans hF1;have hm5:(m:Int)<5:=by omega
 replace hR1:=ax hR1;replace F1:=ax F1;clear k0 hF1 hm;(go_wp2_with fail);refine (c_numL g (p+1) [1,2,3,1,4] _ _ _ _ (hR1.o.bz bel) (by omega) (Blk.new _ _ _) (by rfl) (by have:=hR1.o.lt;omega) (by rfl) (by simp) (by simp)).mono ?_;rintro e w2 ⟨a,-,rfl,hR2,hF2⟩;have k2:=(k1.alloc _).fr hF2 (Ne.symm hgn);have F2:=ax ((F1.o.alloc _).trans hF2);replace hR2:=ax hR2;clear k1 hF2 hR1 F1;(go_wp2_with fail);refine (c_numL g (p+1+1) [2,0,1,3,5] _ _ _ _ (hR2.o.bz bel) (by omega) (Blk.new _ _ _) (by rfl) (by have:=hR2.o.lt;omega) (by rfl) (by simp) (by simp)).mono ?_;rintro e w3 ⟨b,-,rfl,hR3,hF3⟩;have k3:=(k2.alloc _).fr hF3 (Ne.symm hgn);have F3:=ax ((F2.o.alloc _).trans hF3);replace hR3:=ax hR3;clear k2 hF3 hR2 F2;have lt3:=k3.lt;have c0:w3.cell? ⟨w.heap.size,0,none⟩=some (.int .i64 0):=k3.cell 0;have c1:w3.cell? ⟨w.heap.size,1,none⟩=some (.int .i64 0):=k3.cell 1;have c2:w3.cell? ⟨w.heap.size,2,none⟩=some (.int .i64 0):=k3.cell 2;have c3:w3.cell? ⟨w.heap.size,3,none⟩=some (.bool false):=k3.cell 3;have c4:w3.cell? ⟨w.heap.size,4,none⟩=some (.int .i64 0):=k3.cell 4;have c5:w3.cell? ⟨w.heap.size,5,none⟩=some (.int .i64 0):=k3.cell 5;have c6:w3.cell? ⟨w.heap.size,6,none⟩=some (.slice none 0 0):=k3.cell 6;have c7:w3.cell? ⟨w.heap.size,7,none⟩=some (.slice none 0 0):=k3.cell 7;have c8:w3.cell? ⟨w.heap.size,8,none⟩=some (.slice none 0 0):=k3.cell 8;have c9:w3.cell? ⟨w.heap.size,9,none⟩=some (.slice none 0 0):=k3.cell 9;have f3:=k3.frozen;have hgw:g<w3.heap.size:=by omega
 unfold simC at k3;by_cases q4:1+(m:Int)=4
 ·(go_wp2_with fail);refine retW (D:=fun T=>Blk T w.heap.size tC #[.int .i64 4,.int .i64 a,.int .i64 0,.bool false,.int .i64 0,.int .i64 0,.slice none 0 0,.slice none 0 0,.slice none 0 0,.slice none 0 0]∧Rdr T g (p+3)∧Fr g w T) ⟨(ten0 k3).alloc _,?_,?_⟩ ?_
  ·refine Rdr.bz ?_ (bbox (Below.refl _ _) _)
   iterate 10 (refine Rdr.set_ ?_ (by simp only;omega) _)
   exact hR3.o
  ·refine Fr.alloc ?_ _
   iterate 10 (refine Fr.set_ ?_ (Or.inr (Nat.le_refl _)) _)
   exact F3.o
  ·rintro T ⟨kT,r1,r2⟩;have t:=kT.cell;exact bodyPost_ret (v:=.agg (simC 4 a 0)) (by simp[results,Tryz.results226,go_sem,simC,t]) rfl ⟨_,_,_,rfl,r1,r2⟩
 ·have q4':=beq_false_of_ne q4;by_cases q5:1+(m:Int)=5
  ·(go_wp2_with fail);refine retW (D:=fun T=>Blk T w.heap.size tC #[.int .i64 5,.int .i64 a,.int .i64 0,.bool false,.int .i64 0,.int .i64 0,.slice none 0 0,.slice none 0 0,.slice none 0 0,.slice none 0 0]∧Rdr T g (p+3)∧Fr g w T) ⟨(ten0 k3).alloc _,?_,?_⟩ ?_
   ·refine Rdr.bz ?_ (bbox (Below.refl _ _) _)
    iterate 10 (refine Rdr.set_ ?_ (by simp only;omega) _)
    exact hR3.o
   ·refine Fr.alloc ?_ _
    iterate 10 (refine Fr.set_ ?_ (Or.inr (Nat.le_refl _)) _)
    exact F3.o
   ·rintro T ⟨kT,r1,r2⟩;have t:=kT.cell;exact bodyPost_ret (v:=.agg (simC 5 a 0)) (by simp[results,Tryz.results226,go_sem,simC,t]) rfl ⟨_,_,_,rfl,r1,r2⟩
  ·have q5':=beq_false_of_ne q5;(go_wp2_with fail);refine retW (D:=fun T=>Blk T w.heap.size tC #[.int .i64 (1+(m:Int)),.int .i64 a,.int .i64 b,.bool false,.int .i64 0,.int .i64 0,.slice none 0 0,.slice none 0 0,.slice none 0 0,.slice none 0 0]∧Rdr T g (p+3)∧Fr g w T) ⟨(ten0 k3).alloc _,?_,?_⟩ ?_
   ·refine Rdr.bz ?_ (bbox (Below.refl _ _) _)
    iterate 10 (refine Rdr.set_ ?_ (by simp only;omega) _)
    exact hR3.o
   ·refine Fr.alloc ?_ _
    iterate 10 (refine Fr.set_ ?_ (Or.inr (Nat.le_refl _)) _)
    exact F3.o
   ·rintro T ⟨kT,r1,r2⟩;have t:=kT.cell;exact bodyPost_ret (v:=.agg (simC (1+(m:Int)) a b)) (by simp[results,Tryz.results226,go_sem,simC,t]) rfl ⟨_,_,_,rfl,r1,r2⟩
theorem c_l8Test (g p:Nat) (w:World) (h:Rdr w g p) (hp:p≤999990) :
  Calls Tryz.prog 227 #[.pointer (some ⟨g,0,none⟩)] w fun e w'=>∃ f:Fct,e=.returned f.val∧Rdr w' g (p+3)∧Fr g w w':=by
 have H:=ax h;have hlt:=h.lt;clear h;(go_enter Tryz.func227,Tryz.ntmps227);have k0:Blk (w.alloc (.cells #[.bool false,.int .i64 0,.int .i64 0] tF)) w.heap.size tF #[.bool false,.int .i64 0,.int .i64 0]:=Blk.new _ _ _;(go_wp2_with fail);refine (c_pick g p 3 _ (H.o.bz bel) (by omega)).mono ?_;rintro e w1 ⟨m,rfl,-,hR,hF⟩;replace k0:=k0.fr hF (by omega);have HF1:=ax (((Fr.refl g w).alloc (.cells #[.bool false,.int .i64 0,.int .i64 0] tF)).trans hF);have HR1:=ax hR;clear hR hF;(go_wp2_with fail);refine (c_numL g (p+1) [1,2,3] _ _ _ _ (HR1.o.bz bel) (by omega) (Blk.new _ _ _) (by rfl) (by have:=HR1.o.lt;omega) (by rfl) (by simp) (by simp)).mono ?_;rintro e w2 ⟨a,-,rfl,hR,hF⟩;replace k0:=(k0.alloc _).fr hF (by omega);have HF2:=ax ((HF1.o.alloc _).trans hF);have HR2:=ax hR;clear hR hF;(go_wp2_with fail);refine (c_numL g (p+1+1) [0,2,0,5] _ _ _ _ (HR2.o.bz bel) (by omega) (Blk.new _ _ _) (by rfl) (by have:=HR2.o.lt;omega) (by rfl) (by simp) (by simp)).mono ?_;rintro e w3 ⟨b,-,rfl,hR,hF⟩;replace k0:=(k0.alloc _).fr hF (by omega);have HF3:=ax ((HF2.o.alloc _).trans hF);have HR3:=ax hR;clear hR hF;(replace qk0:=k0.cell;replace rk0:=k0.frozen;replace lk0:=k0.lt);(go_wp2_with fail);refine bodyPost_ret (v:=(Fct.mk ((m:Int) == 0) a b).val) (by simp[results,Tryz.results227,go_sem,qk0]) rfl ⟨⟨(m:Int) == 0,a,b⟩,rfl,?_,?_⟩
 ·repeat (first|exact HR3.o|refine Rdr.set_ ?_ (by simp only;omega) _)
 ·repeat (first|exact HF3.o|refine Fr.set_ ?_ (Or.inr (Nat.le_refl _)) _)
theorem ten0_far {w:World} {g k:Nat} {v0 v1 v2 v3 v4 v5 v6 v7 v8 v9:Value} (h:k≠g):(((((((((((w).setCell ⟨g,0,none⟩ v0).setCell ⟨g,1,none⟩ v1).setCell ⟨g,2,none⟩ v2).setCell ⟨g,3,none⟩ v3).setCell ⟨g,4,none⟩ v4).setCell ⟨g,5,none⟩ v5).setCell ⟨g,6,none⟩ v6).setCell ⟨g,7,none⟩ v7).setCell ⟨g,8,none⟩ v8).setCell ⟨g,9,none⟩ v9).heap[k]? = w.heap[k]?:=by
 iterate 9 (refine (Below.heap_setCell _ _ _ k h).trans ?_)
 exact Below.heap_setCell _ _ _ k h
theorem Rdr.ten {w:World} {g p cb:Nat} {v0 v1 v2 v3 v4 v5 v6 v7 v8 v9:Value} (h:Rdr w g p) (hc:g<cb):Rdr (((((((((((w).setCell ⟨cb,0,none⟩ v0).setCell ⟨cb,1,none⟩ v1).setCell ⟨cb,2,none⟩ v2).setCell ⟨cb,3,none⟩ v3).setCell ⟨cb,4,none⟩ v4).setCell ⟨cb,5,none⟩ v5).setCell ⟨cb,6,none⟩ v6).setCell ⟨cb,7,none⟩ v7).setCell ⟨cb,8,none⟩ v8).setCell ⟨cb,9,none⟩ v9) g p:=by
 iterate 10 (refine Rdr.set_ ?_ (by simp only;omega) _)
 exact h
theorem Fr.ten {a w:World} {g cb:Nat} {v0 v1 v2 v3 v4 v5 v6 v7 v8 v9:Value} (h:Fr g a w) (hc:a.heap.size≤cb):Fr g a (((((((((((w).setCell ⟨cb,0,none⟩ v0).setCell ⟨cb,1,none⟩ v1).setCell ⟨cb,2,none⟩ v2).setCell ⟨cb,3,none⟩ v3).setCell ⟨cb,4,none⟩ v4).setCell ⟨cb,5,none⟩ v5).setCell ⟨cb,6,none⟩ v6).setCell ⟨cb,7,none⟩ v7).setCell ⟨cb,8,none⟩ v8).setCell ⟨cb,9,none⟩ v9):=by
 iterate 10 (refine Fr.set_ ?_ (Or.inr hc) _)
 exact h
def CmdIn (w:World) (X:Nat→Prop) (cb n:Nat):Prop:=∃ (k a b:Int) (t:Fct) (i:Asn) (body els:Cms) (AF:Option Addr) (cF:Nat) (AA:Option Addr) (cA:Nat) (AB:Option Addr) (cB:Nat) (AE:Option Addr) (cE:Nat),Blk w cb tC #[.int .i64 k,.int .i64 a,.int .i64 b,.bool t.eq,.int .i64 t.a,.int .i64 t.b,.slice AF i.facts.length cF,.slice AA i.atoms.length cA,.slice AB body.len cB,.slice AE els.len cE]∧RwX w X 3 AF i.facts.length (encF i.facts)∧RwX w X 3 AA i.atoms.length (encA i.atoms)∧PartX w X AB body∧PartX w X AE els∧i.facts.length+i.atoms.length+(body.len+body.cost)+(els.len+els.cost)≤n
theorem CmdIn.ten {w:World} {X:Nat→Prop} {cb n:Nat} {x0 x1 x2 x3 x4 x5 x6 x7 x8 x9:Value} (h:Blk w cb tC #[x0,x1,x2,x3,x4,x5,x6,x7,x8,x9]) (hX:∀ b,X b→b≠cb) {k a b:Int} {t:Fct} {i:Asn} {body els:Cms} {AF AA AB AE:Option Addr} {cF cA cB cE:Nat}
  (h1:RwX w X 3 AF i.facts.length (encF i.facts)) (h2:RwX w X 3 AA i.atoms.length (encA i.atoms)) (h3:PartX w X AB body) (h4:PartX w X AE els) (hn:i.facts.length+i.atoms.length+(body.len+body.cost)+(els.len+els.cost)≤n) :
  CmdIn (((((((((((w).setCell ⟨cb,0,none⟩ (.int .i64 k)).setCell ⟨cb,1,none⟩ (.int .i64 a)).setCell ⟨cb,2,none⟩ (.int .i64 b)).setCell ⟨cb,3,none⟩ (.bool t.eq)).setCell ⟨cb,4,none⟩ (.int .i64 t.a)).setCell ⟨cb,5,none⟩ (.int .i64 t.b)).setCell ⟨cb,6,none⟩ (.slice AF i.facts.length cF)).setCell ⟨cb,7,none⟩ (.slice AA i.atoms.length cA)).setCell ⟨cb,8,none⟩ (.slice AB body.len cB)).setCell ⟨cb,9,none⟩ (.slice AE els.len cE)) X cb n:=
 ⟨k,a,b,t,i,body,els,AF,cF,AA,cA,AB,cB,AE,cE,ten0 h,h1.keep fun b hb _=>ten0_far (hX b hb),h2.keep fun b hb _=>ten0_far (hX b hb),h3.keep fun b hb _=>ten0_far (hX b hb),h4.keep fun b hb _=>ten0_far (hX b hb),hn⟩
theorem CmdIn.els_ {w:World} {X:Nat→Prop} {cb n:Nat} {v:Value} (hX:∀ b,X b→b≠cb) {k a b:Int} {t:Fct} {i:Asn} {body els:Cms} {AF AA AB AE:Option Addr} {cF cA cB cE:Nat}
  (h:Blk w cb tC #[.int .i64 k,.int .i64 a,.int .i64 b,.bool t.eq,.int .i64 t.a,.int .i64 t.b,.slice AF i.facts.length cF,.slice AA i.atoms.length cA,.slice AB body.len cB,v])
  (h1:RwX w X 3 AF i.facts.length (encF i.facts)) (h2:RwX w X 3 AA i.atoms.length (encA i.atoms)) (h3:PartX w X AB body) (h4:PartX w X AE els) (hn:i.facts.length+i.atoms.length+(body.len+body.cost)+(els.len+els.cost)≤n) :
  CmdIn (w.setCell ⟨cb,9,none⟩ (.slice AE els.len cE)) X cb n:=
 have hk:∀ b,X b→b<w.heap.size→(w.setCell ⟨cb,9,none⟩ (.slice AE els.len cE)).heap[b]? = w.heap[b]?:=fun b hb _=>Below.heap_setCell w ⟨cb,9,none⟩ (.slice AE els.len cE) b (hX b hb)
 ⟨k,a,b,t,i,body,els,AF,cF,AA,cA,AB,cB,AE,cE,(by have h0:=h.set_ 9 (.slice AE els.len cE);simpa only[List.setIfInBounds_toArray,List.set_cons_zero,List.set_cons_succ] using h0),h1.keep hk,h2.keep hk,h3.keep hk,h4.keep hk,hn⟩
theorem CmdIn.fr {g:Nat} {w w':World} {X:Nat→Prop} {cb n:Nat} (h:CmdIn w X cb n) (hf:Fr g w w') (hX:∀ b,X b→b≠g) (hc:cb≠g):CmdIn w' X cb n:=by
 obtain ⟨k,a,b,t,i,body,els,AF,cF,AA,cA,AB,cB,AE,cE,h0,h1,h2,h3,h4,hn⟩:=h;have hk:∀ b,X b→b<w.heap.size→w'.heap[b]? = w.heap[b]?:=fun b hb hl=>hf.block b hl (hX b hb);exact ⟨k,a,b,t,i,body,els,AF,cF,AA,cA,AB,cB,AE,cE,h0.fr hf hc,h1.keep hk,h2.keep hk,h3.keep hk,h4.keep hk,hn⟩
theorem CmdIn.lt {w:World} {X:Nat→Prop} {cb n:Nat} (h:CmdIn w X cb n):cb<w.heap.size:=by
 obtain ⟨k,a,b,t,i,body,els,AF,cF,AA,cA,AB,cB,AE,cE,h0,-⟩:=h;exact h0.lt
theorem CmdIn.more {w:World} {X:Nat→Prop} {cb n m:Nat} (h:CmdIn w X cb n) (hm:n≤m):CmdIn w X cb m:=by
 obtain ⟨k,a,b,t,i,body,els,AF,cF,AA,cA,AB,cB,AE,cE,h0,h1,h2,h3,h4,hn⟩:=h;exact ⟨k,a,b,t,i,body,els,AF,cF,AA,cA,AB,cB,AE,cE,h0,h1,h2,h3,h4,by omega⟩
theorem CmdIn.simple {w:World} {X:Nat→Prop} {cb:Nat} {k a b:Int} (h:Blk w cb tC #[.int .i64 k,.int .i64 a,.int .i64 b,.bool false,.int .i64 0,.int .i64 0,.slice none 0 0,.slice none 0 0,.slice none 0 0,.slice none 0 0]):CmdIn w X cb 0:=
 ⟨k,a,b,⟨false,0,0⟩,⟨[],[]⟩,.nil,.nil,none,0,none,0,none,0,none,0,h,RwX.none ..,RwX.none ..,PartX.nil _,PartX.nil _,by simp[Cms.len,Cms.cost]⟩
theorem CmsN.own_lt {w:World} {base:Nat} {v:Value} {L:Cms} (h:CmsN w base v L):∀ b,v.ownBlock=some b→base≤b∧b<w.heap.size:=by
 obtain ⟨cs,⟨hl,h2⟩,h3,h4⟩:=h;intro b hb;rcases h2 with ⟨rfl,hn⟩|⟨g,cap,cur,rfl,hg0,hg,hn,hm,hs,ht⟩
 ·simp[Value.ownBlock] at hb
 ·simp[Value.ownBlock] at hb;subst hb;exact ⟨hg0,Blk.lt hg⟩
def CpN (w:World) (lo hi:Nat) (v:Value) (L:Cms):Prop:=∃ cs,w.ownsRow lo tC 10 v L.len cs∧CmsT w (fun b=>(lo≤b∧b<hi)∧v.ownBlock≠some b) L cs∧L.len≤1049600∧(∀ g,v.ownBlock=some g→g<hi)
section
variable {w w':World} {lo hi base:Nat} {v:Value} {L:Cms} {vo vo':Option Nat}
theorem own_keep {base size n:Nat} {t:TypeId} {v:Value} {cs:List Value} (h:w.ownsRow base t size v n cs) (hk:∀ g,v.ownBlock=some g→g<w.heap.size→w'.heap[g]? = w.heap[g]?):w'.ownsRow base t size v n cs:=by
 obtain ⟨hl,h2⟩:=h;refine ⟨hl,?_⟩;rcases h2 with ⟨rfl,hn⟩|⟨g,cap,cur,rfl,hb,hg,hn,hm,hs,ht⟩
 ·exact Or.inl ⟨rfl,hn⟩
 ·have e:=hk g (by simp[Value.ownBlock]) (Blk.lt hg);exact Or.inr ⟨g,cap,cur,rfl,hb,e.trans hg,hn,hm,hs,ht⟩
theorem CmsN.cp (h:CmsN w base v L):CpN w base w.heap.size v L:=by
 have hl:=h.own_lt;obtain ⟨cs,h1,h2,h3⟩:=h;exact ⟨cs,h1,h2.mono fun b hx hl=>⟨⟨hx.1,hl⟩,hx.2⟩,h3,fun g hg=>(hl g hg).2⟩
theorem CpN.keep (h:CpN w lo hi v L) (hk:∀ b,lo≤b→b<hi→b<w.heap.size→w'.heap[b]? = w.heap[b]?):CpN w' lo hi v L:=by
 obtain ⟨cs,h1,h2,h3,h4⟩:=h
 have hge:∀ g,v.ownBlock=some g→lo≤g:=by
  obtain ⟨_,h0⟩:=h1;intro g hg;rcases h0 with ⟨rfl,hn⟩|⟨g',cap,cur,rfl,hb,_⟩
  ·simp[Value.ownBlock] at hg
  ·simp[Value.ownBlock] at hg;omega
 exact ⟨cs,own_keep h1 fun g hg hl=>hk g (hge g hg) (h4 g hg) hl,h2.keep fun b hb hl=>hk b hb.1.1 hb.1.2 hl,h3,h4⟩
theorem CpN.n (h:CpN w lo hi v L):CmsN w lo v L:=by
 obtain ⟨cs,h1,h2,h3,h4⟩:=h;exact ⟨cs,h1,h2.mono fun b hx _=>⟨hx.1.1,hx.2⟩,h3⟩
theorem CpN.part {A:Option Addr} {n c:Nat} (h:CpN w lo hi (.slice A n c) L):PartX w (fun b=>lo≤b∧b<hi) A L:=fun hl=>by
 obtain ⟨cs,⟨hlen,h2⟩,h3,h4,h5⟩:=h;rcases h2 with ⟨e,hn⟩|⟨g,cap,cur,e,hb,hg,hn,hm,hs,ht⟩
 ·omega
 ·injection e with e1 e2 e3;subst e1;refine ⟨g,0,rfl,⟨hb,h5 g (by simp[Value.ownBlock])⟩,(CmsT.x h3 fun j u hu=>?_).mono fun b hx _=>hx.1⟩;rw[Nat.zero_add,cell_of_row w g j cur tC (0,0) hg];rw[←ht,List.getElem?_take] at hu
  split at hu
  ·simpa using hu
  ·cases hu
end
theorem below_ten {a w:World} {cb:Nat} {v0 v1 v2 v3 v4 v5 v6 v7 v8 v9:Value} (h:Below a.heap.size a w) (hc:a.heap.size≤cb):Below a.heap.size a (((((((((((w).setCell ⟨cb,0,none⟩ v0).setCell ⟨cb,1,none⟩ v1).setCell ⟨cb,2,none⟩ v2).setCell ⟨cb,3,none⟩ v3).setCell ⟨cb,4,none⟩ v4).setCell ⟨cb,5,none⟩ v5).setCell ⟨cb,6,none⟩ v6).setCell ⟨cb,7,none⟩ v7).setCell ⟨cb,8,none⟩ v8).setCell ⟨cb,9,none⟩ v9):=by
 iterate 10 (refine Below.setCell ?_ (by simp only;exact hc) _)
 exact h
theorem own_ten {w:World} {cb base size n:Nat} {t e:TypeId} {v:Value} {xs:List Value} {cs:Array Value} {v0 v1 v2 v3 v4 v5 v6 v7 v8 v9:Value} (h:w.ownsRow base e size v n xs) (hk:Blk w cb t cs) (ht:t≠e):World.ownsRow (((((((((((w).setCell ⟨cb,0,none⟩ v0).setCell ⟨cb,1,none⟩ v1).setCell ⟨cb,2,none⟩ v2).setCell ⟨cb,3,none⟩ v3).setCell ⟨cb,4,none⟩ v4).setCell ⟨cb,5,none⟩ v5).setCell ⟨cb,6,none⟩ v6).setCell ⟨cb,7,none⟩ v7).setCell ⟨cb,8,none⟩ v8).setCell ⟨cb,9,none⟩ v9) base e size v n xs:=by
 refine own_keep h fun g hg _=>ten0_far fun e0=>?_;obtain ⟨_,h2⟩:=h;rcases h2 with ⟨rfl,_⟩|⟨g',cap,cur,rfl,_,hh,_⟩
 ·simp[Value.ownBlock] at hg
 ·simp only[Value.ownBlock,Option.some.injEq] at hg;subst hg e0;exact Blk.ne_ hk hh ht rfl
theorem c_l8Assign (x y:Bs) (w:World) (hx:x.length≤2000000) (hy:y.length≤2000000):Calls Tryz.prog 279 #[sv x,sv y] w fun e w'=>e=.returned (.agg (simC (asgnPF x y).k (asgnPF x y).a (asgnPF x y).b))∧Below w.heap.size w w':=by
 have c1:=ax (fun w=>c_l8Bare x w hx);have c2:=ax (fun w=>c_l8Bare y w hy);have hA:aJ (asgnPF x y=⟨if (bareL y).2 then 2 else if (bareL x).2 then 3 else 1,pT (bareL x).1,pT (bareL y).1,fctZ,⟨[],[]⟩⟩):=ax rfl;have hta:=ax (show pT (bareL x).1=(((parseT (bareL x).1).getD 0:Nat):Int) from rfl);have htb:=ax (show pT (bareL y).1=(((parseT (bareL y).1).getD 0:Nat):Int) from rfl);obtain ⟨bx,hbx⟩:∃ b,b=(bareL x).2:=⟨_,rfl⟩;obtain ⟨by',hby⟩:∃ b,b=(bareL y).2:=⟨_,rfl⟩;obtain ⟨sx,hsx⟩:∃ b,b=(bareL x).1:=⟨_,rfl⟩;obtain ⟨sy,hsy⟩:∃ b,b=(bareL y).1:=⟨_,rfl⟩;rw[←hbx,←hsx] at c1;rw[←hby,←hsy] at c2;rw[←hbx,←hby,←hsx,←hsy] at hA;rw[←hsx] at hta;rw[←hsy] at htb;clear hbx hby hsx hsy;obtain ⟨ta,hta2⟩:∃ t:Int,t=pT sx:=⟨_,rfl⟩;obtain ⟨tb,htb2⟩:∃ t:Int,t=pT sy:=⟨_,rfl⟩;rw[←hta2] at hA hta;rw[←htb2] at hA htb;clear hta2 htb2;have k0:Blk (w.alloc (.cells (simC 0 0 0) tC)) w.heap.size tC (simC 0 0 0):=Blk.new _ _ _;(go_enter Tryz.func279,Tryz.ntmps279);(go_wp2_with fail);refine (c1.o _).mono ?_;rintro e w1 ⟨rfl,hB1⟩;replace k0:=k0.nz hB1;have HB1:=ax (bgo (w:=w) (bel:Below w.heap.size w (w.alloc (.cells (simC 0 0 0) tC))) hB1);clear hB1;(go_wp2_with fail);refine (c2.o _).mono ?_;rintro e w2 ⟨rfl,hB2⟩;replace k0:=k0.nz hB2;have HB2:=ax (bgo HB1.o hB2);clear hB2 HB1;(go_wp2_with fail);refine (c_ParseTerm sx _).mono ?_;rintro e w3 ⟨rfl,rfl⟩;rw[←hta.o];(go_wp2_with fail);refine (c_ParseTerm sy _).mono ?_;rintro e w3 ⟨rfl,rfl⟩;rw[←htb.o];have q0:=k0.cell;have r0:=k0.frozen;have l0:=k0.lt;unfold simC at q0 k0;cases by'
 ·cases bx
  ·(go_wp2_with fail);refine retW (D:=fun T=>Blk T w.heap.size tC (simC 1 ta tb)∧Below w.heap.size w T) ⟨ten0 k0,below_ten HB2.o (Nat.le_refl _)⟩ ?_;rintro T ⟨kT,r1⟩;have t:=kT.cell;exact bodyPost_ret (v:=.agg (simC 1 ta tb)) (by simp[results,Tryz.results279,go_sem,simC,t]) rfl ⟨by rw[hA.o];rfl,r1⟩
  ·(go_wp2_with fail);refine retW (D:=fun T=>Blk T w.heap.size tC (simC 3 ta tb)∧Below w.heap.size w T) ⟨ten0 k0,below_ten HB2.o (Nat.le_refl _)⟩ ?_;rintro T ⟨kT,r1⟩;have t:=kT.cell;exact bodyPost_ret (v:=.agg (simC 3 ta tb)) (by simp[results,Tryz.results279,go_sem,simC,t]) rfl ⟨by rw[hA.o];rfl,r1⟩
 ·cases bx
  ·(go_wp2_with fail);refine retW (D:=fun T=>Blk T w.heap.size tC (simC 2 ta tb)∧Below w.heap.size w T) ⟨ten0 k0,below_ten HB2.o (Nat.le_refl _)⟩ ?_;rintro T ⟨kT,r1⟩;have t:=kT.cell;exact bodyPost_ret (v:=.agg (simC 2 ta tb)) (by simp[results,Tryz.results279,go_sem,simC,t]) rfl ⟨by rw[hA.o];rfl,r1⟩
  ·(go_wp2_with fail);refine retW (D:=fun T=>Blk T w.heap.size tC (simC 2 ta tb)∧Below w.heap.size w T) ⟨ten0 k0,below_ten HB2.o (Nat.le_refl _)⟩ ?_;rintro T ⟨kT,r1⟩;have t:=kT.cell;exact bodyPost_ret (v:=.agg (simC 2 ta tb)) (by simp[results,Tryz.results279,go_sem,simC,t]) rfl ⟨by rw[hA.o];rfl,r1⟩
end
end Go.Proofs.YtjaohekkmlkinaaGreat
