/- Programs: the laws' own helpers: the size. -/
import Derived.Test.YtjaohekkmlkinaaGreatMaKit
set_option linter.unusedSimpArgs false
set_option linter.unusedVariables false
set_option maxRecDepth 100000
set_option maxHeartbeats 25600000
namespace Go.Proofs.YtjaohekkmlkinaaGreat
section
open Go Go.RowKit Go.Proofs
def Cms.sz:Cms→Nat
 | .nil=>0
 | .cons _ _ _ _ _ body els r=>body.sz+els.sz+r.sz+1
theorem Cms.sz_drop:∀ (n:Nat) (L:Cms),(L.drop n).sz≤L.sz
 | 0,L=>Nat.le_refl _
 | n+1,.nil=>Nat.le_refl _
 | n+1,.cons _ _ _ _ _ _ _ r=>by simp only[Cms.drop,Cms.sz];have:=Cms.sz_drop n r;omega
theorem szL_add {m n:Nat} {left:Int} (h:¬szL m left<0):szL n (szL m left)=szL (m+n) left:=by
 have:=szL_le h;rw[this.1];unfold szL;have:left - (m:Int) - n=left - ((m+n:Nat):Int):=by omega
 rw[this]
theorem szL_more {m n:Nat} {left:Int} (h:szL m left<0):szL (m+n) left = -1:=by
 unfold szL at h ⊢;split at h
 ·rw[if_pos (by omega)]
 ·omega
theorem szA_eq {a:Asn} {left:Int}:szA a left=szL (a.facts.length+a.atoms.length) left:=by
 unfold szA;split
 ·rename_i h;rw[szL_more h]
 ·rename_i h;rw[szL_add h]
def cost1 (i:Asn) (body els:Cms):Nat:=i.facts.length+i.atoms.length+(body.len+body.cost)+(els.len+els.cost)
theorem c_szCmd (k a b:Int) (t:Fct) (i:Asn) (A1 A2 A3 A4:Option Addr) (c1 c2 c3 c4:Nat) (body els:Cms) (left:Int) (w:World)
  (hb:CmsV w 0 w.heap.size A3 body) (he:CmsV w 0 w.heap.size A4 els) (h1:i.facts.length≤9223372036854775807) (h2:i.atoms.length≤9223372036854775807) (hl0:0≤left) (hl1:left≤1048576)
  (IB:∀ (left:Int) (w:World),CmsV w 0 w.heap.size A3 body→0≤left→left≤1048576→Calls Tryz.prog 53 #[.slice A3 body.len c3,.int .i64 left] w fun e w'=>e=.returned (.int .i64 (szL (body.len+body.cost) left))∧Below w.heap.size w w')
  (IE:∀ (left:Int) (w:World),CmsV w 0 w.heap.size A4 els→0≤left→left≤1048576→Calls Tryz.prog 53 #[.slice A4 els.len c4,.int .i64 left] w fun e w'=>e=.returned (.int .i64 (szL (els.len+els.cost) left))∧Below w.heap.size w w') :
  Calls Tryz.prog 10 #[.agg #[.int .i64 k,.int .i64 a,.int .i64 b,.bool t.eq,.int .i64 t.a,.int .i64 t.b,.slice A1 i.facts.length c1,.slice A2 i.atoms.length c2,.slice A3 body.len c3,.slice A4 els.len c4],.int .i64 left] w fun e w'=>
   e=.returned (.int .i64 (szL (cost1 i body els) left))∧Below w.heap.size w w':=by
 obtain ⟨m0,hm0⟩:∃ m0,m0=i.facts.length+i.atoms.length:=⟨_,rfl⟩;obtain ⟨m1,hm1⟩:∃ m1,m1=body.len+body.cost:=⟨_,rfl⟩;obtain ⟨m2,hm2⟩:∃ m2,m2=els.len+els.cost:=⟨_,rfl⟩;rw[←hm1] at IB;rw[←hm2] at IE;obtain ⟨x0,hx0⟩:∃ x0,x0=szL m0 left:=⟨_,rfl⟩;obtain ⟨x1,hx1⟩:∃ x1,x1=szL m1 x0:=⟨_,rfl⟩;obtain ⟨x2,hx2⟩:∃ x2,x2=szL m2 x1:=⟨_,rfl⟩;have b0:¬x0<0→x0≤1048576:=fun h=>by rw[hx0] at h ⊢;have:=szL_le h;omega
 have b1:¬x0<0→¬x1<0→x1≤1048576:=fun h0 h=>by have:=b0 h0;rw[hx1] at h ⊢;have:=szL_le h;omega
 have ea:szA i left=x0:=by rw[szA_eq,hx0,hm0]
 have r1:x0<0→szL (cost1 i body els) left = -1:=fun h=>by
  rw[show cost1 i body els=m0+(m1+m2) from by unfold cost1;omega];exact szL_more (by rw[←hx0];exact h)
 have r2:¬x0<0→x1<0→szL (cost1 i body els) left = -1:=fun h0 h=>by
  rw[show cost1 i body els=m0+m1+m2 from by unfold cost1;omega];refine szL_more ?_;rw[←szL_add (by rw[←hx0];exact h0),←hx0,←hx1];exact h
 have r3:¬x0<0→¬x1<0→szL (cost1 i body els) left=x2:=fun h0 h=>by
  rw[show cost1 i body els=m0+m1+m2 from by unfold cost1;omega,←szL_add,←szL_add (by rw[←hx0];exact h0),←hx0,←hx1,hx2];rw[←szL_add (by rw[←hx0];exact h0),←hx0,←hx1];exact h
 have r4:x2<0→x2 = -1:=fun h=>by rw[hx2] at h ⊢;exact szL_neg h
 have hz0:=ax hx0;have hz1:=ax hx1;have hz2:=ax hx2;have hr1:=ax r1;have hr2:=ax r2;have hr3:=ax r3;have hr4:=ax r4;have hb0:=ax b0;have hb1:=ax b1;have hIB:=ax IB;have hIE:=ax IE;have hea:=ax ea;clear hm0 hm1 hm2 hx0 hx1 hx2 r1 r2 r3 r4 b0 b1 IB IE ea;generalize hR:szL (cost1 i body els) left=R at hr1 hr2 hr3 ⊢;have hRh:=ax hR;clear hR;have hHb:=ax hb;have hHe:=ax he;clear hb he;obtain ⟨B0,hB0e⟩:∃ B0,B0=w.heap.size:=⟨_,rfl⟩;(go_enter Tryz.func10,Tryz.ntmps10);(go_wp2_with fail);refine (c_szAssertion _ _ _ _ _ _ _ h1 h2 hl0 hl1).mono ?_;rintro e w1 ⟨rfl,hB1⟩;rw[hea.o];have hB:=bgo (w:=w) bel hB1;have k0:=(Blk.new w _ _).nz hB1;have q:=k0.cell;have r:=k0.frozen;have lt:=k0.lt;by_cases q0:x0<0
 ·(go_wp2_with fail);go_ret;exact ⟨ret_int (by rw[hr1.o (by omega)]),bel⟩
 have g0:=hb0.o (by omega);(go_wp2_with fail);refine (hIB.o _ _ (hHb.o.bz bel |>.mono (Nat.le_refl _) (by have:=hB.size;first|omega|(simp;omega))) (by omega) g0).mono ?_;rintro e w2 ⟨rfl,hB2⟩;rw[←hz1.o];have hBB:=bgo (w:=w) bel hB2;have k1:=k0.nz hB2;clear q r lt;have q:=k1.cell;have r:=k1.frozen;have lt:=k1.lt;by_cases q1:x1<0
 ·(go_wp2_with fail);go_ret;exact ⟨ret_int (by rw[hr2.o (by omega) (by omega)]),bel⟩
 have g1:=hb1.o (by omega) (by omega);(go_wp2_with fail);refine (hIE.o _ _ (hHe.o.bz bel |>.mono (Nat.le_refl _) (by have:=hBB.size;first|omega|(simp;omega))) (by omega) g1).mono ?_;rintro e w3 ⟨rfl,hB3⟩;rw[←hz2.o];have hBBB:=bgo (w:=w) bel hB3;by_cases q2:x2<0
 ·(go_wp2_with fail);go_ret;exact ⟨ret_int (by rw[hr3.o (by omega) (by omega),hr4.o (by omega)]),bel⟩
 ·(go_wp2_with fail);go_ret;exact ⟨ret_int (by rw[hr3.o (by omega) (by omega)]),bel⟩
theorem szCmdS_go:∀ (N:Nat) (L:Cms),L.sz<N→∀ (A:Option Addr) (c:Nat) (left:Int) (w:World),CmsV w 0 w.heap.size A L→L.len≤9223372036854775807→L.small 9223372036854775807→0≤left→left≤1048576→
  Calls Tryz.prog 53 #[.slice A L.len c,.int .i64 left] w fun e w'=>e=.returned (.int .i64 (szL (L.len+L.cost) left))∧Below w.heap.size w w':=by
 intro N
 induction N with
 | zero=>intro L h;omega
 | succ N IH=>
  intro L hsz A c left w hV hlen hsm hl0 hl1;replace IH:=ax IH;replace hV:=ax hV;replace hsm:=ax hsm;replace hsz:=ax hsz;obtain ⟨n,hn⟩:∃ n,n=L.len:=⟨_,rfl⟩;obtain ⟨tot,htot⟩:∃ tot,tot=n+L.cost:=⟨_,rfl⟩;obtain ⟨R,hR⟩:∃ R,R=szL tot left:=⟨_,rfl⟩;rw[←hn,←htot,←hR];rw[←hn] at hlen;have hRneg:left<tot→R = -1:=fun h=>by rw[hR];unfold szL;rw[if_pos (by omega)]
  have hRpos:¬left<tot→R=left - tot:=fun h=>by rw[hR];unfold szL;rw[if_neg (by omega)]
  replace htot:=ax htot;replace hR:=ax hR;replace hRneg:=ax hRneg;replace hRpos:=ax hRpos;replace hn:=ax hn;by_cases q0:left - n<0
  ·(go_enter Tryz.func53,Tryz.ntmps53);(go_wp2_with fail);go_ret;exact ⟨ret_int (by rw[hRneg.o (by have:=htot.o;omega)]),bel⟩
  (go_enter Tryz.func53,Tryz.ntmps53);(go_wp2_with fail)
  go_loopw [1,5] (fun x i wr=>∃ (j m:Nat),j≤n∧i=.int .i64 j∧x=.int .i64 (left - m)∧0≤left - m∧aJ (m+(L.drop j).cost=tot)∧Below w.heap.size w wr) (fun _ i _=>n - (intOf i).toNat)
  case atStart=>exact ⟨0,n,Nat.zero_le _,rfl,rfl,by omega,ax htot.o.symm,bel⟩
  case round=>
   obtain ⟨j,m,hj,rfl,rfl,hm0,hM,hB⟩:=hrel;by_cases hlt:j<n
   ·have hpos:0<(L.drop j).len:=by rw[Cms.drop_len,←hn.o];omega
    obtain ⟨k,a,b,t,i,body,els,r,eL⟩:=Cms.cons_of_len hpos;obtain ⟨bl,o,rfl,-,-,hAt⟩:=(hV.o.bz hB) (by rw[←hn.o];omega);have hD:=hAt.drop j;have hS:=Cms.small_drop j hsm.o;have hZ:=Cms.sz_drop j L;have hDs:=Cms.drop_succ j L eL;have hM':=hM.o;rw[eL] at hD hS hZ hM';obtain ⟨⟨p0,p1,p2,p3,p4,p5⟩,⟨A6,c6,p6,-⟩,⟨A7,c7,p7,-⟩,⟨A8,c8,p8,g8⟩,⟨A9,c9,p9,g9⟩,-⟩:=hD;obtain ⟨s1,s2,s3,s4,s5,s6,-⟩:=hS;simp only[Cms.sz] at hZ;have hbs:body.sz<N:=by have:=hsz.o;omega
    have hes:els.sz<N:=by have:=hsz.o;omega
    have hM2:m+cost1 i body els+r.cost=tot:=by simp only[Cms.cost] at hM';unfold cost1;omega
    replace hM2:=ax hM2;replace hbs:=ax hbs;replace hes:=ax hes;replace s3:=ax s3;replace s4:=ax s4;replace s5:=ax s5;replace s6:=ax s6;replace g8:=ax g8;replace g9:=ax g9;replace hDs:=ax hDs;replace eL:=ax eL;clear hM' hZ hpos hAt;(go_wp2_with fail);refine (c_szCmd k a b t i A6 A7 A8 A9 c6 c7 c8 c9 body els (left - m) wr ((show CmsV wr 0 w.heap.size A8 body from g8.o).mono (Nat.le_refl _) hB.size) ((show CmsV wr 0 w.heap.size A9 els from g9.o).mono (Nat.le_refl _) hB.size) s1 s2 (by omega) (by omega) (fun left w h1 h2 h3=>IH.o body hbs.o _ _ _ _ h1 s3.o s5.o h2 h3) (fun left w h1 h2 h3=>IH.o els hes.o _ _ _ _ h1 s4.o s6.o h2 h3)).mono ?_;rintro e w2 ⟨rfl,hB2⟩;have hB3:=bgo hB hB2;clear p0 p1 p2 p3 p4 p5 p6 p7 p8 p9;by_cases q1:szL (cost1 i body els) (left - m)<0
    ·(go_wp2_with fail);go_ret;refine ⟨ret_int ?_,hB3⟩;rw[hRneg.o ?_];have:=hM2.o;unfold szL at q1;split at q1<;>omega
    ·have q2:=szL_le q1;rw[q2.1] at q1 ⊢;have q2:=q2.2;(go_wp2_with fail)
     go_round
     case rel=>exact ⟨j+1,m+cost1 i body els,by omega,by go_num,by push_cast;congr 1;omega,by push_cast;omega,ax (by rw[hDs.o];exact hM2.o),hB3⟩
     case measure=>simp[intOf];omega
   ·(go_wp2_with fail);go_ret;obtain rfl:j=n:=by omega
    have e0:(L.drop j).cost=0:=by
     have:=Cms.drop_len j L;rw[←hn.o,Nat.sub_self] at this
     cases h:L.drop j with
     | nil=>rfl
     | cons=>rw[h] at this;simp[Cms.len] at this
    have hM':=hM.o;rw[e0] at hM';exact ⟨ret_int (by rw[hRpos.o (by omega)];omega),hB⟩
theorem c_szCmdS (L:Cms) (A:Option Addr) (c:Nat) (left:Int) (w:World) (hV:CmsV w 0 w.heap.size A L) (hlen:L.len≤9223372036854775807) (hsm:L.small 9223372036854775807) (h0:0≤left) (h1:left≤1048576) :
  Calls Tryz.prog 53 #[.slice A L.len c,.int .i64 left] w fun e w'=>e=.returned (.int .i64 (szL (L.len+L.cost) left))∧Below w.heap.size w w':=
 szCmdS_go _ L (Nat.lt_succ_self _) A c left w hV hlen hsm h0 h1
abbrev tC:Nat:=44
theorem infoC:(Tryz.prog.info? tC).map (fun i=>(i.zero,i.size,i.bytes))=some (some (.agg #[.int .i64 0,.int .i64 0,.int .i64 0,.bool false,.int .i64 0,.int .i64 0,.slice none 0 0,.slice none 0 0,.slice none 0 0,.slice none 0 0]),10,144):=by kernel_rfl
def Ten (cs:Array Value) (o:Nat) (k a b:Int) (t:Fct) (vF vA vB vE:Value):Prop:=
 cs[o]? = some (.int .i64 k)∧cs[o+1]? = some (.int .i64 a)∧cs[o+2]? = some (.int .i64 b)∧cs[o+3]? = some (.bool t.eq)∧cs[o+4]? = some (.int .i64 t.a)∧cs[o+5]? = some (.int .i64 t.b)∧
  cs[o+6]? = some vF∧cs[o+7]? = some vA∧cs[o+8]? = some vB∧cs[o+9]? = some vE
def CmsOAt (w:World):Cms→Array Value→Nat→Nat→Nat→Prop
 | .nil,_,_,lo,hi=>lo≤hi
 | .cons k a b t i body els r,cs,o,lo,hi=>∃ vF vA gB gE csB csE m1 m2 m3,Ten cs o k a b t vF vA (.slice (some ⟨gB,0,none⟩) body.len body.len) (.slice (some ⟨gE,0,none⟩) els.len els.len)∧
   (lo≤m1∧AsnI w lo m1 (.agg #[vF,vA]) i)∧
   (m1≤gB∧Blk w gB tC csB∧csB.size=body.len * 10∧body.len≤1049600∧CmsOAt w body csB 0 (gB+1) m2)∧
   (m2≤gE∧Blk w gE tC csE∧csE.size=els.len * 10∧els.len≤1049600∧CmsOAt w els csE 0 (gE+1) m3)∧
   CmsOAt w r cs (o+10) m3 hi
def CmsO (w:World) (lo hi:Nat) (v:Value) (L:Cms):Prop:=∃ g cs,v=.slice (some ⟨g,0,none⟩) L.len L.len∧lo≤g∧Blk w g tC cs∧cs.size=L.len * 10∧L.len≤1049600∧CmsOAt w L cs 0 (g+1) hi
section
variable {w w':World} {lo hi lo' hi':Nat}
theorem CmsOAt.le:∀ {L:Cms} {cs:Array Value} {o lo hi:Nat},CmsOAt w L cs o lo hi→lo≤hi
 | .nil,_,_,_,_,h=>h
 | .cons k a b t i body els r,cs,o,lo,hi,h=>by
  obtain ⟨vF,vA,gB,gE,csB,csE,m1,m2,m3,hT,⟨h1,_⟩,⟨h2,_,_,_,h3⟩,⟨h4,_,_,_,h5⟩,h6⟩:=h;have e1:=CmsOAt.le h3;have e2:=CmsOAt.le h5;have e3:=CmsOAt.le h6;omega
theorem CmsOAt.mono:∀ {L:Cms} {cs:Array Value} {o lo hi:Nat},CmsOAt w L cs o lo hi→hi≤hi'→CmsOAt w L cs o lo hi'
 | .nil,_,_,_,_,h,e=>Nat.le_trans h e
 | .cons k a b t i body els r,cs,o,lo,hi,h,e=>by
  obtain ⟨vF,vA,gB,gE,csB,csE,m1,m2,m3,hT,h1,h2,h4,h6⟩:=h;exact ⟨vF,vA,gB,gE,csB,csE,m1,m2,m3,hT,h1,h2,h4,CmsOAt.mono h6 e⟩
theorem CmsOAt.bz (hb:Below w.heap.size w w'):∀ {L:Cms} {cs:Array Value} {o lo hi:Nat},CmsOAt w L cs o lo hi→CmsOAt w' L cs o lo hi
 | .nil,_,_,_,_,h=>h
 | .cons k a b t i body els r,cs,o,lo,hi,h=>by
  obtain ⟨vF,vA,gB,gE,csB,csE,m1,m2,m3,hT,⟨h1,h1'⟩,⟨h2,k2,z2,l2,h3⟩,⟨h4,k4,z4,l4,h5⟩,h6⟩:=h;exact ⟨vF,vA,gB,gE,csB,csE,m1,m2,m3,hT,⟨h1,h1'.bz hb⟩,⟨h2,k2.nz hb,z2,l2,CmsOAt.bz hb h3⟩,⟨h4,k4.nz hb,z4,l4,CmsOAt.bz hb h5⟩,CmsOAt.bz hb h6⟩
theorem CmsOAt.mk {a b:Nat} (hb:Mk (fun g=>a≤g∧g<b) w w'):∀ {L:Cms} {cs:Array Value} {o lo hi:Nat},CmsOAt w L cs o lo hi→(hi≤a∨b≤lo)→CmsOAt w' L cs o lo hi
 | .nil,_,_,_,_,h,_=>h
 | .cons k a' b' t i body els r,cs,o,lo,hi,h,hd=>by
  obtain ⟨vF,vA,gB,gE,csB,csE,m1,m2,m3,hT,⟨h1,h1'⟩,⟨h2,k2,z2,l2,h3⟩,⟨h4,k4,z4,l4,h5⟩,h6⟩:=h;have e1:=CmsOAt.le h3;have e2:=CmsOAt.le h5;have e3:=CmsOAt.le h6;exact ⟨vF,vA,gB,gE,csB,csE,m1,m2,m3,hT,⟨h1,h1'.mk hb (by omega)⟩,⟨h2,hb.blk k2 (by omega),z2,l2,CmsOAt.mk hb h3 (by omega)⟩,⟨h4,hb.blk k4 (by omega),z4,l4,CmsOAt.mk hb h5 (by omega)⟩,CmsOAt.mk hb h6 (by omega)⟩
theorem CmsOAt.cells {cs':Array Value}:∀ {L:Cms} {cs:Array Value} {o lo hi:Nat},CmsOAt w L cs o lo hi→(∀ j,o≤j→j<o+L.len * 10→cs'[j]? = cs[j]?)→CmsOAt w L cs' o lo hi
 | .nil,_,_,_,_,h,_=>h
 | .cons k a b t i body els r,cs,o,lo,hi,h,hc=>by
  obtain ⟨vF,vA,gB,gE,csB,csE,m1,m2,m3,⟨t0,t1,t2,t3,t4,t5,t6,t7,t8,t9⟩,h1,h2,h4,h6⟩:=h;have hl:(Cms.cons k a b t i body els r).len=r.len+1:=rfl;rw[hl] at hc;have hx:∀ j,j<10→cs'[o+j]? = cs[o+j]?:=fun j hj=>hc _ (by omega) (by omega);exact ⟨vF,vA,gB,gE,csB,csE,m1,m2,m3,⟨(hx 0 (by omega)).trans t0,(hx 1 (by omega)).trans t1,(hx 2 (by omega)).trans t2,(hx 3 (by omega)).trans t3,(hx 4 (by omega)).trans t4,(hx 5 (by omega)).trans t5,(hx 6 (by omega)).trans t6,(hx 7 (by omega)).trans t7,(hx 8 (by omega)).trans t8,(hx 9 (by omega)).trans t9⟩,h1,h2,h4,CmsOAt.cells h6 fun j e1 e2=>hc j (by omega) (by omega)⟩
theorem CmsOAt.at_:∀ {L:Cms} {cs:Array Value} {g o lo hi:Nat},CmsOAt w L cs o lo hi→Blk w g tC cs→lo'≤lo→CmsAt w lo' w.heap.size L g o
 | .nil,_,_,_,_,_,_,_,_=>trivial
 | .cons k a b t i body els r,cs,g,o,lo,hi,h,hK,hl=>by
  obtain ⟨vF,vA,gB,gE,csB,csE,m1,m2,m3,⟨t0,t1,t2,t3,t4,t5,t6,t7,t8,t9⟩,⟨h1,h1'⟩,⟨h2,k2,z2,l2,h3⟩,⟨h4,k4,z4,l4,h5⟩,h6⟩:=h;have e1:=CmsOAt.le h3;have e2:=CmsOAt.le h5;have hc:∀ {j:Nat} {v:Value},cs[j]? = some v→w.cell? ⟨g,j,none⟩=some v:=fun {j v} h=>(hK.cell (i:=j)).trans h;obtain ⟨A1,c1,A2,c2,e,f1,f2⟩:=h1'.rj
  have e':vF=.slice A1 i.facts.length c1∧vA=.slice A2 i.atoms.length c2:=by
   injection e with e;injection e with e;injection e with ea eb;injection eb with eb;exact ⟨ea,eb⟩
  obtain ⟨rfl,rfl⟩:=e'
  exact ⟨⟨hc t0,hc t1,hc t2,hc t3,hc t4,hc t5⟩,⟨A1,c1,hc t6,f1.1.mono hl (Nat.le_refl _)⟩,⟨A2,c2,hc t7,f2.1.mono hl (Nat.le_refl _)⟩,
   ⟨_,_,hc t8,fun _=>⟨gB,0,rfl,by omega,k2.lt,CmsOAt.at_ h3 k2 (by omega)⟩⟩,⟨_,_,hc t9,fun _=>⟨gE,0,rfl,by omega,k4.lt,CmsOAt.at_ h5 k4 (by omega)⟩⟩,CmsOAt.at_ h6 hK (by omega)⟩
variable {v:Value} {L:Cms}
theorem CmsO.form (h:CmsO w lo hi v L):∃ A c,v=.slice A L.len c∧CmsV w lo w.heap.size A L:=by
 obtain ⟨g,cs,rfl,h1,hK,hs,hl,hc⟩:=h;exact ⟨_,_,rfl,fun _=>⟨g,0,rfl,h1,hK.lt,hc.at_ hK (by omega)⟩⟩
theorem CmsO.bz (h:CmsO w lo hi v L) (hb:Below w.heap.size w w'):CmsO w' lo hi v L:=by
 obtain ⟨g,cs,rfl,h1,hK,hs,hl,hc⟩:=h;exact ⟨g,cs,rfl,h1,hK.nz hb,hs,hl,hc.bz hb⟩
theorem CmsO.mk {a b:Nat} (h:CmsO w lo hi v L) (hb:Mk (fun g=>a≤g∧g<b) w w') (hd:hi≤a∨b≤lo):CmsO w' lo hi v L:=by
 obtain ⟨g,cs,rfl,h1,hK,hs,hl,hc⟩:=h;have e:=hc.le;exact ⟨g,cs,rfl,h1,hb.blk hK (by omega),hs,hl,hc.mk hb (by omega)⟩
theorem CmsO.mono (h:CmsO w lo hi v L) (e1:lo'≤lo) (e2:hi≤hi'):CmsO w lo' hi' v L:=by
 obtain ⟨g,cs,rfl,h1,hK,hs,hl,hc⟩:=h;exact ⟨g,cs,rfl,by omega,hK,hs,hl,hc.mono e2⟩
theorem CmsO.len (h:CmsO w lo hi v L):L.len≤1049600:=by
 obtain ⟨g,cs,rfl,h1,hK,hs,hl,hc⟩:=h;exact hl
end
theorem AsnI.lo_ {w:World} {lo lo' hi:Nat} {v:Value} {x:Asn} (h:AsnI w lo hi v x) (hl:lo'≤lo):AsnI w lo' hi v x:=by
 obtain ⟨fv,av,e,h1,h2⟩:=h;exact ⟨fv,av,e,⟨h1.1.bq hl,h1.2⟩,⟨h2.1.bq hl,h2.2⟩⟩
theorem c_toCmd {lo hi:Nat} (k a b:Int) (t:Fct) (i:Asn) (A1 A2 A3 A4:Option Addr) (c1 c2 c3 c4:Nat) (body els:Cms) (w:World)
  (ha:AsnV w lo hi (.agg #[.slice A1 i.facts.length c1,.slice A2 i.atoms.length c2]) i) (hb:CmsV w lo hi A3 body) (he:CmsV w lo hi A4 els)
  (IB:∀ (w:World),CmsV w lo hi A3 body→Calls Tryz.prog 61 #[.slice A3 body.len c3] w fun e w'=>∃ v,e=.returned v∧CmsO w' w.heap.size w'.heap.size v body∧Below w.heap.size w w')
  (IE:∀ (w:World),CmsV w lo hi A4 els→Calls Tryz.prog 61 #[.slice A4 els.len c4] w fun e w'=>∃ v,e=.returned v∧CmsO w' w.heap.size w'.heap.size v els∧Below w.heap.size w w') :
  Calls Tryz.prog 13 #[.agg #[.int .i64 k,.int .i64 a,.int .i64 b,.bool t.eq,.int .i64 t.a,.int .i64 t.b,.slice A1 i.facts.length c1,.slice A2 i.atoms.length c2,.slice A3 body.len c3,.slice A4 els.len c4]] w fun e w'=>
   ∃ vF vA vB vE m1 m2 m3,e=.returned (.agg #[.int .i64 k,.int .i64 a,.int .i64 b,.bool t.eq,.int .i64 t.a,.int .i64 t.b,vF,vA,vB,vE])∧w.heap.size≤m1∧AsnI w' w.heap.size m1 (.agg #[vF,vA]) i∧CmsO w' m1 m2 vB body∧CmsO w' m2 m3 vE els∧m3≤w'.heap.size∧Below w.heap.size w w':=by
 replace IB:=ax IB;replace IE:=ax IE;replace ha:=ax ha;replace hb:=ax hb;replace he:=ax he;(go_enter Tryz.func13,Tryz.ntmps13);(go_wp2_with fail);refine (c_toFact t _).mono ?_;rintro e w1 ⟨rfl,hB1⟩;have hz1:=hB1.size;have hB:=bgo (w:=w) bel hB1;have k0:=(((Blk.new w _ _).alloc _).alloc _).nz hB1;have k1:=((Blk.new (w.alloc _) _ _).alloc _).nz hB1;have k2:=(Blk.new ((w.alloc _).alloc _) _ _).nz hB1;simp only[World.size_alloc] at k1 k2 hz1;clear hB1;have q0:=k0.cell;have q2:=k2.cell;have r2:=k2.frozen;have l0:=k0.lt;(go_wp2_with fail);clear q0 q2 r2;refine (c_toAssertion _ i _ (ha.o.bz bel)).mono ?_;rintro e w2 ⟨v2,rfl,ho2,hB2⟩;have hz2:=hB2.size;simp only[World.size_setCell] at hz2;have m0:=Blk.nz (g:=w.heap.size) blks hB2;have m1:=Blk.nz (g:=w.heap.size+1) blks hB2;have m2:=Blk.nz (g:=w.heap.size+1+1) blks hB2;have hBw2:=bgo (w:=w) bel hB2;replace ho2:=ho2.I;simp only[World.size_setCell] at ho2;obtain ⟨vF,vA,rfl,oF,oA⟩:=ho2;obtain ⟨AF,cF,rfl⟩:=oF.form;obtain ⟨AA,cA,rfl⟩:=oA.form;clear k0 k1 k2 hB hB2;have q0:=m0.cell;have q2:=m2.cell;have r2:=m2.frozen;have l0:=m0.lt;have oa:AsnI w2 w1.heap.size w2.heap.size (.agg #[.slice AF i.facts.length cF,.slice AA i.atoms.length cA]) i:=⟨_,_,rfl,oF,oA⟩;replace oa:=ax oa;clear oF oA;(go_wp2_with fail);clear q0 q2 r2;refine (IB.o _ (hb.o.bz bel)).mono ?_;rintro e w3 ⟨v3,rfl,ho3,hB3⟩;have hz3:=hB3.size;simp only[World.size_setCell] at hz3 ho3;have n0:=Blk.nz (g:=w.heap.size) blks hB3;have n1:=Blk.nz (g:=w.heap.size+1) blks hB3;have n2:=Blk.nz (g:=w.heap.size+1+1) blks hB3;have hBw3:=bgo (w:=w) bel hB3;have M3:Mk (fun g=>w.heap.size+1≤g∧g<w.heap.size+1+1+1) w2 w3:=Mk.trans (Mk.set (Mk.set (Mk.refl _ _) ⟨by simp,by simp⟩ _) ⟨by simp,by simp⟩ _) (Mk.below_ hB3);obtain ⟨g3,cs3,rfl,p3,K3,z3,u3,o3⟩:=ho3;have ob:CmsO w3 w2.heap.size w3.heap.size (.slice (some ⟨g3,0,none⟩) body.len body.len) body:=⟨g3,cs3,rfl,p3,K3,z3,u3,o3⟩;replace ob:=ax ob;replace M3:=ax M3;clear m0 m1 m2 hBw2 hB3 p3 K3 z3 u3 o3;have q0:=n0.cell;have q2:=n2.cell;have r2:=n2.frozen;have l0:=n0.lt;(go_wp2_with fail);clear q0 q2 r2;refine (IE.o _ (he.o.bz bel)).mono ?_;rintro e w4 ⟨v4,rfl,ho4,hB4⟩;have hz4:=hB4.size;simp only[World.size_setCell] at hz4 ho4;have j1:=Blk.nz (g:=w.heap.size+1) blks hB4;have j2:=Blk.nz (g:=w.heap.size+1+1) blks hB4;have hBw4:=bgo (w:=w) bel hB4;have M4:Mk (fun g=>w.heap.size+1≤g∧g<w.heap.size+1+1+1) w3 w4:=Mk.trans (Mk.set (Mk.refl _ _) ⟨by simp,by simp⟩ _) (Mk.below_ hB4);obtain ⟨g4,cs4,rfl,p4,K4,z4,u4,o4⟩:=ho4;have oe:CmsO w4 w3.heap.size w4.heap.size (.slice (some ⟨g4,0,none⟩) els.len els.len) els:=⟨g4,cs4,rfl,p4,K4,z4,u4,o4⟩;replace oe:=ax oe;replace M4:=ax M4;clear n0 n1 n2 hBw3 hB4 p4 K4 z4 u4 o4;have q1:=j1.cell;have r1:=j1.frozen;have q2:=j2.cell;have r2:=j2.frozen;(go_wp2_with fail)
 have M5:∀ {w5:World},Mk (fun g=>w.heap.size+1≤g∧g<w.heap.size+1+1+1) w4 w5→AsnI w5 w.heap.size w2.heap.size (.agg #[.slice AF i.facts.length cF,.slice AA i.atoms.length cA]) i∧CmsO w5 w2.heap.size w3.heap.size (.slice (some ⟨g3,0,none⟩) body.len body.len) body∧CmsO w5 w3.heap.size w4.heap.size (.slice (some ⟨g4,0,none⟩) els.len els.len) els:=fun {w5} M=>by
  refine ⟨(((oa.o.mk M3.o (by omega)).mk M4.o (by omega)).mk M (by omega)).lo_ (by omega),(ob.o.mk M4.o (by omega)).mk M (by omega),oe.o.mk M (by omega)⟩
 refine bodyPost_ret (v:=.agg #[.int .i64 k,.int .i64 a,.int .i64 b,.bool t.eq,.int .i64 t.a,.int .i64 t.b,.slice AF i.facts.length cF,.slice AA i.atoms.length cA,.slice (some ⟨g3,0,none⟩) body.len body.len,.slice (some ⟨g4,0,none⟩) els.len els.len]) (by simp[results,Tryz.results13,go_sem,q1]) rfl ?_;refine ⟨_,_,_,_,w2.heap.size,w3.heap.size,w4.heap.size,rfl,by omega,(M5 ?_).1,(M5 ?_).2.1,(M5 ?_).2.2,by simp,bel⟩
 all_goals exact Mk.set (Mk.set (Mk.set (Mk.set (Mk.set (Mk.set (Mk.set (Mk.set (Mk.set (Mk.set (Mk.set (Mk.refl _ _) ⟨by simp,by simp⟩ _) ⟨by simp,by simp⟩ _) ⟨by simp,by simp⟩ _) ⟨by simp,by simp⟩ _) ⟨by simp,by simp⟩ _) ⟨by simp,by simp⟩ _) ⟨by simp,by simp⟩ _) ⟨by simp,by simp⟩ _) ⟨by simp,by simp⟩ _) ⟨by simp,by simp⟩ _) ⟨by simp,by simp⟩ _
def Cms.take:Nat→Cms→Cms
 | 0,_=>.nil
 | _+1,.nil=>.nil
 | n+1,.cons k a b t i body els r=>.cons k a b t i body els (r.take n)
theorem Cms.take_all:∀ (L:Cms),L.take L.len=L
 | .nil=>rfl
 | .cons k a b t i body els r=>by simp only[Cms.len,Cms.take];rw[Cms.take_all r]
theorem Cms.take_len:∀ (n:Nat) (L:Cms),n≤L.len→(L.take n).len=n
 | 0,L,_=>by cases L<;>rfl
 | n+1,.nil,h=>by simp[Cms.len] at h
 | n+1,.cons k a b t i body els r,h=>by simp only[Cms.len,Cms.take] at h ⊢;rw[Cms.take_len n r (by omega)]
section
variable {w w':World}
theorem CmsOAt.lo_ {lo lo' hi o:Nat} {cs:Array Value}:∀ {L:Cms},lo'≤lo→CmsOAt w L cs o lo hi→CmsOAt w L cs o lo' hi
 | .nil,e,h=>Nat.le_trans e h
 | .cons k a b t i body els r,e,h=>by
  obtain ⟨vF,vA,gB,gE,csB,csE,m1,m2,m3,hT,⟨h1,h1'⟩,h⟩:=h;exact ⟨vF,vA,gB,gE,csB,csE,m1,m2,m3,hT,⟨by omega,h1'.lo_ e⟩,h⟩
theorem CmsOAt.snoc {cs:Array Value} {m hi:Nat} {k a b:Int} {t:Fct} {i:Asn} {body els r:Cms}:∀ {L:Cms} {j o lo:Nat},CmsOAt w (L.take j) cs o lo m→L.drop j=.cons k a b t i body els r→
  CmsOAt w (.cons k a b t i body els .nil) cs (o+j * 10) m hi→CmsOAt w (L.take (j+1)) cs o lo hi
 | .nil,0,o,lo,_,h2,_=>by cases h2
 | .nil,_+1,o,lo,_,h2,_=>by cases h2
 | .cons k' a' b' t' i' body' els' r',0,o,lo,h1,h2,h3=>by
  simp only[Cms.drop] at h2;injection h2 with e1 e2 e3 e4 e5 e6 e7 e8;subst e1 e2 e3 e4 e5 e6 e7 e8;have h4:lo≤m:=by simpa[Cms.take,CmsOAt] using h1
  simp only[Nat.zero_mul,Nat.add_zero] at h3;have:=h3.lo_ h4;simpa only[Cms.take] using this
 | .cons k' a' b' t' i' body' els' r',j+1,o,lo,h1,h2,h3=>by
  simp only[Cms.drop] at h2;simp only[Cms.take] at h1 ⊢;obtain ⟨vF,vA,gB,gE,csB,csE,m1,m2,m3,hT,p1,p2,p3,p4⟩:=h1;exact ⟨vF,vA,gB,gE,csB,csE,m1,m2,m3,hT,p1,p2,p3,CmsOAt.snoc p4 h2 (by rwa [show o+10+j * 10=o+(j+1) * 10 from by omega])⟩
def put10 (cs:Array Value) (o:Nat) (v0 v1 v2 v3 v4 v5 v6 v7 v8 v9:Value):Array Value:=((((((((((cs).setIfInBounds (o) v0).setIfInBounds (o+1) v1).setIfInBounds (o+2) v2).setIfInBounds (o+3) v3).setIfInBounds (o+4) v4).setIfInBounds (o+5) v5).setIfInBounds (o+6) v6).setIfInBounds (o+7) v7).setIfInBounds (o+8) v8).setIfInBounds (o+9) v9
theorem put10_size {cs:Array Value} {o:Nat} {v0 v1 v2 v3 v4 v5 v6 v7 v8 v9:Value}:(put10 cs o v0 v1 v2 v3 v4 v5 v6 v7 v8 v9).size=cs.size:=by simp[put10]
theorem put10_far {cs:Array Value} {o:Nat} {v0 v1 v2 v3 v4 v5 v6 v7 v8 v9:Value} {j:Nat} (h:j<o):(put10 cs o v0 v1 v2 v3 v4 v5 v6 v7 v8 v9)[j]? = cs[j]?:=by
 unfold put10
 iterate 10 rw[Array.getElem?_setIfInBounds_ne (by omega)]
theorem put10_ten {cs:Array Value} {o:Nat} (h:o+10≤cs.size) (k a b:Int) (t:Fct) (vF vA vB vE:Value):Ten (put10 cs o (.int .i64 k) (.int .i64 a) (.int .i64 b) (.bool t.eq) (.int .i64 t.a) (.int .i64 t.b) vF vA vB vE) o k a b t vF vA vB vE:=by
 have h1:o<cs.size∧o+1<cs.size∧o+2<cs.size∧o+3<cs.size∧o+4<cs.size∧o+5<cs.size∧o+6<cs.size∧o+7<cs.size∧o+8<cs.size∧o+9<cs.size:=by omega
 obtain ⟨p0,p1,p2,p3,p4,p5,p6,p7,p8,p9⟩:=h1;unfold Ten put10;refine ⟨?_,?_,?_,?_,?_,?_,?_,?_,?_,?_⟩<;>simp[Array.getElem?_setIfInBounds,p0,p1,p2,p3,p4,p5,p6,p7,p8,p9]
theorem Blk.put10 {g:Nat} {t:TypeId} {cs:Array Value} (h:Blk w g t cs) (o:Nat) (v0 v1 v2 v3 v4 v5 v6 v7 v8 v9:Value):Blk (((((((((((w).setCell ⟨g,o,none⟩ v0).setCell ⟨g,o+1,none⟩ v1).setCell ⟨g,o+2,none⟩ v2).setCell ⟨g,o+3,none⟩ v3).setCell ⟨g,o+4,none⟩ v4).setCell ⟨g,o+5,none⟩ v5).setCell ⟨g,o+6,none⟩ v6).setCell ⟨g,o+7,none⟩ v7).setCell ⟨g,o+8,none⟩ v8).setCell ⟨g,o+9,none⟩ v9) g t (Go.Proofs.YtjaohekkmlkinaaGreat.put10 cs o v0 v1 v2 v3 v4 v5 v6 v7 v8 v9):=
 ((((((((((h).set_ (o) v0).set_ (o+1) v1).set_ (o+2) v2).set_ (o+3) v3).set_ (o+4) v4).set_ (o+5) v5).set_ (o+6) v6).set_ (o+7) v7).set_ (o+8) v8).set_ (o+9) v9
theorem mkC (n:Nat) (h:Lim n) (w:World):(Instr.makeSlice 42 (.int .i64 (n:Int)) (.int .i64 (n:Int))).run Tryz.prog w=.ok (.slice (some ⟨w.heap.size,0,none⟩) n n) (w.alloc (.cells (madeCells #[.int .i64 0,.int .i64 0,.int .i64 0,.bool false,.int .i64 0,.int .i64 0,.slice none 0 0,.slice none 0 0,.slice none 0 0,.slice none 0 0] (n * 10)) tC)):=by
 obtain ⟨i,hi,hz,hs,hb⟩:=info_parts infoC;have:=run_make_rowN (P:=Tryz.prog) 42 tC i _ Tryz.underlying42 hi hz .i64 .i64 n n (Nat.le_refl _) (by rw[hb];unfold Lim at h;omega) (by unfold Lim at h;omega) w
 rwa [hs] at this
end
theorem toCmdS_go:∀ (N:Nat) (L:Cms),L.sz<N→∀ (A:Option Addr) (c:Nat) (w:World) (lo hi:Nat),CmsV w lo hi A L→L.len≤1049600→L.small 1049600→
  Calls Tryz.prog 61 #[.slice A L.len c] w fun e w'=>∃ v,e=.returned v∧CmsO w' w.heap.size w'.heap.size v L∧Below w.heap.size w w':=by
 intro N
 induction N with
 | zero=>intro L h;omega
 | succ N IH=>
  intro L hsz A c w lo hi hV hlen hsm;replace IH:=ax IH;replace hV:=ax hV;replace hsm:=ax hsm;replace hsz:=ax hsz;obtain ⟨n,hn⟩:∃ n,n=L.len:=⟨_,rfl⟩;rw[←hn] at hlen ⊢;replace hn:=ax hn;have hmk:=mkC n (by unfold Lim;omega);(go_enter Tryz.func61,Tryz.ntmps61);go_wp2;clear hmk
  go_loopw [4] (fun i wr=>∃ (j:Nat) (cs:Array Value),j≤n∧i=.int .i64 j∧aJ (cs.size=n * 10)∧Blk wr w.heap.size tC cs∧aJ (CmsOAt wr (L.take j) cs 0 (w.heap.size+1) wr.heap.size)∧Below w.heap.size w wr) (fun i _=>n - (intOf i).toNat)
  case atStart=>exact ⟨0,_,Nat.zero_le _,rfl,ax (size_madeCells _ _),Blk.new _ _ _,ax (by cases L<;>simp[Cms.take,CmsOAt]),bel⟩
  case round=>
   obtain ⟨j,cs,hj,rfl,HS,hK,HC,hB⟩:=hrel;by_cases hlt:j<n
   ·have hpos:0<(L.drop j).len:=by rw[Cms.drop_len,←hn.o];omega
    obtain ⟨k,a,b,t,i,body,els,r,eL⟩:=Cms.cons_of_len hpos;obtain ⟨bl,o,rfl,-,-,hAt⟩:=(hV.o.bz hB) (by rw[←hn.o];omega);have hD:=hAt.drop j;have hS:=Cms.small_drop j hsm.o;have hZ:=Cms.sz_drop j L;rw[eL] at hD hS hZ;obtain ⟨⟨p0,p1,p2,p3,p4,p5⟩,⟨A6,c6,p6,g6⟩,⟨A7,c7,p7,g7⟩,⟨A8,c8,p8,g8⟩,⟨A9,c9,p9,g9⟩,-⟩:=hD;obtain ⟨s1,s2,s3,s4,s5,s6,-⟩:=hS;simp only[Cms.sz] at hZ;have hbs:body.sz<N:=by have:=hsz.o;omega
    have hes:els.sz<N:=by have:=hsz.o;omega
    have ha:AsnV wr lo hi (.agg #[.slice A6 i.facts.length c6,.slice A7 i.atoms.length c7]) i:=⟨_,_,_,_,rfl,⟨g6,s1⟩,⟨g7,s2⟩⟩;replace ha:=ax ha;replace hbs:=ax hbs;replace hes:=ax hes;replace s3:=ax s3;replace s4:=ax s4;replace s5:=ax s5;replace s6:=ax s6;replace g8:=ax (show CmsV wr lo hi A8 body from g8);replace g9:=ax (show CmsV wr lo hi A9 els from g9);replace eL:=ax eL;clear hZ hpos hAt g6 g7 s1 s2;(go_wp2_with fail);refine (c_toCmd k a b t i A6 A7 A8 A9 c6 c7 c8 c9 body els wr ha.o g8.o g9.o (fun w h1=>IH.o body hbs.o _ _ _ _ _ h1 s3.o s5.o) (fun w h1=>IH.o els hes.o _ _ _ _ _ h1 s4.o s6.o)).mono ?_;rintro e w2 ⟨vF,vA,vB,vE,m1,m2,m3,rfl,e1,x1,x2,x3,e3,hB2⟩;have hK2:=hK.nz hB2;have hB3:=bgo hB hB2;have hz2:=hB2.size;have lt:=hK.lt;have HC2:=HC.o.bz hB2;obtain ⟨AF,cF,AA,cA,eF⟩:=x1.form
    have eF':vF=.slice AF i.facts.length cF∧vA=.slice AA i.atoms.length cA:=by
     injection eF with eF;injection eF with eF;injection eF with ea eb;injection eb with eb;exact ⟨ea,eb⟩
    obtain ⟨rfl,rfl⟩:=eF';clear eF;obtain ⟨gB,csB,rfl,y2⟩:=x2;obtain ⟨gE,csE,rfl,y3⟩:=x3;have x2:=ax y2;have x3:=ax y3;clear y2 y3;replace x1:=ax x1;replace HC2:=ax HC2;clear p0 p1 p2 p3 p4 p5 p6 p7 p8 p9 hK HC hB ha g8 g9;have hs:=HS.o;obtain ⟨u0,hu0⟩:∃ u,cs[j * 10]? = some u:=⟨_,Array.getElem?_eq_getElem (by omega)⟩;have q0:w2.cell? ⟨w.heap.size,j * 10,none⟩=some u0:=by rw[hK2.cell,hu0]
    obtain ⟨u1,hu1⟩:∃ u,cs[j * 10+1]? = some u:=⟨_,Array.getElem?_eq_getElem (by omega)⟩;have q1:w2.cell? ⟨w.heap.size,j * 10+1,none⟩=some u1:=by rw[hK2.cell,hu1]
    obtain ⟨u2,hu2⟩:∃ u,cs[j * 10+2]? = some u:=⟨_,Array.getElem?_eq_getElem (by omega)⟩;have q2:w2.cell? ⟨w.heap.size,j * 10+2,none⟩=some u2:=by rw[hK2.cell,hu2]
    obtain ⟨u3,hu3⟩:∃ u,cs[j * 10+3]? = some u:=⟨_,Array.getElem?_eq_getElem (by omega)⟩;have q3:w2.cell? ⟨w.heap.size,j * 10+3,none⟩=some u3:=by rw[hK2.cell,hu3]
    obtain ⟨u4,hu4⟩:∃ u,cs[j * 10+4]? = some u:=⟨_,Array.getElem?_eq_getElem (by omega)⟩;have q4:w2.cell? ⟨w.heap.size,j * 10+4,none⟩=some u4:=by rw[hK2.cell,hu4]
    obtain ⟨u5,hu5⟩:∃ u,cs[j * 10+5]? = some u:=⟨_,Array.getElem?_eq_getElem (by omega)⟩;have q5:w2.cell? ⟨w.heap.size,j * 10+5,none⟩=some u5:=by rw[hK2.cell,hu5]
    obtain ⟨u6,hu6⟩:∃ u,cs[j * 10+6]? = some u:=⟨_,Array.getElem?_eq_getElem (by omega)⟩;have q6:w2.cell? ⟨w.heap.size,j * 10+6,none⟩=some u6:=by rw[hK2.cell,hu6]
    obtain ⟨u7,hu7⟩:∃ u,cs[j * 10+7]? = some u:=⟨_,Array.getElem?_eq_getElem (by omega)⟩;have q7:w2.cell? ⟨w.heap.size,j * 10+7,none⟩=some u7:=by rw[hK2.cell,hu7]
    obtain ⟨u8,hu8⟩:∃ u,cs[j * 10+8]? = some u:=⟨_,Array.getElem?_eq_getElem (by omega)⟩;have q8:w2.cell? ⟨w.heap.size,j * 10+8,none⟩=some u8:=by rw[hK2.cell,hu8]
    obtain ⟨u9,hu9⟩:∃ u,cs[j * 10+9]? = some u:=⟨_,Array.getElem?_eq_getElem (by omega)⟩;have q9:w2.cell? ⟨w.heap.size,j * 10+9,none⟩=some u9:=by rw[hK2.cell,hu9]
    have r2:=hK2.frozen;clear hs hu0 hu1 hu2 hu3 hu4 hu5 hu6 hu7 hu8 hu9;(go_wp2_with fail);have hs:=HS.o
    go_round
    case rel=>
     refine ⟨j+1,put10 cs (j * 10) (.int .i64 k) (.int .i64 a) (.int .i64 b) (.bool t.eq) (.int .i64 t.a) (.int .i64 t.b) _ _ _ _,by omega,by go_num,ax (by rw[put10_size,hs]),Blk.put10 hK2 _ _ _ _ _ _ _ _ _ _ _,ax ?_,bel⟩
     have M:∀ {w5:World},w5.heap.size=w2.heap.size→Mk (fun g=>w.heap.size≤g∧g<w.heap.size+1) w2 w5→CmsOAt w5 (L.take (j+1)) (put10 cs (j * 10) (.int .i64 k) (.int .i64 a) (.int .i64 b) (.bool t.eq) (.int .i64 t.a) (.int .i64 t.b) (.slice AF i.facts.length cF) (.slice AA i.atoms.length cA) (.slice (some ⟨gB,0,none⟩) body.len body.len) (.slice (some ⟨gE,0,none⟩) els.len els.len)) 0 (w.heap.size+1) w5.heap.size:=fun {w5} hsz5 M=>by
      have z2:CmsO w2 m1 m2 (.slice (some ⟨gB,0,none⟩) body.len body.len) body:=⟨gB,csB,rfl,x2.o⟩;have z3:CmsO w2 m2 m3 (.slice (some ⟨gE,0,none⟩) els.len els.len) els:=⟨gE,csE,rfl,x3.o⟩;obtain ⟨g1,cs1,e1',a1,a2,a3,a4,a5⟩:=z2.mk M (by omega);have b1:=a5.le;obtain ⟨g2,cs2,e2',d1,d2,d3,d4,d5⟩:=z3.mk M (by omega);injection e1' with e1';injection e1' with e1';injection e1' with e1';subst e1';injection e2' with e2';injection e2' with e2';injection e2' with e2';subst e2';have hl5:(L.take j).len=j:=Cms.take_len j L (by rw[←hn.o];omega);refine CmsOAt.snoc ((HC2.o.mk M (by omega)).cells fun x h1 h2=>put10_far (by rw[hl5] at h2;omega)) eL.o ?_;rw[Nat.zero_add];exact ⟨_,_,gB,gE,cs1,cs2,m1,m2,m3,put10_ten (by rw[hs];omega) k a b t _ _ _ _,⟨e1,x1.o.mk M (by omega)⟩,⟨a1,a2,a3,a4,a5⟩,⟨d1,d2,d3,d4,d5⟩,by rw[hsz5];exact e3⟩
     refine M (by simp) ?_;exact Mk.set (Mk.set (Mk.set (Mk.set (Mk.set (Mk.set (Mk.set (Mk.set (Mk.set (Mk.set (Mk.refl _ _) ⟨by simp,by simp⟩ _) ⟨by simp,by simp⟩ _) ⟨by simp,by simp⟩ _) ⟨by simp,by simp⟩ _) ⟨by simp,by simp⟩ _) ⟨by simp,by simp⟩ _) ⟨by simp,by simp⟩ _) ⟨by simp,by simp⟩ _) ⟨by simp,by simp⟩ _) ⟨by simp,by simp⟩ _
    case measure=>simp[intOf];omega
   ·(go_wp2_with fail);go_ret;obtain rfl:j=n:=by omega
    have h1:=HC.o;rw[hn.o,Cms.take_all] at h1;have h2:=HS.o;have hn':=hn.o;subst hn';exact ⟨_,rfl,⟨_,cs,rfl,Nat.le_refl _,hK,h2,hlen,h1⟩,hB⟩
def eq1 (k a b:Int) (t:Fct) (i:Asn) (body els:Cms) (k' a' b':Int) (t':Fct) (i':Asn) (body' els':Cms):Bool:=decide (k=k'∧a=a'∧b=b'∧t=t'∧i=i'∧body=body'∧els=els')
theorem c_eqCmd {lo hi lo' hi':Nat} (k a b:Int) (t:Fct) (i:Asn) (A1 A2 A3 A4:Option Addr) (c1 c2 c3 c4:Nat) (body els:Cms)
  (k' a' b':Int) (t':Fct) (i':Asn) (B1 B2 B3 B4:Option Addr) (d1 d2 d3 d4:Nat) (body' els':Cms) (w:World)
  (ha:AsnV w lo hi (.agg #[.slice A1 i.facts.length c1,.slice A2 i.atoms.length c2]) i) (hb:CmsV w lo hi A3 body) (he:CmsV w lo hi A4 els)
  (ha':AsnV w lo' hi' (.agg #[.slice B1 i'.facts.length d1,.slice B2 i'.atoms.length d2]) i') (hb':CmsV w lo' hi' B3 body') (he':CmsV w lo' hi' B4 els')
  (IB:∀ (w:World),CmsV w lo hi A3 body→CmsV w lo' hi' B3 body'→Calls Tryz.prog 71 #[.slice A3 body.len c3,.slice B3 body'.len d3] w fun e w'=>e=.returned (.bool (decide (body=body')))∧Below w.heap.size w w')
  (IE:∀ (w:World),CmsV w lo hi A4 els→CmsV w lo' hi' B4 els'→Calls Tryz.prog 71 #[.slice A4 els.len c4,.slice B4 els'.len d4] w fun e w'=>e=.returned (.bool (decide (els=els')))∧Below w.heap.size w w') :
  Calls Tryz.prog 17 #[.agg #[.int .i64 k,.int .i64 a,.int .i64 b,.bool t.eq,.int .i64 t.a,.int .i64 t.b,.slice A1 i.facts.length c1,.slice A2 i.atoms.length c2,.slice A3 body.len c3,.slice A4 els.len c4],
    .agg #[.int .i64 k',.int .i64 a',.int .i64 b',.bool t'.eq,.int .i64 t'.a,.int .i64 t'.b,.slice B1 i'.facts.length d1,.slice B2 i'.atoms.length d2,.slice B3 body'.len d3,.slice B4 els'.len d4]] w fun e w'=>
   e=.returned (.bool (eq1 k a b t i body els k' a' b' t' i' body' els'))∧Below w.heap.size w w':=by
 obtain ⟨R,hR⟩:∃ R,R=eq1 k a b t i body els k' a' b' t' i' body' els':=⟨_,rfl⟩;rw[←hR];have hE:=ax (hR.trans (show eq1 k a b t i body els k' a' b' t' i' body' els'=(decide (k=k')&&(decide (a=a')&&(decide (b=b')&&(decide (t=t')&&(decide (i=i')&&(decide (body=body')&&decide (els=els'))))))) from by simp only[eq1,Bool.decide_and]));clear hR;replace IB:=ax IB;replace IE:=ax IE;replace ha:=ax ha;replace hb:=ax hb;replace he:=ax he;replace ha':=ax ha';replace hb':=ax hb';replace he':=ax he';by_cases q0:k=k'
 case neg=>
  have hq:=ax q0;(go_enter Tryz.func17,Tryz.ntmps17);(go_wp2_with fail);go_ret;exact ⟨zjD (by rw[hE.o,decide_eq_false hq.o];rfl),bel⟩
 by_cases q1:a=a'
 case neg=>
  have hq:=ax q1;have hp:=ax (decide_eq_true q0);(go_enter Tryz.func17,Tryz.ntmps17);(go_wp2_with fail);go_ret;exact ⟨zjD (by rw[hE.o,decide_eq_false hq.o,hp.o];rfl),bel⟩
 by_cases q2:b=b'
 case neg=>
  have hq:=ax q2;have hp:=ax (decide_eq_true q0);have hp1:=ax (decide_eq_true q1);(go_enter Tryz.func17,Tryz.ntmps17);(go_wp2_with fail);go_ret;exact ⟨zjD (by rw[hE.o,decide_eq_false hq.o,hp.o,hp1.o];rfl),bel⟩
 have hE2:=ax (show R=(decide (t=t')&&(decide (i=i')&&(decide (body=body')&&decide (els=els')))) from by rw[hE.o,decide_eq_true q0,decide_eq_true q1,decide_eq_true q2];rfl);clear hE;(go_enter Tryz.func17,Tryz.ntmps17);(go_wp2_with fail);refine (c_eqFact t t' _).mono ?_;rintro e w1 ⟨rfl,hB1⟩;have hB:=bgo (w:=w) bel hB1;have K0:=(Blk.nz (g:=w.heap.size) (((Blk.new w _ _).alloc _)) hB1);have K1:=(Blk.nz (g:=w.heap.size+1) (by rw[←World.size_alloc];exact Blk.new (w.alloc _) _ _) hB1);have k0:=K0.cell;have k1:=K1.cell;have l0:=K0.lt;have l1:=K1.lt;cases hd:decide (t=t')
 ·(go_wp2_with fail);go_ret;exact ⟨zjD (by rw[hE2.o,hd];rfl),hB⟩
 replace hd:=ax hd;(go_wp2_with fail);refine (c_eqAssertion _ _ i i' _ (ha.o.bz hB) (ha'.o.bz hB)).mono ?_;rintro e w2 ⟨rfl,hB2⟩;have hBB:=bgo hB hB2;have K0:=K0.nz hB2;have K1:=K1.nz hB2;clear k0 k1;have k0:=K0.cell;have k1:=K1.cell;have l0:=K0.lt;have l1:=K1.lt;cases hd2:decide (i=i')
 ·(go_wp2_with fail);go_ret;exact ⟨zjD (by rw[hE2.o,hd.o,hd2];rfl),hBB⟩
 replace hd2:=ax hd2;(go_wp2_with fail);refine (IB.o _ (hb.o.bz hBB) (hb'.o.bz hBB)).mono ?_;rintro e w3 ⟨rfl,hB3⟩;have hBBB:=bgo hBB hB3;have K0:=K0.nz hB3;have K1:=K1.nz hB3;clear k0 k1;have k0:=K0.cell;have k1:=K1.cell;have l0:=K0.lt;have l1:=K1.lt;cases hd3:decide (body=body')
 ·(go_wp2_with fail);go_ret;exact ⟨zjD (by rw[hE2.o,hd.o,hd2.o,hd3];rfl),hBBB⟩
 replace hd3:=ax hd3;(go_wp2_with fail);refine (IE.o _ (he.o.bz hBBB) (he'.o.bz hBBB)).mono ?_;rintro e w4 ⟨rfl,hB4⟩;have hB5:=bgo hBBB hB4;cases hd4:decide (els=els')
 all_goals
  (go_wp2_with fail);go_ret;exact ⟨zjD (by rw[hE2.o,hd.o,hd2.o,hd3.o,hd4];rfl),hB5⟩
theorem cms_step {L M:Cms} {j:Nat} {k a b:Int} {t:Fct} {i:Asn} {body els r:Cms} {k' a' b':Int} {t':Fct} {i':Asn} {body' els' r':Cms} (h:L.drop j=.cons k a b t i body els r) (h':M.drop j=.cons k' a' b' t' i' body' els' r') :
  decide (L.drop j=M.drop j)=(eq1 k a b t i body els k' a' b' t' i' body' els'&&decide (L.drop (j+1)=M.drop (j+1))):=by
 rw[Cms.drop_succ j L h,Cms.drop_succ j M h',h,h'];unfold eq1;rw[←Bool.decide_and];refine decide_eq_decide.2 ?_;constructor
 ·intro e;injection e with e1 e2 e3 e4 e5 e6 e7 e8;exact ⟨⟨e1,e2,e3,e4,e5,e6,e7⟩,e8⟩
 ·rintro ⟨⟨e1,e2,e3,e4,e5,e6,e7⟩,e8⟩;rw[e1,e2,e3,e4,e5,e6,e7,e8]
theorem eqCmdS_go:∀ (N:Nat) (L M:Cms),L.sz<N→∀ (A A':Option Addr) (c c':Nat) (w:World) (lo hi lo' hi':Nat),CmsV w lo hi A L→CmsV w lo' hi' A' M→L.len≤1049600→M.len≤1049600→L.small 1049600→M.small 1049600→
  Calls Tryz.prog 71 #[.slice A L.len c,.slice A' M.len c'] w fun e w'=>e=.returned (.bool (decide (L=M)))∧Below w.heap.size w w':=by
 intro N
 induction N with
 | zero=>intro L M h;omega
 | succ N IH=>
  intro L M hsz A A' c c' w lo hi lo' hi' hV hV' hlen hlen' hsm hsm';replace IH:=ax IH;replace hV:=ax hV;replace hV':=ax hV';replace hsm:=ax hsm;replace hsm':=ax hsm';replace hsz:=ax hsz;obtain ⟨n,hn⟩:∃ n,n=L.len:=⟨_,rfl⟩;obtain ⟨n',hn'⟩:∃ n',n'=M.len:=⟨_,rfl⟩;rw[←hn] at hlen;rw[←hn'] at hlen';rw[←hn,←hn'];replace hn:=ax hn;replace hn':=ax hn';obtain ⟨R,hR⟩:∃ R,R=decide (L=M):=⟨_,rfl⟩;rw[←hR];replace hR:=ax hR;by_cases hne:n=n'
  case neg=>
   have hq:=ax hne;(go_enter Tryz.func71,Tryz.ntmps71);(go_wp2_with fail);go_ret;exact ⟨zjD (by rw[hR.o];symm;rw[decide_eq_false_iff_not];intro e;exact hq.o (by rw[hn.o,hn'.o,e])),bel⟩
  subst hne;(go_enter Tryz.func71,Tryz.ntmps71);go_wp2
  go_loopw [5] (fun i wr=>∃ j:Nat,j≤n∧i=.int .i64 j∧aJ (R=decide (L.drop j=M.drop j))∧Below w.heap.size w wr) (fun i _=>n - (intOf i).toNat)
  case atStart=>exact ⟨0,Nat.zero_le _,rfl,ax hR.o,bel⟩
  case round=>
   obtain ⟨j,hj,rfl,HA,hB⟩:=hrel;by_cases hlt:j<n
   ·have hpos:0<(L.drop j).len:=by rw[Cms.drop_len,←hn.o];omega
    have hpos':0<(M.drop j).len:=by rw[Cms.drop_len,←hn'.o];omega
    obtain ⟨k,a,b,t,i,body,els,r,eL⟩:=Cms.cons_of_len hpos;obtain ⟨k',a',b',t',i',body',els',r',eM⟩:=Cms.cons_of_len hpos';obtain ⟨bl,o,rfl,-,-,hAt⟩:=(hV.o.bz hB) (by rw[←hn.o];omega);obtain ⟨bl',o',rfl,-,-,hAt'⟩:=(hV'.o.bz hB) (by rw[←hn'.o];omega);have hD:=hAt.drop j;have hD':=hAt'.drop j;have hS:=Cms.small_drop j hsm.o;have hS':=Cms.small_drop j hsm'.o;have hZ:=Cms.sz_drop j L;have hStep:=ax (HA.o.trans (cms_step eL eM));rw[eL] at hD hS hZ;rw[eM] at hD' hS';obtain ⟨⟨p0,p1,p2,p3,p4,p5⟩,⟨A6,c6,p6,g6⟩,⟨A7,c7,p7,g7⟩,⟨A8,c8,p8,g8⟩,⟨A9,c9,p9,g9⟩,-⟩:=hD;obtain ⟨⟨r0,r1,r2,r3,r4,r5⟩,⟨B6,d6,r6,f6⟩,⟨B7,d7,r7,f7⟩,⟨B8,d8,r8,f8⟩,⟨B9,d9,r9,f9⟩,-⟩:=hD';obtain ⟨s1,s2,s3,s4,s5,s6,-⟩:=hS;obtain ⟨y1,y2,y3,y4,y5,y6,-⟩:=hS';simp only[Cms.sz] at hZ;have hbs:body.sz<N:=by have:=hsz.o;omega
    have hes:els.sz<N:=by have:=hsz.o;omega
    have ha:AsnV wr lo hi (.agg #[.slice A6 i.facts.length c6,.slice A7 i.atoms.length c7]) i:=⟨_,_,_,_,rfl,⟨g6,s1⟩,⟨g7,s2⟩⟩;have ha':AsnV wr lo' hi' (.agg #[.slice B6 i'.facts.length d6,.slice B7 i'.atoms.length d7]) i':=⟨_,_,_,_,rfl,⟨f6,y1⟩,⟨f7,y2⟩⟩;have call:=fun (wd:World) (hBd:Below wr.heap.size wr wd)=>c_eqCmd k a b t i A6 A7 A8 A9 c6 c7 c8 c9 body els k' a' b' t' i' B6 B7 B8 B9 d6 d7 d8 d9 body' els' wd (ha.bz hBd) (CmsV.bz g8 hBd) (CmsV.bz g9 hBd) (ha'.bz hBd) (CmsV.bz f8 hBd) (CmsV.bz f9 hBd) (fun w h1 h2=>IH.o body body' hbs _ _ _ _ _ _ _ _ _ h1 h2 s3 y3 s5 y5) (fun w h1 h2=>IH.o els els' hes _ _ _ _ _ _ _ _ _ h1 h2 s4 y4 s6 y6);replace call:=ax call;clear hZ hpos hpos' hAt hAt' g6 g7 g8 g9 f6 f7 f8 f9 s1 s2 s3 s4 s5 s6 y1 y2 y3 y4 y5 y6 hbs hes ha ha' eL eM HA;generalize hQ:eq1 k a b t i body els k' a' b' t' i' body' els'=Q at call hStep;clear hQ;cases Q
    all_goals
     go_wp2_with fail
     go_still_tail 8,(by kernel_rfl)
     change wpList _ _ _ _ _ wr.drew
     have hBd:=hB.drew;have hBr:=(Below.refl wr.heap.size wr).drew;clear hB p0 p1 p2 p3 p4 p5 p6 p7 p8 p9 r0 r1 r2 r3 r4 r5 r6 r7 r8 r9;generalize wr.drew=wd at *;(go_wp2_with (go_at_call 17;refine (call.o _ hBr).mono ?_;rintro e w' ⟨rfl,hB2⟩))
    ·go_ret;exact ⟨zjD (by rw[hStep.o];rfl),bgo hBd hB2⟩
    ·go_round
     case rel=>exact ⟨j+1,by omega,by go_num,by show _=_;rw[hStep.o];rfl,bgo hBd hB2⟩
     case measure=>simp[intOf];omega
   ·go_wp2;go_ret;obtain rfl:j=n:=by omega
    have e1:L.drop j=.nil:=by rw[hn.o];exact Cms.drop_all L
    have e2:M.drop j=.nil:=by rw[hn'.o];exact Cms.drop_all M
    exact ⟨zjD (by rw[HA.o,e1,e2];simp),hB⟩
def Cms.marks:Cms→Nat
 | .nil=>0
 | .cons _ _ _ _ i body els r=>6+3 * i.facts.length+3 * i.atoms.length+body.marks+els.marks+r.marks
theorem Cms.marks_le:∀ (L:Cms),L.marks≤6 * (L.len+L.cost)
 | .nil=>by simp[Cms.marks]
 | .cons k a b t i body els r=>by
  have h1:=Cms.marks_le body;have h2:=Cms.marks_le els;have h3:=Cms.marks_le r;simp only[Cms.marks,Cms.len,Cms.cost];omega
def set6 (w:World) (g o:Nat) (u0 u1 u2 u3 u4 u5:Value):World:=(((((w.setCell ⟨g,o,none⟩ u0).setCell ⟨g,o+1,none⟩ u1).setCell ⟨g,o+2,none⟩ u2).setCell ⟨g,o+3,none⟩ u3).setCell ⟨g,o+3+1,none⟩ u4).setCell ⟨g,o+3+2,none⟩ u5
theorem six {w:World} {g:Nat} {cs:Array Value} (h:Blk w g tC cs) (o:Nat) (u0 u1 u2 u3 u4 u5:Value):Mk (fun x=>g≤x∧x<g+1) w (set6 w g o u0 u1 u2 u3 u4 u5)∧∃ cs',Blk (set6 w g o u0 u1 u2 u3 u4 u5) g tC cs'∧cs'.size=cs.size∧∀ x,o+6≤x→cs'[x]? = cs[x]?:=by
 refine ⟨Mk.set (Mk.set (Mk.set (Mk.set (Mk.set (Mk.set (Mk.refl _ _) ⟨by simp,by simp⟩ _) ⟨by simp,by simp⟩ _) ⟨by simp,by simp⟩ _) ⟨by simp,by simp⟩ _) ⟨by simp,by simp⟩ _) ⟨by simp,by simp⟩ _,_,(((((h.set_ o u0).set_ (o+1) u1).set_ (o+2) u2).set_ (o+3) u3).set_ (o+3+1) u4).set_ (o+3+2) u5,by simp,fun x hx=>?_⟩
 iterate 6 rw[Array.getElem?_setIfInBounds_ne (by omega)]
theorem markCmdS_go:∀ (N:Nat) (L:Cms),L.sz<N→∀ (lo hi:Nat) (v:Value) (k0:Int) (w:World),CmsO w lo hi v L→0≤k0→k0+L.marks≤549755813888→
  Calls Tryz.prog 74 #[v,.int .i64 k0] w fun e w'=>e=.returned (.int .i64 (k0+L.marks))∧Mk (fun g=>lo≤g∧g<hi) w w':=by
 intro N
 induction N with
 | zero=>intro L h;omega
 | succ N IH=>
  intro L hsz lo hi v k0 w hO h0 h1;replace IH:=ax IH;replace hsz:=ax hsz;obtain ⟨g,cs0,rfl,hlo,hK0,hs0,hlen,hC0⟩:=hO;have hghi:g<hi:=hC0.le;obtain ⟨n,hn⟩:∃ n,n=L.len:=⟨_,rfl⟩;obtain ⟨tot,htot⟩:∃ tot,tot=L.marks:=⟨_,rfl⟩;rw[←hn] at hlen hs0 ⊢;rw[←htot] at h1 ⊢;replace hn:=ax hn;replace htot:=ax htot;replace hC0:=ax hC0;replace hs0:=ax hs0;(go_enter Tryz.func74,Tryz.ntmps74);(go_wp2_with fail)
  go_loopw [1,5] (fun x i wr=>∃ (j m lo1:Nat) (cs:Array Value),j≤n∧i=.int .i64 j∧x=.int .i64 (k0+m)∧aJ (m+(L.drop j).marks=tot)∧m≤tot∧aJ (cs.size=n * 10)∧Blk wr g tC cs∧g+1≤lo1∧aJ (CmsOAt wr (L.drop j) cs (j * 10) lo1 hi)∧Mk (fun g=>lo≤g∧g<hi) w wr) (fun _ i _=>n - (intOf i).toNat)
  case atStart=>exact ⟨0,0,g+1,cs0,Nat.zero_le _,rfl,by simp,ax (by rw[htot.o];simp[Cms.drop]),Nat.zero_le _,hs0,hK0,Nat.le_refl _,ax (by simpa[Cms.drop] using hC0.o),Mk.refl _ _⟩
  case round=>
   obtain ⟨j,m,lo1,cs,hj,rfl,rfl,hM,hmt,HS,hK,hlo1,HC,hMk⟩:=hrel;clear hK0;by_cases hlt:j<n
   ·have hpos:0<(L.drop j).len:=by rw[Cms.drop_len,←hn.o];omega
    obtain ⟨k,a,b,t,i,body,els,r,eL⟩:=Cms.cons_of_len hpos;have hD:=HC.o;have hZ:=Cms.sz_drop j L;have hDs:=Cms.drop_succ j L eL;have hM':=hM.o;rw[eL] at hD hZ hM';obtain ⟨vF,vA,gB,gE,csB,csE,m1,m2,m3,⟨t0,t1,t2,t3,t4,t5,t6,t7,t8,t9⟩,⟨e1,fv,av,ef,xF,xA⟩,xB,xE,xr⟩:=hD;injection ef with ef;injection ef with ef;injection ef with ef ea;injection ea with ea;subst ef ea;have hd:=xF.1.ne_atoms xA.1;obtain ⟨AF,cF,rfl⟩:=xF.form;obtain ⟨AA,cA,rfl⟩:=xA.form;have lF:i.facts.length≤1049600:=xF.1.2;have lA:i.atoms.length≤1049600:=xA.1.2;have xB:CmsO wr m1 m2 (.slice (some ⟨gB,0,none⟩) body.len body.len) body:=⟨gB,csB,rfl,xB⟩;have xE:CmsO wr m2 m3 (.slice (some ⟨gE,0,none⟩) els.len els.len) els:=⟨gE,csE,rfl,xE⟩;have i1:m1≤m2:=by obtain ⟨_,_,_,z1,_,_,_,z2⟩:=xB;have:=z2.le;omega
    have i2:m2≤m3:=by obtain ⟨_,_,_,z1,_,_,_,z2⟩:=xE;have:=z2.le;omega
    have i3:m3≤hi:=xr.le;simp only[Cms.sz] at hZ;have hbs:body.sz<N:=by have:=hsz.o;omega
    have hes:els.sz<N:=by have:=hsz.o;omega
    simp only[Cms.marks] at hM';have c0:wr.cell? ⟨g,j * 10,none⟩=some (.int .i64 k):=by rw[hK.cell,t0]
    have c1:wr.cell? ⟨g,j * 10+1,none⟩=some (.int .i64 a):=by rw[hK.cell,t1]
    have c2:wr.cell? ⟨g,j * 10+2,none⟩=some (.int .i64 b):=by rw[hK.cell,t2]
    have c3:wr.cell? ⟨g,j * 10+3,none⟩=some (.bool t.eq):=by rw[hK.cell,t3]
    have c4:wr.cell? ⟨g,j * 10+4,none⟩=some (.int .i64 t.a):=by rw[hK.cell,t4]
    have c5:wr.cell? ⟨g,j * 10+5,none⟩=some (.int .i64 t.b):=by rw[hK.cell,t5]
    have c6:wr.cell? ⟨g,j * 10+6,none⟩=some (.slice AF i.facts.length cF):=by rw[hK.cell,t6]
    have c7:wr.cell? ⟨g,j * 10+7,none⟩=some (.slice AA i.atoms.length cA):=by rw[hK.cell,t7]
    have c8:wr.cell? ⟨g,j * 10+8,none⟩=some (.slice (some ⟨gB,0,none⟩) body.len body.len):=by rw[hK.cell,t8]
    have c9:wr.cell? ⟨g,j * 10+9,none⟩=some (.slice (some ⟨gE,0,none⟩) els.len els.len):=by rw[hK.cell,t9]
    have r2:=hK.frozen;replace hbs:=ax hbs;replace hes:=ax hes;replace hd:=ax hd;replace xF:=ax xF;replace xA:=ax xA;replace xB:=ax xB;replace xE:=ax xE;replace xr:=ax xr;replace hDs:=ax hDs;replace hM':=ax hM';replace t7:=ax t7;replace t8:=ax t8;replace t9:=ax t9;clear hZ hpos eL t0 t1 t2 t3 t4 t5 t6 hM HC;have q1:k0+m+6≤549755813888:=by have:=hM'.o;omega
    (go_wp2_with fail);have hsix:=six hK (j * 10) (.int .i64 (k0+m)) (.int .i64 (k0+m+1)) (.int .i64 (k0+m+1+1)) (.bool ((k0+m+1+1+1) % 3 == 0)) (.int .i64 (k0+m+1+1+1+1)) (.int .i64 (k0+m+1+1+1+1+1))
    change Calls _ _ _ (set6 wr g (j * 10) (.int .i64 (k0+m)) (.int .i64 (k0+m+1)) (.int .i64 (k0+m+1+1)) (.bool ((k0+m+1+1+1) % 3 == 0)) (.int .i64 (k0+m+1+1+1+1)) (.int .i64 (k0+m+1+1+1+1+1))) _
    generalize set6 wr g (j * 10) (.int .i64 (k0+m)) (.int .i64 (k0+m+1)) (.int .i64 (k0+m+1+1)) (.bool ((k0+m+1+1+1) % 3 == 0)) (.int .i64 (k0+m+1+1+1+1)) (.int .i64 (k0+m+1+1+1+1+1))=V at hsix ⊢;obtain ⟨M6,cs',hKV,hsz',hfar⟩:=hsix;replace hfar:=ax hfar;replace hsz':=ax hsz';clear c0 c1 c2 c3 c4 c5 c6 c7 c8 c9 r2 hK;have b1:=hM'.o;refine (c_markFactS _ i.facts _ lo1 V (xF.o.mk M6 (by omega)).1 (by omega) (by omega)).mono ?_;rintro e w1 ⟨rfl,-,hM1⟩;have hM1':Mk (fun x=>lo1≤x∧x<m1) V w1:=hM1.mono fun x e=>⟨(xF.o.1.1.lt x e).1,xF.o.2 x e⟩;have hK1:=hM1'.blk hKV (by omega);have oA:=((xA.o.mk M6 (by omega)).1.mk hM1 (fun x e1 e2=>hd.o x e2 e1));have MA:Mk (fun x=>g≤x∧x<m1) wr w1:=(M6.mono fun x hx=>by omega).trans (hM1'.mono fun x hx=>by omega);clear hM1 hM1' hKV M6;replace oA:=ax oA;replace MA:=ax MA;have c7:w1.cell? ⟨g,j * 10+7,none⟩=some (.slice AA i.atoms.length cA):=by rw[hK1.cell,hfar.o _ (by omega),t7.o]
    (go_wp2_with fail);have b1:=hM'.o;refine (c_markAtomS _ i.atoms _ lo1 w1 oA.o (by omega) (by omega)).mono ?_;rintro e w2 ⟨rfl,-,hM2⟩;have hM2':Mk (fun x=>lo1≤x∧x<m1) w1 w2:=hM2.mono fun x e=>⟨(xA.o.1.1.lt x e).1,xA.o.2 x e⟩;have hK2:=hM2'.blk hK1 (by omega);have MB:Mk (fun x=>g≤x∧x<m1) wr w2:=MA.o.trans (hM2'.mono fun x hx=>by omega);clear hM2 hM2' c7 oA;replace MB:=ax MB;have c8:w2.cell? ⟨g,j * 10+8,none⟩=some (.slice (some ⟨gB,0,none⟩) body.len body.len):=by rw[hK2.cell,hfar.o _ (by omega),t8.o]
    (go_wp2_with fail);have b1:=hM'.o;refine (IH.o body hbs.o m1 m2 _ _ w2 (xB.o.mk MB.o (by omega)) (by omega) (by omega)).mono ?_;rintro e w3 ⟨rfl,hM3⟩;have hK3:=hM3.blk hK2 (by omega);have MC:Mk (fun x=>g≤x∧x<m2) wr w3:=(MB.o.mono fun x hx=>by omega).trans (hM3.mono fun x hx=>by omega);clear hM3 c8;replace MC:=ax MC;have c9:w3.cell? ⟨g,j * 10+9,none⟩=some (.slice (some ⟨gE,0,none⟩) els.len els.len):=by rw[hK3.cell,hfar.o _ (by omega),t9.o]
    (go_wp2_with fail);have b1:=hM'.o;refine (IH.o els hes.o m2 m3 _ _ w3 (xE.o.mk MC.o (by omega)) (by omega) (by omega)).mono ?_;rintro e w4 ⟨rfl,hM4⟩;have hK4:=hM4.blk hK3 (by omega);have MD:Mk (fun x=>g≤x∧x<m3) wr w4:=(MC.o.mono fun x hx=>by omega).trans (hM4.mono fun x hx=>by omega);clear hM4 c9;replace MD:=ax MD;(go_wp2_with fail);have b1:=hM'.o
    go_round
    case rel=>
     refine ⟨j+1,m+6+3 * i.facts.length+3 * i.atoms.length+body.marks+els.marks,m3,cs',by omega,by go_num,by push_cast;congr 1;omega,ax (by rw[hDs.o];omega),by omega,ax (by rw[hsz'.o,HS.o]),hK4,by omega,ax ?_,hMk.trans (MD.o.mono fun x hx=>by omega)⟩;rw[hDs.o,show (j+1) * 10=j * 10+10 from by omega];exact (xr.o.mk MD.o (by omega)).cells fun x z1 z2=>hfar.o x (by omega)
    case measure=>simp[intOf];omega
   ·(go_wp2_with fail);go_ret;obtain rfl:j=n:=by omega
    have e1:L.drop j=.nil:=by rw[hn.o];exact Cms.drop_all L
    have h2:=hM.o;rw[e1] at h2;simp only[Cms.marks,Nat.add_zero] at h2;subst h2;exact ⟨rfl,hMk⟩
def noAsn (i:Asn):Bool:=decide (i.facts.length=0)&&decide (i.atoms.length=0)
def noFct (t:Fct):Bool:=decide (t=⟨false,0,0⟩)
def basicB (k:Int):Bool:=decide (1≤k∧k≤5)
theorem c_spec_l8NoInv (A1 A2:Option Addr) (c1 c2:Nat) (i:Asn) (w:World) (h1:i.facts.length≤1049600) (h2:i.atoms.length≤1049600):Calls Tryz.prog 182 #[.agg #[.slice A1 i.facts.length c1,.slice A2 i.atoms.length c2]] w fun e w'=>e=.returned (.bool (noAsn i))∧Below w.heap.size w w':=by
 obtain ⟨R,hR⟩:∃ R,R=noAsn i:=⟨_,rfl⟩;rw[←hR];unfold noAsn at hR;replace hR:=ax hR;by_cases q1:i.facts.length=0
 all_goals by_cases q2:i.atoms.length=0
 all_goals
  (go_enter Tryz.func182,Tryz.ntmps182);go_wp2;go_ret;exact ⟨zjD (by rw[hR.o];simp_all),bel⟩
theorem c_impl_noAssertion (A1 A2:Option Addr) (c1 c2:Nat) (i:Asn) (w:World) (h1:i.facts.length≤1049600) (h2:i.atoms.length≤1049600):Calls Tryz.prog 256 #[.agg #[.slice A1 i.facts.length c1,.slice A2 i.atoms.length c2]] w fun e w'=>e=.returned (.bool (noAsn i))∧Below w.heap.size w w':=by
 obtain ⟨R,hR⟩:∃ R,R=noAsn i:=⟨_,rfl⟩;rw[←hR];unfold noAsn at hR;replace hR:=ax hR;by_cases q1:i.facts.length=0
 all_goals by_cases q2:i.atoms.length=0
 all_goals
  (go_enter Tryz.func256,Tryz.ntmps256);go_wp2;go_ret;exact ⟨zjD (by rw[hR.o];simp_all),bel⟩
theorem c_spec_l8NoFact (t:Fct) (w:World):Calls Tryz.prog 236 #[t.val] w fun e w'=>e=.returned (.bool (noFct t))∧Below w.heap.size w w':=by
 obtain ⟨q,a,b⟩:=t;(go_enter Tryz.func236,Tryz.ntmps236);go_wp2
 all_goals
  go_ret;exact ⟨zjD (by simp_all [noFct]),bel⟩
theorem c_impl_isBasic (k a b:Int) (t:Fct) (vF vA vB vE:Value) (w:World):Calls Tryz.prog 255 #[.agg #[.int .i64 k,.int .i64 a,.int .i64 b,.bool t.eq,.int .i64 t.a,.int .i64 t.b,vF,vA,vB,vE]] w fun e w'=>e=.returned (.bool (basicB k))∧Below w.heap.size w w':=by
 by_cases h:1≤k
 ·by_cases h2:k≤5
  all_goals
   (go_enter Tryz.func255,Tryz.ntmps255);go_wp2;go_ret;exact ⟨zjD (by simp[basicB,h,h2]),bel⟩
 ·(go_enter Tryz.func255,Tryz.ntmps255);go_wp2;go_ret;exact ⟨zjD (by simp[basicB];omega),bel⟩
def plainB (t:Fct) (i:Asn) (body els:Cms):Bool:=noFct t&&(noAsn i&&(decide (body.len=0)&&decide (els.len=0)))
def fieldsB (k a b:Int):Bool:=
 if k=1∨k=2 then isProgB a&&jq b else if k=3 then jq a&&jq b else if k=4 then isProgB a&&decide (b=0) else if k=5 then jq a&&decide (b=0) else false
theorem c_spec_l8Basic_no (k a b:Int) (t:Fct) (i:Asn) (A1 A2 A3 A4:Option Addr) (c1 c2 c3 c4:Nat) (body els:Cms) (w:World) (h1:i.facts.length≤1049600) (h2:i.atoms.length≤1049600) (h3:body.len≤1049600) (h4:els.len≤1049600) (hn:plainB t i body els=false) :
  Calls Tryz.prog 183 #[.agg #[.int .i64 k,.int .i64 a,.int .i64 b,.bool t.eq,.int .i64 t.a,.int .i64 t.b,.slice A1 i.facts.length c1,.slice A2 i.atoms.length c2,.slice A3 body.len c3,.slice A4 els.len c4]] w fun e w'=>e=.returned (.bool false)∧Below w.heap.size w w':=by
 obtain ⟨x,hx⟩:∃ x,x=noFct t:=⟨_,rfl⟩;obtain ⟨y,hy⟩:∃ y,y=noAsn i:=⟨_,rfl⟩;unfold plainB at hn;rw[←hx,←hy] at hn;replace hx:=ax hx;replace hy:=ax hy;replace hn:=ax hn;(go_enter Tryz.func183,Tryz.ntmps183);(go_wp2_with fail);refine (c_spec_l8NoFact t _).mono ?_;rintro e w1 ⟨rfl,hB1⟩;rw[←hx.o];have hB:=bgo (w:=w) bel hB1;have K0:=(Blk.nz (g:=w.heap.size) (Blk.new w _ _) hB1);have q0:=K0.cell;have l0:=K0.lt;cases x
 ·(go_wp2_with fail);go_ret;exact ⟨zjD rfl,hB⟩
 (go_wp2_with fail);refine (c_spec_l8NoInv A1 A2 c1 c2 i _ h1 h2).mono ?_;rintro e w2 ⟨rfl,hB2⟩;rw[←hy.o];have hBB:=bgo hB hB2;have K1:=K0.nz hB2;clear q0 l0;have q0:=K1.cell;have l0:=K1.lt;cases y
 ·(go_wp2_with fail);go_ret;exact ⟨zjD rfl,hBB⟩
 by_cases z1:body.len=0
 case neg=>
  have z1':0<body.len:=by omega
  (go_wp2_with fail);go_ret;exact ⟨zjD rfl,hBB⟩
 by_cases z2:els.len=0
 case neg=>
  have z2':0<els.len:=by omega
  (go_wp2_with fail);go_ret;exact ⟨zjD rfl,hBB⟩
 exact absurd hn.o (by simp[z1,z2])
theorem c_spec_l8Basic_yes (k a b:Int) (t:Fct) (i:Asn) (A1 A2 A3 A4:Option Addr) (c1 c2 c3 c4:Nat) (body els:Cms) (w:World) (h1:i.facts.length≤1049600) (h2:i.atoms.length≤1049600) (hn:plainB t i body els=true) :
  Calls Tryz.prog 183 #[.agg #[.int .i64 k,.int .i64 a,.int .i64 b,.bool t.eq,.int .i64 t.a,.int .i64 t.b,.slice A1 i.facts.length c1,.slice A2 i.atoms.length c2,.slice A3 body.len c3,.slice A4 els.len c4]] w fun e w'=>e=.returned (.bool (fieldsB k a b))∧Below w.heap.size w w':=by
 have hn':noFct t=true∧noAsn i=true∧body.len=0∧els.len=0:=by simpa[plainB] using hn
 obtain ⟨e1,e2,e3,e4⟩:=hn';rw[e3,e4];clear hn e3 e4;replace e1:=ax e1;replace e2:=ax e2;obtain ⟨R,hR⟩:∃ R,R=fieldsB k a b:=⟨_,rfl⟩;rw[←hR];unfold fieldsB at hR;obtain ⟨pa,hpa⟩:∃ pa,pa=isProgB a:=⟨_,rfl⟩;obtain ⟨ta,hta⟩:∃ ta,ta=jq a:=⟨_,rfl⟩;obtain ⟨tb,htb⟩:∃ tb,tb=jq b:=⟨_,rfl⟩;rw[←hpa,←hta,←htb] at hR;replace hpa:=ax hpa;replace hta:=ax hta;replace htb:=ax htb;replace hR:=ax hR;(go_enter Tryz.func183,Tryz.ntmps183);(go_wp2_with fail);refine (c_spec_l8NoFact t _).mono ?_;rintro e w1 ⟨rfl,hB1⟩;rw[e1.o];have hB:=bgo (w:=w) bel hB1;have K0:=(Blk.nz (g:=w.heap.size) (Blk.new w _ _) hB1);have q0:=K0.cell;have l0:=K0.lt;(go_wp2_with fail);refine (c_spec_l8NoInv A1 A2 c1 c2 i _ h1 h2).mono ?_;rintro e w2 ⟨rfl,hB2⟩;rw[e2.o];have hBB:=bgo hB hB2;have K1:=K0.nz hB2;clear q0 l0;have q0:=K1.cell;have l0:=K1.lt;by_cases k1:k=1∨k=2
 ·have hR2:=ax (show R=(pa&&tb) from by rw[hR.o,if_pos k1]);clear hR;rcases k1 with rfl|rfl
  all_goals
   cases pa
   all_goals
    cases tb
    all_goals
     (go_wp2_with (first|(go_at_call 173;refine (c_spec_l8Prog a _).mono ?_;rintro e w' ⟨rfl,rfl⟩;rw[←hpa.o])|(go_at_call 174;refine (c_spec_l1Is b _).mono ?_;rintro e w' ⟨rfl,rfl⟩;rw[←htb.o])));go_ret;exact ⟨zjD (by rw[hR2.o];rfl),hBB⟩
 by_cases k3:k=3
 ·have hR2:=ax (show R=(ta&&tb) from by rw[hR.o,if_neg k1,if_pos k3]);clear hR;subst k3;clear k1;cases ta
  all_goals
   cases tb
   all_goals
    (go_wp2_with (first|(go_at_call 174;refine (c_spec_l1Is a _).mono ?_;rintro e w' ⟨rfl,rfl⟩;rw[←hta.o])|(go_at_call 174;refine (c_spec_l1Is b _).mono ?_;rintro e w' ⟨rfl,rfl⟩;rw[←htb.o])));go_ret;exact ⟨zjD (by rw[hR2.o];rfl),hBB⟩
 by_cases k4:k=4
 ·have hR2:=ax (show R=(pa&&decide (b=0)) from by rw[hR.o,if_neg k1,if_neg k3,if_pos k4]);clear hR;subst k4;clear k1 k3;cases pa
  all_goals
   by_cases b0:b=0
   all_goals
    have hb0:=ax b0;(go_wp2_with (go_at_call 173;refine (c_spec_l8Prog a _).mono ?_;rintro e w' ⟨rfl,rfl⟩;rw[←hpa.o]));go_ret;exact ⟨zjD (by rw[hR2.o];first|rfl|(simp_all)),hBB⟩
 by_cases k5:k=5
 ·have hR2:=ax (show R=(ta&&decide (b=0)) from by rw[hR.o,if_neg k1,if_neg k3,if_neg k4,if_pos k5]);clear hR;subst k5;clear k1 k3 k4;cases ta
  all_goals
   by_cases b0:b=0
   all_goals
    have hb0:=ax b0;(go_wp2_with (go_at_call 174;refine (c_spec_l1Is a _).mono ?_;rintro e w' ⟨rfl,rfl⟩;rw[←hta.o]));go_ret;exact ⟨zjD (by rw[hR2.o];first|rfl|(simp_all)),hBB⟩
 ·have hR2:=ax (show R=false from by rw[hR.o,if_neg k1,if_neg k3,if_neg k4,if_neg k5]);clear hR;have ka:k≠1:=fun e=>k1 (.inl e);have kb:k≠2:=fun e=>k1 (.inr e);clear k1;(go_wp2_with fail);go_ret;exact ⟨zjD (by rw[hR2.o]),hBB⟩
def fvalB (k a b:Int) (t:Fct) (i:Asn) (body els:Cms):Bool:=
 if k=6 then decide (a=0)&&(decide (b=0)&&(t.valid&&noAsn i))
 else if k=7 then decide (a=0)&&(decide (b=0)&&(t.valid&&(i.valid&&decide (els.len=0))))
 else plainB t i body els&&fieldsB k a b
def Cms.shape:Cms→Nat→Bool
 | .nil,_=>true
 | .cons k a b t i body els r,d=>decide (0<d)&&(fvalB k a b t i body els&&(body.shape (d - 1)&&(els.shape (d - 1)&&r.shape d)))
def Cms.count:Cms→Nat→Nat
 | .nil,_=>0
 | .cons _ _ _ _ _ body els r,d=>if 0<d then body.count (d - 1)+els.count (d - 1)+1+r.count d else 0
theorem Cms.count_shape:∀ {L:Cms} {d:Nat},L.shape d=true→L.count d=L.sz
 | .nil,_,_=>rfl
 | .cons k a b t i body els r,d,h=>by
  simp only[Cms.shape,Bool.and_eq_true,decide_eq_true_eq] at h;obtain ⟨h0,-,h1,h2,h3⟩:=h;simp only[Cms.count,Cms.sz,if_pos h0,Cms.count_shape h1,Cms.count_shape h2,Cms.count_shape h3];omega
theorem Cms.count_le:∀ (L:Cms) (d:Nat),L.count d≤L.sz
 | .nil,_=>Nat.le_refl _
 | .cons k a b t i body els r,d=>by
  simp only[Cms.count,Cms.sz];have h1:=Cms.count_le body (d - 1);have h2:=Cms.count_le els (d - 1);have h3:=Cms.count_le r d
  split<;>omega
theorem Cms.len_sz:∀ (L:Cms),L.len≤L.sz
 | .nil=>Nat.le_refl _
 | .cons k a b t i body els r=>by simp only[Cms.len,Cms.sz];have:=Cms.len_sz r;omega
theorem Cms.sz_cost:∀ (L:Cms),L.sz≤L.len+L.cost
 | .nil=>Nat.le_refl _
 | .cons k a b t i body els r=>by
  simp only[Cms.sz,Cms.len,Cms.cost];have h1:=Cms.sz_cost body;have h2:=Cms.sz_cost els;have h3:=Cms.sz_cost r;omega
def Cms.prog (L:Cms):Bool:=L.shape 4&&decide (L.sz≤16)
theorem fvalB_basic {k a b:Int} {t:Fct} {i:Asn} {body els:Cms} (h6:k≠6) (h7:k≠7):fvalB k a b t i body els=(plainB t i body els&&fieldsB k a b):=by
 unfold fvalB;rw[if_neg h6,if_neg h7]
theorem fieldsB_basic {k a b:Int} (h:fieldsB k a b=true):1≤k∧k≤5:=by
 unfold fieldsB at h
 split at h
 ·rename_i h1;rcases h1 with rfl|rfl<;>omega
 split at h
 ·omega
 split at h
 ·omega
 split at h
 ·omega
 ·cases h
theorem Cms.shape_drop:∀ (n:Nat) {L:Cms} {d:Nat},L.shape d=true→(L.drop n).shape d=true
 | 0,L,d,h=>h
 | n+1,.nil,d,h=>rfl
 | n+1,.cons k a b t i body els r,d,h=>by
  simp only[Cms.shape,Bool.and_eq_true] at h;exact Cms.shape_drop n h.2.2.2.2
def CmsW (w:World) (lo hi:Nat) (A:Option Addr) (L:Cms):Prop:=CmsV w lo hi A L∧L.len+L.cost≤1048576
def CmsR (w:World) (A:Option Addr) (L:Cms):Prop:=L.len≤9223372036854775807∧L.small 9223372036854775807∧CmsV w 0 w.heap.size A L
section
variable {w w':World} {lo hi lo' hi' a b:Nat} {v:Value} {A:Option Addr} {L:Cms}
theorem CmsW.bz (h:CmsW w lo hi A L) (hb:Below w.heap.size w w'):CmsW w' lo hi A L:=⟨h.1.bz hb,h.2⟩
theorem CmsW.mono (h:CmsW w lo hi A L) (e1:lo'≤lo) (e2:hi≤hi'):CmsW w lo' hi' A L:=⟨h.1.mono e1 e2,h.2⟩
theorem CmsW.len (h:CmsW w lo hi A L):L.len≤1049600:=by have:=h.2;omega
theorem CmsW.small (h:CmsW w lo hi A L):L.small 1049600:=Cms.cost_small (by have:=h.2;omega)
theorem CmsW.sz (h:CmsW w lo hi A L):L.sz≤1049600:=by have:=h.2;have:=Cms.sz_cost L;omega
theorem CmsR.toW (h:CmsR w A L) (hl:L.len+L.cost≤1048576):CmsW w 0 w.heap.size A L:=⟨h.2.2,hl⟩
end
section
variable {w w':World} {lo hi lo' hi' a b:Nat} {v:Value} {A:Option Addr} {L:Cms}
end
end
section
open Go Go.RowKit Go.Proofs
attribute [local go_sem ↓] Go.wp_at_zero Go.wp_at_succ
structure Cm1 where
 k:Int
 a:Int
 b:Int
 t:Fct
 i:Asn
 body:Cms
 els:Cms
def Cm1.cost (x:Cm1):Nat:=cost1 x.i x.body x.els
def Cm1.marks (x:Cm1):Nat:=3 * x.i.facts.length+3 * x.i.atoms.length+x.body.marks+x.els.marks
theorem Cm1.marks_le (x:Cm1):x.marks≤6 * x.cost:=by
 have h1:=Cms.marks_le x.body;have h2:=Cms.marks_le x.els;unfold Cm1.marks Cm1.cost cost1;omega
theorem Cm1.parts_le {x:Cm1} {n:Nat} (h:x.cost≤n):x.i.facts.length≤n∧x.i.atoms.length≤n∧x.body.len+x.body.cost≤n∧x.els.len+x.els.cost≤n:=by
 unfold Cm1.cost cost1 at h;omega
def C1V (w:World) (lo hi:Nat) (v:Value) (x:Cm1):Prop:=∃ A1 c1 A2 c2 A3 c3 A4 c4,v=.agg #[.int .i64 x.k,.int .i64 x.a,.int .i64 x.b,.bool x.t.eq,.int .i64 x.t.a,.int .i64 x.t.b,.slice A1 x.i.facts.length c1,.slice A2 x.i.atoms.length c2,.slice A3 x.body.len c3,.slice A4 x.els.len c4]∧
 AsnV w lo hi (.agg #[.slice A1 x.i.facts.length c1,.slice A2 x.i.atoms.length c2]) x.i∧CmsW w lo hi A3 x.body∧CmsW w lo hi A4 x.els
def C1R (w:World) (v:Value) (x:Cm1):Prop:=∃ A1 c1 A2 c2 A3 c3 A4 c4,v=.agg #[.int .i64 x.k,.int .i64 x.a,.int .i64 x.b,.bool x.t.eq,.int .i64 x.t.a,.int .i64 x.t.b,.slice A1 x.i.facts.length c1,.slice A2 x.i.atoms.length c2,.slice A3 x.body.len c3,.slice A4 x.els.len c4]∧
 FactsR w A1 x.i.facts∧AtomsR w A2 x.i.atoms∧CmsR w A3 x.body∧CmsR w A4 x.els
def C1I (w:World) (lo hi:Nat) (v:Value) (x:Cm1):Prop:=∃ vF vA vB vE m1 m2 m3,v=.agg #[.int .i64 x.k,.int .i64 x.a,.int .i64 x.b,.bool x.t.eq,.int .i64 x.t.a,.int .i64 x.t.b,vF,vA,vB,vE]∧
 (lo≤m1∧m1≤m2∧m2≤m3∧m3≤hi)∧AsnI w lo m1 (.agg #[vF,vA]) x.i∧CmsO w m1 m2 vB x.body∧CmsO w m2 m3 vE x.els∧x.cost≤1048576
section
variable {w w':World} {lo hi lo' hi' a b:Nat} {v:Value} {x:Cm1}
theorem C1V.bz (h:C1V w lo hi v x) (hb:Below w.heap.size w w'):C1V w' lo hi v x:=by
 obtain ⟨A1,c1,A2,c2,A3,c3,A4,c4,e,h1,h2,h3⟩:=h;exact ⟨A1,c1,A2,c2,A3,c3,A4,c4,e,h1.bz hb,h2.bz hb,h3.bz hb⟩
theorem C1I.bz (h:C1I w lo hi v x) (hb:Below w.heap.size w w'):C1I w' lo hi v x:=by
 obtain ⟨vF,vA,vB,vE,m1,m2,m3,e,hm,h1,h2,h3,h4⟩:=h;exact ⟨vF,vA,vB,vE,m1,m2,m3,e,hm,h1.bz hb,h2.bz hb,h3.bz hb,h4⟩
theorem C1I.mk (h:C1I w lo hi v x) (hb:Mk (fun g=>a≤g∧g<b) w w') (hd:hi≤a∨b≤lo):C1I w' lo hi v x:=by
 obtain ⟨vF,vA,vB,vE,m1,m2,m3,e,hm,h1,h2,h3,h4⟩:=h;exact ⟨vF,vA,vB,vE,m1,m2,m3,e,hm,h1.mk hb (by omega),h2.mk hb (by omega),h3.mk hb (by omega),h4⟩
theorem C1I.form (h:C1I w lo hi v x):∃ A c B d E e F f,v=.agg #[.int .i64 x.k,.int .i64 x.a,.int .i64 x.b,.bool x.t.eq,.int .i64 x.t.a,.int .i64 x.t.b,.slice A x.i.facts.length c,.slice B x.i.atoms.length d,.slice E x.body.len e,.slice F x.els.len f]:=by
 obtain ⟨vF,vA,vB,vE,m1,m2,m3,rfl,hm,h1,h2,h3,h4⟩:=h;obtain ⟨A,c,B,d,e⟩:=h1.form;injection e with e;injection e with e;injection e with e1 e2;injection e2 with e2;obtain ⟨E,ec,rfl,-⟩:=h2.form;obtain ⟨F,fc,rfl,-⟩:=h3.form;exact ⟨A,c,B,d,E,ec,F,fc,by rw[e1,e2]⟩
theorem C1I.rj (h:C1I w lo hi v x):C1V w lo w.heap.size v x:=by
 obtain ⟨vF,vA,vB,vE,m1,m2,m3,rfl,hm,h1,h2,h3,h4⟩:=h;have h1':=h1.rj;obtain ⟨A,c,B,d,e⟩:=h1.form;injection e with e;injection e with e;injection e with e1 e2;injection e2 with e2;subst e1 e2;obtain ⟨E,ec,rfl,q1⟩:=h2.form;obtain ⟨F,fc,rfl,q2⟩:=h3.form;have hp:=Cm1.parts_le h4;exact ⟨A,c,B,d,E,ec,F,fc,rfl,h1',⟨q1.mono (by omega) (Nat.le_refl _),hp.2.2.1⟩,⟨q2.mono (by omega) (Nat.le_refl _),hp.2.2.2⟩⟩
end
def sz1 (x:Cm1) (left:Int):Int:=szL x.cost left
theorem sz1_le {x:Cm1} {left:Int} (h:¬sz1 x left<0):0≤sz1 x left∧sz1 x left=left - (x.cost:Int)∧0≤left:=by
 unfold sz1 at h ⊢;have:=szL_le h;omega
theorem c_sz1 (v:Value) (x:Cm1) (left:Int) (w:World) (h:C1R w v x) {w':World} (hb:Below w.heap.size w w') (h0:0≤left) (h1:left≤1048576) :
  Calls Tryz.prog 10 #[v,.int .i64 left] w' fun e w2=>e=.returned (.int .i64 (sz1 x left))∧Below w'.heap.size w' w2:=by
 obtain ⟨A1,c1,A2,c2,A3,c3,A4,c4,rfl,r1,r2,r3,r4⟩:=h;have hw:∀ {A:Option Addr} {L:Cms},CmsR w A L→CmsV w' 0 w'.heap.size A L:=fun r=>(r.2.2.bz hb).mono (Nat.le_refl _) hb.size
 exact c_szCmd x.k x.a x.b x.t x.i A1 A2 A3 A4 c1 c2 c3 c4 x.body x.els left w' (hw r3) (hw r4) r1.2 r2.2 h0 h1
  (fun l w hV h0 h1=>c_szCmdS x.body A3 c3 l w hV r3.1 r3.2.1 h0 h1) (fun l w hV h0 h1=>c_szCmdS x.els A4 c4 l w hV r4.1 r4.2.1 h0 h1)
theorem to_cmd {lo hi:Nat} (v:Value) (x:Cm1) (w:World) (h:C1V w lo hi v x) (hc:x.cost≤1048576):Calls Tryz.prog 13 #[v] w fun e w'=>∃ r,e=.returned r∧C1I w' w.heap.size w'.heap.size r x∧Below w.heap.size w w':=by
 obtain ⟨A1,c1,A2,c2,A3,c3,A4,c4,rfl,h1,h2,h3⟩:=h
 refine (c_toCmd x.k x.a x.b x.t x.i A1 A2 A3 A4 c1 c2 c3 c4 x.body x.els w h1 h2.1 h3.1
  (fun w hV=>toCmdS_go _ x.body (Nat.lt_succ_self _) A3 c3 w lo hi hV h2.len h2.small) (fun w hV=>toCmdS_go _ x.els (Nat.lt_succ_self _) A4 c4 w lo hi hV h3.len h3.small)).mono ?_
 rintro e w' ⟨vF,vA,vB,vE,m1,m2,m3,rfl,hm1,p1,p2,p3,hm3,hB⟩;have i1:m1≤m2:=by obtain ⟨_,_,_,z1,_,_,_,z2⟩:=p2;have:=z2.le;omega
 have i2:m2≤m3:=by obtain ⟨_,_,_,z1,_,_,_,z2⟩:=p3;have:=z2.le;omega
 exact ⟨_,rfl,⟨vF,vA,vB,vE,m1,m2,m3,rfl,⟨hm1,i1,i2,hm3⟩,p1,p2,p3,hc⟩,hB⟩
theorem t_cmd {lo hi lo' hi':Nat} (v v':Value) (x:Cm1) (w:World) (h:C1V w lo hi v x) (h':C1V w lo' hi' v' x):Calls Tryz.prog 17 #[v,v'] w fun e w'=>e=.returned (.bool true)∧Below w.heap.size w w':=by
 obtain ⟨A1,c1,A2,c2,A3,c3,A4,c4,rfl,h1,h2,h3⟩:=h;obtain ⟨B1,d1,B2,d2,B3,d3,B4,d4,rfl,g1,g2,g3⟩:=h'
 refine (c_eqCmd x.k x.a x.b x.t x.i A1 A2 A3 A4 c1 c2 c3 c4 x.body x.els x.k x.a x.b x.t x.i B1 B2 B3 B4 d1 d2 d3 d4 x.body x.els w h1 h2.1 h3.1 g1 g2.1 g3.1
  (fun w q1 q2=>eqCmdS_go _ x.body x.body (Nat.lt_succ_self _) A3 B3 c3 d3 w lo hi lo' hi' q1 q2 h2.len g2.len h2.small g2.small) (fun w q1 q2=>eqCmdS_go _ x.els x.els (Nat.lt_succ_self _) A4 B4 c4 d4 w lo hi lo' hi' q1 q2 h3.len g3.len h3.small g3.small)).mono ?_
 rintro e w' ⟨rfl,hB⟩;exact ⟨by simp[eq1],hB⟩
theorem m_cmd (v:Value) (x:Cm1) (k:Int) (lo hi:Nat) (w:World) (h:C1I w lo hi v x) (h0:0≤k) (h1:k≤549740000000) (hhi:hi≤w.heap.size):Calls Tryz.prog 20 #[v,.int .i64 k] w fun e w'=>e=.returned (.int .i64 (k+x.marks))∧True∧Mk (fun g=>lo≤g∧g<hi) w w':=by
 obtain ⟨vF,vA,vB,vE,m1,m2,m3,rfl,hm,p1,p2,p3,hc⟩:=h;have hmk:=Cm1.marks_le x;obtain ⟨A,c,B,d,e⟩:=p1.form;injection e with e;injection e with e;injection e with e1 e2;injection e2 with e2;subst e1 e2;obtain ⟨E,ec,rfl,-⟩:=p2.form;obtain ⟨F,fc,rfl,-⟩:=p3.form;obtain ⟨n1,hn1⟩:∃ n,n=3 * x.i.facts.length+3 * x.i.atoms.length:=⟨_,rfl⟩;have HN:aJ (x.marks=n1+x.body.marks+x.els.marks):=ax (by rw[hn1];rfl);have hb1:n1+x.body.marks+x.els.marks≤6291456:=by have:=HN.o;omega
 have HN1:=ax hn1;have P1:=ax p1;have P2:=ax p2;have P3:=ax p3;clear hn1 p1 p2 p3 hmk hc;(go_enter Tryz.func20,Tryz.ntmps20);have kc:Blk (w.alloc (.cells #[.int .i64 x.k,.int .i64 x.a,.int .i64 x.b,.bool x.t.eq,.int .i64 x.t.a,.int .i64 x.t.b,.slice A x.i.facts.length c,.slice B x.i.atoms.length d,.slice E x.body.len ec,.slice F x.els.len fc] tC)) w.heap.size tC #[.int .i64 x.k,.int .i64 x.a,.int .i64 x.b,.bool x.t.eq,.int .i64 x.t.a,.int .i64 x.t.b,.slice A x.i.facts.length c,.slice B x.i.atoms.length d,.slice E x.body.len ec,.slice F x.els.len fc]:=Blk.new _ _ _;have HB0:aJ (Below w.heap.size w (w.alloc (.cells #[.int .i64 x.k,.int .i64 x.a,.int .i64 x.b,.bool x.t.eq,.int .i64 x.t.a,.int .i64 x.t.b,.slice A x.i.facts.length c,.slice B x.i.atoms.length d,.slice E x.body.len ec,.slice F x.els.len fc] tC))):=ax bel;(go_wp2_with fail);refine (m_asn _ x.i k lo m1 _ (P1.o.bz HB0.o) h0 (by omega)).mono ?_;rintro e w1 ⟨rfl,-,hM1⟩;replace kc:=hM1.blk kc (by omega);have P2a:=ax ((P2.o.bz HB0.o).mk hM1 (.inr (Nat.le_refl _)));have P3a:=ax ((P3.o.bz HB0.o).mk hM1 (.inr (by omega)));have E1:aJ (k+3 * (x.i.facts.length:Int)+3 * (x.i.atoms.length:Int)=k+n1):=ax (by have:=HN1.o;omega);rw[E1.o];(replace qkc:=kc.z);(go_wp2_with fail);refine (markCmdS_go _ x.body (Nat.lt_succ_self _) m1 m2 _ (k+n1) _ P2a.o (by omega) (by omega)).mono ?_;rintro e w2 ⟨rfl,hM2⟩;replace kc:=hM2.blk kc (by omega);have P3b:=ax (P3a.o.mk hM2 (.inr (Nat.le_refl _)));(replace qkc:=kc.z);(go_wp2_with fail);refine (markCmdS_go _ x.els (Nat.lt_succ_self _) m2 m3 _ (k+n1+x.body.marks) _ P3b.o (by omega) (by omega)).mono ?_;rintro e w3 ⟨rfl,hM3⟩;(go_wp2_with fail);go_ret;have ee:k+(n1:Int)+(x.body.marks:Int)+(x.els.marks:Int)=k+(x.marks:Int):=by have:=HN.o;omega
 refine ⟨by rw[←ee];rfl,trivial,?_⟩;exact ((Mk.below_ HB0.o).trans (hM1.mono fun g h=>by omega)).trans ((hM2.mono fun g h=>by omega).trans (hM3.mono fun g h=>by omega))
end
end Go.Proofs.YtjaohekkmlkinaaGreat
