/- Programs: the laws' own helpers: the size. -/
import Derived.Test.YtgdfdmjnadnlnaaGreatMKit
import Derived.Deep.RegionHeld3
import Derived.Laws.CopyOwn
import Derived.StillTail
import Derived.Deep.RegionHeld
set_option linter.unusedSimpArgs false
set_option linter.unusedVariables false
set_option maxRecDepth 100000
set_option maxHeartbeats 25600000
namespace Go.Proofs.YtgdfdmjnadnlnaaGreat
section
open Go Go.RowKit Go.Proofs
def Cms.sz:Cms→Nat
 | .nil=>0
 | .cons _ _ _ _ _ body els r=>body.sz+els.sz+r.sz+1
theorem Cms.sz_drop:∀ (n:Nat) (L:Cms),(L.drop n).sz≤L.sz
 | 0,L=>Nat.le_refl _
 | n+1,.nil=>Nat.le_refl _
 | n+1,.cons _ _ _ _ _ _ _ r=>by simp only[Cms.drop,Cms.sz];have:=Cms.sz_drop n r;omega
theorem szL_add {m n:Nat} {left:Int} (h:¬szL m left<0):szL n (szL m left)=szL (m+n) left:=by
 have:=szL_le h;rw[this.1];unfold szL;have:left - (m:Int) - n=left - ((m+n:Nat):Int):=by omega
 rw[this]
theorem szL_more {m n:Nat} {left:Int} (h:szL m left<0):szL (m+n) left = -1:=by
 unfold szL at h ⊢;split at h
 ·rw[if_pos (by omega)]
 ·omega
theorem szA_eq {a:Asn} {left:Int}:szA a left=szL (a.facts.length+a.atoms.length) left:=by
 unfold szA;split
 ·rename_i h;rw[szL_more h]
 ·rename_i h;rw[szL_add h]
def cost1 (i:Asn) (body els:Cms):Nat:=i.facts.length+i.atoms.length+(body.len+body.cost)+(els.len+els.cost)
theorem c_szCmd (k a b:Int) (t:Fct) (i:Asn) (A1 A2 A3 A4:Option Addr) (c1 c2 c3 c4:Nat) (body els:Cms) (left:Int) (w:World)
  (hb:CmsV w 0 w.heap.size A3 body) (he:CmsV w 0 w.heap.size A4 els) (h1:i.facts.length≤9223372036854775807) (h2:i.atoms.length≤9223372036854775807) (hl0:0≤left) (hl1:left≤1048576)
  (IB:∀ (left:Int) (w:World),CmsV w 0 w.heap.size A3 body→0≤left→left≤1048576→Calls Tryz.prog 12 #[.slice A3 body.len c3,.int .i64 left] w fun e w'=>e=.returned (.int .i64 (szL (body.len+body.cost) left))∧Below w.heap.size w w')
  (IE:∀ (left:Int) (w:World),CmsV w 0 w.heap.size A4 els→0≤left→left≤1048576→Calls Tryz.prog 12 #[.slice A4 els.len c4,.int .i64 left] w fun e w'=>e=.returned (.int .i64 (szL (els.len+els.cost) left))∧Below w.heap.size w w') :
  Calls Tryz.prog 31 #[.agg #[.int .i64 k,.int .i64 a,.int .i64 b,.bool t.eq,.int .i64 t.a,.int .i64 t.b,.slice A1 i.facts.length c1,.slice A2 i.atoms.length c2,.slice A3 body.len c3,.slice A4 els.len c4],.int .i64 left] w fun e w'=>
   e=.returned (.int .i64 (szL (cost1 i body els) left))∧Below w.heap.size w w':=by
 obtain ⟨m0,hm0⟩:∃ m0,m0=i.facts.length+i.atoms.length:=⟨_,rfl⟩;obtain ⟨m1,hm1⟩:∃ m1,m1=body.len+body.cost:=⟨_,rfl⟩;obtain ⟨m2,hm2⟩:∃ m2,m2=els.len+els.cost:=⟨_,rfl⟩;rw[←hm1] at IB;rw[←hm2] at IE;obtain ⟨x0,hx0⟩:∃ x0,x0=szL m0 left:=⟨_,rfl⟩;obtain ⟨x1,hx1⟩:∃ x1,x1=szL m1 x0:=⟨_,rfl⟩;obtain ⟨x2,hx2⟩:∃ x2,x2=szL m2 x1:=⟨_,rfl⟩;have b0:¬x0<0→x0≤1048576:=fun h=>by rw[hx0] at h ⊢;have:=szL_le h;omega
 have b1:¬x0<0→¬x1<0→x1≤1048576:=fun h0 h=>by have:=b0 h0;rw[hx1] at h ⊢;have:=szL_le h;omega
 have ea:szA i left=x0:=by rw[szA_eq,hx0,hm0]
 have r1:x0<0→szL (cost1 i body els) left = -1:=fun h=>by
  rw[show cost1 i body els=m0+(m1+m2) from by unfold cost1;omega];exact szL_more (by rw[←hx0];exact h)
 have r2:¬x0<0→x1<0→szL (cost1 i body els) left = -1:=fun h0 h=>by
  rw[show cost1 i body els=m0+m1+m2 from by unfold cost1;omega];refine szL_more ?_;rw[←szL_add (by rw[←hx0];exact h0),←hx0,←hx1];exact h
 have r3:¬x0<0→¬x1<0→szL (cost1 i body els) left=x2:=fun h0 h=>by
  rw[show cost1 i body els=m0+m1+m2 from by unfold cost1;omega,←szL_add,←szL_add (by rw[←hx0];exact h0),←hx0,←hx1,hx2];rw[←szL_add (by rw[←hx0];exact h0),←hx0,←hx1];exact h
 have r4:x2<0→x2 = -1:=fun h=>by rw[hx2] at h ⊢;exact szL_neg h
 have hz0:=ax hx0;have hz1:=ax hx1;have hz2:=ax hx2;have hr1:=ax r1;have hr2:=ax r2;have hr3:=ax r3;have hr4:=ax r4;have hb0:=ax b0;have hb1:=ax b1;have hIB:=ax IB;have hIE:=ax IE;have hea:=ax ea;clear hm0 hm1 hm2 hx0 hx1 hx2 r1 r2 r3 r4 b0 b1 IB IE ea;generalize hR:szL (cost1 i body els) left=R at hr1 hr2 hr3 ⊢;have hRh:=ax hR;clear hR;have hHb:=ax hb;have hHe:=ax he;clear hb he;obtain ⟨B0,hB0e⟩:∃ B0,B0=w.heap.size:=⟨_,rfl⟩;(go_enter Tryz.func31,Tryz.ntmps31);(go_wp2_with fail);refine (c_szAssertion _ _ _ _ _ _ _ h1 h2 hl0 hl1).mono ?_;rintro e w1 ⟨rfl,hB1⟩;rw[hea.o];have hB:=bgo (w:=w) bel hB1;have k0:=(Blk.new w _ _).nz hB1;have q:=k0.cell;have r:=k0.frozen;have lt:=k0.lt;by_cases q0:x0<0
 ·(go_wp2_with fail);go_ret;exact ⟨ret_int (by rw[hr1.o (by omega)]),bel⟩
 have g0:=hb0.o (by omega);(go_wp2_with fail);refine (hIB.o _ _ (hHb.o.bz bel |>.mono (Nat.le_refl _) (by have:=hB.size;first|omega|(simp;omega))) (by omega) g0).mono ?_;rintro e w2 ⟨rfl,hB2⟩;rw[←hz1.o];have hBB:=bgo (w:=w) bel hB2;have k1:=k0.nz hB2;clear q r lt;have q:=k1.cell;have r:=k1.frozen;have lt:=k1.lt;by_cases q1:x1<0
 ·(go_wp2_with fail);go_ret;exact ⟨ret_int (by rw[hr2.o (by omega) (by omega)]),bel⟩
 have g1:=hb1.o (by omega) (by omega);(go_wp2_with fail);refine (hIE.o _ _ (hHe.o.bz bel |>.mono (Nat.le_refl _) (by have:=hBB.size;first|omega|(simp;omega))) (by omega) g1).mono ?_;rintro e w3 ⟨rfl,hB3⟩;rw[←hz2.o];have hBBB:=bgo (w:=w) bel hB3;by_cases q2:x2<0
 ·(go_wp2_with fail);go_ret;exact ⟨ret_int (by rw[hr3.o (by omega) (by omega),hr4.o (by omega)]),bel⟩
 ·(go_wp2_with fail);go_ret;exact ⟨ret_int (by rw[hr3.o (by omega) (by omega)]),bel⟩
theorem szCmdS_go:∀ (N:Nat) (L:Cms),L.sz<N→∀ (A:Option Addr) (c:Nat) (left:Int) (w:World),CmsV w 0 w.heap.size A L→L.len≤9223372036854775807→L.small 9223372036854775807→0≤left→left≤1048576→
  Calls Tryz.prog 12 #[.slice A L.len c,.int .i64 left] w fun e w'=>e=.returned (.int .i64 (szL (L.len+L.cost) left))∧Below w.heap.size w w':=by
 intro N
 induction N with
 | zero=>intro L h;omega
 | succ N IH=>
  intro L hsz A c left w hV hlen hsm hl0 hl1;replace IH:=ax IH;replace hV:=ax hV;replace hsm:=ax hsm;replace hsz:=ax hsz;obtain ⟨n,hn⟩:∃ n,n=L.len:=⟨_,rfl⟩;obtain ⟨tot,htot⟩:∃ tot,tot=n+L.cost:=⟨_,rfl⟩;obtain ⟨R,hR⟩:∃ R,R=szL tot left:=⟨_,rfl⟩;rw[←hn,←htot,←hR];rw[←hn] at hlen;have hRneg:left<tot→R = -1:=fun h=>by rw[hR];unfold szL;rw[if_pos (by omega)]
  have hRpos:¬left<tot→R=left - tot:=fun h=>by rw[hR];unfold szL;rw[if_neg (by omega)]
  replace htot:=ax htot;replace hR:=ax hR;replace hRneg:=ax hRneg;replace hRpos:=ax hRpos;replace hn:=ax hn;by_cases q0:left - n<0
  ·(go_enter Tryz.func12,Tryz.ntmps12);(go_wp2_with fail);go_ret;exact ⟨ret_int (by rw[hRneg.o (by have:=htot.o;omega)]),bel⟩
  (go_enter Tryz.func12,Tryz.ntmps12);(go_wp2_with fail)
  go_loopw [1,5] (fun x i wr=>∃ (j m:Nat),j≤n∧i=.int .i64 j∧x=.int .i64 (left - m)∧0≤left - m∧aJ (m+(L.drop j).cost=tot)∧Below w.heap.size w wr) (fun _ i _=>n - (intOf i).toNat)
  case atStart=>exact ⟨0,n,Nat.zero_le _,rfl,rfl,by omega,ax htot.o.symm,bel⟩
  case round=>
   obtain ⟨j,m,hj,rfl,rfl,hm0,hM,hB⟩:=hrel;by_cases hlt:j<n
   ·have hpos:0<(L.drop j).len:=by rw[Cms.drop_len,←hn.o];omega
    obtain ⟨k,a,b,t,i,body,els,r,eL⟩:=Cms.cons_of_len hpos;obtain ⟨bl,o,rfl,-,-,hAt⟩:=(hV.o.bz hB) (by rw[←hn.o];omega);have hD:=hAt.drop j;have hS:=Cms.small_drop j hsm.o;have hZ:=Cms.sz_drop j L;have hDs:=Cms.drop_succ j L eL;have hM':=hM.o;rw[eL] at hD hS hZ hM';obtain ⟨⟨p0,p1,p2,p3,p4,p5⟩,⟨A6,c6,p6,-⟩,⟨A7,c7,p7,-⟩,⟨A8,c8,p8,g8⟩,⟨A9,c9,p9,g9⟩,-⟩:=hD;obtain ⟨s1,s2,s3,s4,s5,s6,-⟩:=hS;simp only[Cms.sz] at hZ;have hbs:body.sz<N:=by have:=hsz.o;omega
    have hes:els.sz<N:=by have:=hsz.o;omega
    have hM2:m+cost1 i body els+r.cost=tot:=by simp only[Cms.cost] at hM';unfold cost1;omega
    replace hM2:=ax hM2;replace hbs:=ax hbs;replace hes:=ax hes;replace s3:=ax s3;replace s4:=ax s4;replace s5:=ax s5;replace s6:=ax s6;replace g8:=ax g8;replace g9:=ax g9;replace hDs:=ax hDs;replace eL:=ax eL;clear hM' hZ hpos hAt;(go_wp2_with fail);refine (c_szCmd k a b t i A6 A7 A8 A9 c6 c7 c8 c9 body els (left - m) wr ((show CmsV wr 0 w.heap.size A8 body from g8.o).mono (Nat.le_refl _) hB.size) ((show CmsV wr 0 w.heap.size A9 els from g9.o).mono (Nat.le_refl _) hB.size) s1 s2 (by omega) (by omega) (fun left w h1 h2 h3=>IH.o body hbs.o _ _ _ _ h1 s3.o s5.o h2 h3) (fun left w h1 h2 h3=>IH.o els hes.o _ _ _ _ h1 s4.o s6.o h2 h3)).mono ?_;rintro e w2 ⟨rfl,hB2⟩;have hB3:=bgo hB hB2;clear p0 p1 p2 p3 p4 p5 p6 p7 p8 p9;by_cases q1:szL (cost1 i body els) (left - m)<0
    ·(go_wp2_with fail);go_ret;refine ⟨ret_int ?_,hB3⟩;rw[hRneg.o ?_];have:=hM2.o;unfold szL at q1;split at q1<;>omega
    ·have q2:=szL_le q1;rw[q2.1] at q1 ⊢;have q2:=q2.2;(go_wp2_with fail)
     go_round
     case rel=>exact ⟨j+1,m+cost1 i body els,by omega,by go_num,by push_cast;congr 1;omega,by push_cast;omega,ax (by rw[hDs.o];exact hM2.o),hB3⟩
     case measure=>simp[intOf];omega
   ·(go_wp2_with fail);go_ret;obtain rfl:j=n:=by omega
    have e0:(L.drop j).cost=0:=by
     have:=Cms.drop_len j L;rw[←hn.o,Nat.sub_self] at this
     cases h:L.drop j with
     | nil=>rfl
     | cons=>rw[h] at this;simp[Cms.len] at this
    have hM':=hM.o;rw[e0] at hM';exact ⟨ret_int (by rw[hRpos.o (by omega)];omega),hB⟩
theorem c_szCmdS (L:Cms) (A:Option Addr) (c:Nat) (left:Int) (w:World) (hV:CmsV w 0 w.heap.size A L) (hlen:L.len≤9223372036854775807) (hsm:L.small 9223372036854775807) (h0:0≤left) (h1:left≤1048576) :
  Calls Tryz.prog 12 #[.slice A L.len c,.int .i64 left] w fun e w'=>e=.returned (.int .i64 (szL (L.len+L.cost) left))∧Below w.heap.size w w':=
 szCmdS_go _ L (Nat.lt_succ_self _) A c left w hV hlen hsm h0 h1
abbrev tC:Nat:=63
theorem infoC:(Tryz.prog.info? tC).map (fun i=>(i.zero,i.size,i.bytes))=some (some (.agg #[.int .i64 0,.int .i64 0,.int .i64 0,.bool false,.int .i64 0,.int .i64 0,.slice none 0 0,.slice none 0 0,.slice none 0 0,.slice none 0 0]),10,144):=by kernel_rfl
def Ten (cs:Array Value) (o:Nat) (k a b:Int) (t:Fct) (vF vA vB vE:Value):Prop:=
 cs[o]? = some (.int .i64 k)∧cs[o+1]? = some (.int .i64 a)∧cs[o+2]? = some (.int .i64 b)∧cs[o+3]? = some (.bool t.eq)∧cs[o+4]? = some (.int .i64 t.a)∧cs[o+5]? = some (.int .i64 t.b)∧
  cs[o+6]? = some vF∧cs[o+7]? = some vA∧cs[o+8]? = some vB∧cs[o+9]? = some vE
def CmsOAt (w:World):Cms→Array Value→Nat→Nat→Nat→Prop
 | .nil,_,_,lo,hi=>lo≤hi
 | .cons k a b t i body els r,cs,o,lo,hi=>∃ vF vA gB gE csB csE m1 m2 m3,Ten cs o k a b t vF vA (.slice (some ⟨gB,0,none⟩) body.len body.len) (.slice (some ⟨gE,0,none⟩) els.len els.len)∧
   (lo≤m1∧AsnI w lo m1 (.agg #[vF,vA]) i)∧
   (m1≤gB∧Blk w gB tC csB∧csB.size=body.len * 10∧body.len≤1049600∧CmsOAt w body csB 0 (gB+1) m2)∧
   (m2≤gE∧Blk w gE tC csE∧csE.size=els.len * 10∧els.len≤1049600∧CmsOAt w els csE 0 (gE+1) m3)∧
   CmsOAt w r cs (o+10) m3 hi
def CmsO (w:World) (lo hi:Nat) (v:Value) (L:Cms):Prop:=∃ g cs,v=.slice (some ⟨g,0,none⟩) L.len L.len∧lo≤g∧Blk w g tC cs∧cs.size=L.len * 10∧L.len≤1049600∧CmsOAt w L cs 0 (g+1) hi
section
variable {w w':World} {lo hi lo' hi':Nat}
theorem CmsOAt.le:∀ {L:Cms} {cs:Array Value} {o lo hi:Nat},CmsOAt w L cs o lo hi→lo≤hi
 | .nil,_,_,_,_,h=>h
 | .cons k a b t i body els r,cs,o,lo,hi,h=>by
  obtain ⟨vF,vA,gB,gE,csB,csE,m1,m2,m3,hT,⟨h1,_⟩,⟨h2,_,_,_,h3⟩,⟨h4,_,_,_,h5⟩,h6⟩:=h;have e1:=CmsOAt.le h3;have e2:=CmsOAt.le h5;have e3:=CmsOAt.le h6;omega
theorem CmsOAt.mono:∀ {L:Cms} {cs:Array Value} {o lo hi:Nat},CmsOAt w L cs o lo hi→hi≤hi'→CmsOAt w L cs o lo hi'
 | .nil,_,_,_,_,h,e=>Nat.le_trans h e
 | .cons k a b t i body els r,cs,o,lo,hi,h,e=>by
  obtain ⟨vF,vA,gB,gE,csB,csE,m1,m2,m3,hT,h1,h2,h4,h6⟩:=h;exact ⟨vF,vA,gB,gE,csB,csE,m1,m2,m3,hT,h1,h2,h4,CmsOAt.mono h6 e⟩
theorem CmsOAt.bz (hb:Below w.heap.size w w'):∀ {L:Cms} {cs:Array Value} {o lo hi:Nat},CmsOAt w L cs o lo hi→CmsOAt w' L cs o lo hi
 | .nil,_,_,_,_,h=>h
 | .cons k a b t i body els r,cs,o,lo,hi,h=>by
  obtain ⟨vF,vA,gB,gE,csB,csE,m1,m2,m3,hT,⟨h1,h1'⟩,⟨h2,k2,z2,l2,h3⟩,⟨h4,k4,z4,l4,h5⟩,h6⟩:=h;exact ⟨vF,vA,gB,gE,csB,csE,m1,m2,m3,hT,⟨h1,h1'.bz hb⟩,⟨h2,k2.nz hb,z2,l2,CmsOAt.bz hb h3⟩,⟨h4,k4.nz hb,z4,l4,CmsOAt.bz hb h5⟩,CmsOAt.bz hb h6⟩
theorem CmsOAt.mk {a b:Nat} (hb:Mk (fun g=>a≤g∧g<b) w w'):∀ {L:Cms} {cs:Array Value} {o lo hi:Nat},CmsOAt w L cs o lo hi→(hi≤a∨b≤lo)→CmsOAt w' L cs o lo hi
 | .nil,_,_,_,_,h,_=>h
 | .cons k a' b' t i body els r,cs,o,lo,hi,h,hd=>by
  obtain ⟨vF,vA,gB,gE,csB,csE,m1,m2,m3,hT,⟨h1,h1'⟩,⟨h2,k2,z2,l2,h3⟩,⟨h4,k4,z4,l4,h5⟩,h6⟩:=h;have e1:=CmsOAt.le h3;have e2:=CmsOAt.le h5;have e3:=CmsOAt.le h6;exact ⟨vF,vA,gB,gE,csB,csE,m1,m2,m3,hT,⟨h1,h1'.mk hb (by omega)⟩,⟨h2,hb.blk k2 (by omega),z2,l2,CmsOAt.mk hb h3 (by omega)⟩,⟨h4,hb.blk k4 (by omega),z4,l4,CmsOAt.mk hb h5 (by omega)⟩,CmsOAt.mk hb h6 (by omega)⟩
theorem CmsOAt.cells {cs':Array Value}:∀ {L:Cms} {cs:Array Value} {o lo hi:Nat},CmsOAt w L cs o lo hi→(∀ j,o≤j→j<o+L.len * 10→cs'[j]? = cs[j]?)→CmsOAt w L cs' o lo hi
 | .nil,_,_,_,_,h,_=>h
 | .cons k a b t i body els r,cs,o,lo,hi,h,hc=>by
  obtain ⟨vF,vA,gB,gE,csB,csE,m1,m2,m3,⟨t0,t1,t2,t3,t4,t5,t6,t7,t8,t9⟩,h1,h2,h4,h6⟩:=h;have hl:(Cms.cons k a b t i body els r).len=r.len+1:=rfl;rw[hl] at hc;have hx:∀ j,j<10→cs'[o+j]? = cs[o+j]?:=fun j hj=>hc _ (by omega) (by omega);exact ⟨vF,vA,gB,gE,csB,csE,m1,m2,m3,⟨(hx 0 (by omega)).trans t0,(hx 1 (by omega)).trans t1,(hx 2 (by omega)).trans t2,(hx 3 (by omega)).trans t3,(hx 4 (by omega)).trans t4,(hx 5 (by omega)).trans t5,(hx 6 (by omega)).trans t6,(hx 7 (by omega)).trans t7,(hx 8 (by omega)).trans t8,(hx 9 (by omega)).trans t9⟩,h1,h2,h4,CmsOAt.cells h6 fun j e1 e2=>hc j (by omega) (by omega)⟩
theorem CmsOAt.at_:∀ {L:Cms} {cs:Array Value} {g o lo hi:Nat},CmsOAt w L cs o lo hi→Blk w g tC cs→lo'≤lo→CmsAt w lo' w.heap.size L g o
 | .nil,_,_,_,_,_,_,_,_=>trivial
 | .cons k a b t i body els r,cs,g,o,lo,hi,h,hK,hl=>by
  obtain ⟨vF,vA,gB,gE,csB,csE,m1,m2,m3,⟨t0,t1,t2,t3,t4,t5,t6,t7,t8,t9⟩,⟨h1,h1'⟩,⟨h2,k2,z2,l2,h3⟩,⟨h4,k4,z4,l4,h5⟩,h6⟩:=h;have e1:=CmsOAt.le h3;have e2:=CmsOAt.le h5;have hc:∀ {j:Nat} {v:Value},cs[j]? = some v→w.cell? ⟨g,j,none⟩=some v:=fun {j v} h=>(hK.cell (i:=j)).trans h;obtain ⟨A1,c1,A2,c2,e,f1,f2⟩:=h1'.rj
  have e':vF=.slice A1 i.facts.length c1∧vA=.slice A2 i.atoms.length c2:=by
   injection e with e;injection e with e;injection e with ea eb;injection eb with eb;exact ⟨ea,eb⟩
  obtain ⟨rfl,rfl⟩:=e'
  exact ⟨⟨hc t0,hc t1,hc t2,hc t3,hc t4,hc t5⟩,⟨A1,c1,hc t6,f1.1.mono hl (Nat.le_refl _)⟩,⟨A2,c2,hc t7,f2.1.mono hl (Nat.le_refl _)⟩,
   ⟨_,_,hc t8,fun _=>⟨gB,0,rfl,by omega,k2.lt,CmsOAt.at_ h3 k2 (by omega)⟩⟩,⟨_,_,hc t9,fun _=>⟨gE,0,rfl,by omega,k4.lt,CmsOAt.at_ h5 k4 (by omega)⟩⟩,CmsOAt.at_ h6 hK (by omega)⟩
variable {v:Value} {L:Cms}
theorem CmsO.form (h:CmsO w lo hi v L):∃ A c,v=.slice A L.len c∧CmsV w lo w.heap.size A L:=by
 obtain ⟨g,cs,rfl,h1,hK,hs,hl,hc⟩:=h;exact ⟨_,_,rfl,fun _=>⟨g,0,rfl,h1,hK.lt,hc.at_ hK (by omega)⟩⟩
theorem CmsO.bz (h:CmsO w lo hi v L) (hb:Below w.heap.size w w'):CmsO w' lo hi v L:=by
 obtain ⟨g,cs,rfl,h1,hK,hs,hl,hc⟩:=h;exact ⟨g,cs,rfl,h1,hK.nz hb,hs,hl,hc.bz hb⟩
theorem CmsO.mk {a b:Nat} (h:CmsO w lo hi v L) (hb:Mk (fun g=>a≤g∧g<b) w w') (hd:hi≤a∨b≤lo):CmsO w' lo hi v L:=by
 obtain ⟨g,cs,rfl,h1,hK,hs,hl,hc⟩:=h;have e:=hc.le;exact ⟨g,cs,rfl,h1,hb.blk hK (by omega),hs,hl,hc.mk hb (by omega)⟩
theorem CmsO.mono (h:CmsO w lo hi v L) (e1:lo'≤lo) (e2:hi≤hi'):CmsO w lo' hi' v L:=by
 obtain ⟨g,cs,rfl,h1,hK,hs,hl,hc⟩:=h;exact ⟨g,cs,rfl,by omega,hK,hs,hl,hc.mono e2⟩
theorem CmsO.len (h:CmsO w lo hi v L):L.len≤1049600:=by
 obtain ⟨g,cs,rfl,h1,hK,hs,hl,hc⟩:=h;exact hl
end
theorem AsnI.lo_ {w:World} {lo lo' hi:Nat} {v:Value} {x:Asn} (h:AsnI w lo hi v x) (hl:lo'≤lo):AsnI w lo' hi v x:=by
 obtain ⟨fv,av,e,h1,h2⟩:=h;exact ⟨fv,av,e,⟨h1.1.bq hl,h1.2⟩,⟨h2.1.bq hl,h2.2⟩⟩
theorem c_toCmd {lo hi:Nat} (k a b:Int) (t:Fct) (i:Asn) (A1 A2 A3 A4:Option Addr) (c1 c2 c3 c4:Nat) (body els:Cms) (w:World)
  (ha:AsnV w lo hi (.agg #[.slice A1 i.facts.length c1,.slice A2 i.atoms.length c2]) i) (hb:CmsV w lo hi A3 body) (he:CmsV w lo hi A4 els)
  (IB:∀ (w:World),CmsV w lo hi A3 body→Calls Tryz.prog 15 #[.slice A3 body.len c3] w fun e w'=>∃ v,e=.returned v∧CmsO w' w.heap.size w'.heap.size v body∧Below w.heap.size w w')
  (IE:∀ (w:World),CmsV w lo hi A4 els→Calls Tryz.prog 15 #[.slice A4 els.len c4] w fun e w'=>∃ v,e=.returned v∧CmsO w' w.heap.size w'.heap.size v els∧Below w.heap.size w w') :
  Calls Tryz.prog 33 #[.agg #[.int .i64 k,.int .i64 a,.int .i64 b,.bool t.eq,.int .i64 t.a,.int .i64 t.b,.slice A1 i.facts.length c1,.slice A2 i.atoms.length c2,.slice A3 body.len c3,.slice A4 els.len c4]] w fun e w'=>
   ∃ vF vA vB vE m1 m2 m3,e=.returned (.agg #[.int .i64 k,.int .i64 a,.int .i64 b,.bool t.eq,.int .i64 t.a,.int .i64 t.b,vF,vA,vB,vE])∧w.heap.size≤m1∧AsnI w' w.heap.size m1 (.agg #[vF,vA]) i∧CmsO w' m1 m2 vB body∧CmsO w' m2 m3 vE els∧m3≤w'.heap.size∧Below w.heap.size w w':=by
 replace IB:=ax IB;replace IE:=ax IE;replace ha:=ax ha;replace hb:=ax hb;replace he:=ax he;(go_enter Tryz.func33,Tryz.ntmps33);(go_wp2_with fail);refine (c_toFact t _).mono ?_;rintro e w1 ⟨rfl,hB1⟩;have hz1:=hB1.size;have hB:=bgo (w:=w) bel hB1;have k0:=(((Blk.new w _ _).alloc _).alloc _).nz hB1;have k1:=((Blk.new (w.alloc _) _ _).alloc _).nz hB1;have k2:=(Blk.new ((w.alloc _).alloc _) _ _).nz hB1;simp only[World.size_alloc] at k1 k2 hz1;clear hB1;have q0:=k0.cell;have q2:=k2.cell;have r2:=k2.frozen;have l0:=k0.lt;(go_wp2_with fail);clear q0 q2 r2;refine (c_toAssertion _ i _ (ha.o.bz bel)).mono ?_;rintro e w2 ⟨v2,rfl,ho2,hB2⟩;have hz2:=hB2.size;simp only[World.size_setCell] at hz2;have m0:=Blk.nz (g:=w.heap.size) blks hB2;have m1:=Blk.nz (g:=w.heap.size+1) blks hB2;have m2:=Blk.nz (g:=w.heap.size+1+1) blks hB2;have hBw2:=bgo (w:=w) bel hB2;replace ho2:=ho2.I;simp only[World.size_setCell] at ho2;obtain ⟨vF,vA,rfl,oF,oA⟩:=ho2;obtain ⟨AF,cF,rfl⟩:=oF.form;obtain ⟨AA,cA,rfl⟩:=oA.form;clear k0 k1 k2 hB hB2;have q0:=m0.cell;have q2:=m2.cell;have r2:=m2.frozen;have l0:=m0.lt;have oa:AsnI w2 w1.heap.size w2.heap.size (.agg #[.slice AF i.facts.length cF,.slice AA i.atoms.length cA]) i:=⟨_,_,rfl,oF,oA⟩;replace oa:=ax oa;clear oF oA;(go_wp2_with fail);clear q0 q2 r2;refine (IB.o _ (hb.o.bz bel)).mono ?_;rintro e w3 ⟨v3,rfl,ho3,hB3⟩;have hz3:=hB3.size;simp only[World.size_setCell] at hz3 ho3;have n0:=Blk.nz (g:=w.heap.size) blks hB3;have n1:=Blk.nz (g:=w.heap.size+1) blks hB3;have n2:=Blk.nz (g:=w.heap.size+1+1) blks hB3;have hBw3:=bgo (w:=w) bel hB3;have M3:Mk (fun g=>w.heap.size+1≤g∧g<w.heap.size+1+1+1) w2 w3:=Mk.trans (Mk.set (Mk.set (Mk.refl _ _) ⟨by simp,by simp⟩ _) ⟨by simp,by simp⟩ _) (Mk.below_ hB3);obtain ⟨g3,cs3,rfl,p3,K3,z3,u3,o3⟩:=ho3;have ob:CmsO w3 w2.heap.size w3.heap.size (.slice (some ⟨g3,0,none⟩) body.len body.len) body:=⟨g3,cs3,rfl,p3,K3,z3,u3,o3⟩;replace ob:=ax ob;replace M3:=ax M3;clear m0 m1 m2 hBw2 hB3 p3 K3 z3 u3 o3;have q0:=n0.cell;have q2:=n2.cell;have r2:=n2.frozen;have l0:=n0.lt;(go_wp2_with fail);clear q0 q2 r2;refine (IE.o _ (he.o.bz bel)).mono ?_;rintro e w4 ⟨v4,rfl,ho4,hB4⟩;have hz4:=hB4.size;simp only[World.size_setCell] at hz4 ho4;have j1:=Blk.nz (g:=w.heap.size+1) blks hB4;have j2:=Blk.nz (g:=w.heap.size+1+1) blks hB4;have hBw4:=bgo (w:=w) bel hB4;have M4:Mk (fun g=>w.heap.size+1≤g∧g<w.heap.size+1+1+1) w3 w4:=Mk.trans (Mk.set (Mk.refl _ _) ⟨by simp,by simp⟩ _) (Mk.below_ hB4);obtain ⟨g4,cs4,rfl,p4,K4,z4,u4,o4⟩:=ho4;have oe:CmsO w4 w3.heap.size w4.heap.size (.slice (some ⟨g4,0,none⟩) els.len els.len) els:=⟨g4,cs4,rfl,p4,K4,z4,u4,o4⟩;replace oe:=ax oe;replace M4:=ax M4;clear n0 n1 n2 hBw3 hB4 p4 K4 z4 u4 o4;have q1:=j1.cell;have r1:=j1.frozen;have q2:=j2.cell;have r2:=j2.frozen;(go_wp2_with fail)
 have M5:∀ {w5:World},Mk (fun g=>w.heap.size+1≤g∧g<w.heap.size+1+1+1) w4 w5→AsnI w5 w.heap.size w2.heap.size (.agg #[.slice AF i.facts.length cF,.slice AA i.atoms.length cA]) i∧CmsO w5 w2.heap.size w3.heap.size (.slice (some ⟨g3,0,none⟩) body.len body.len) body∧CmsO w5 w3.heap.size w4.heap.size (.slice (some ⟨g4,0,none⟩) els.len els.len) els:=fun {w5} M=>by
  refine ⟨(((oa.o.mk M3.o (by omega)).mk M4.o (by omega)).mk M (by omega)).lo_ (by omega),(ob.o.mk M4.o (by omega)).mk M (by omega),oe.o.mk M (by omega)⟩
 refine bodyPost_ret (v:=.agg #[.int .i64 k,.int .i64 a,.int .i64 b,.bool t.eq,.int .i64 t.a,.int .i64 t.b,.slice AF i.facts.length cF,.slice AA i.atoms.length cA,.slice (some ⟨g3,0,none⟩) body.len body.len,.slice (some ⟨g4,0,none⟩) els.len els.len]) (by simp[results,Tryz.results33,go_sem,q1]) rfl ?_;refine ⟨_,_,_,_,w2.heap.size,w3.heap.size,w4.heap.size,rfl,by omega,(M5 ?_).1,(M5 ?_).2.1,(M5 ?_).2.2,by simp,bel⟩
 all_goals exact Mk.set (Mk.set (Mk.set (Mk.set (Mk.set (Mk.set (Mk.set (Mk.set (Mk.set (Mk.set (Mk.set (Mk.refl _ _) ⟨by simp,by simp⟩ _) ⟨by simp,by simp⟩ _) ⟨by simp,by simp⟩ _) ⟨by simp,by simp⟩ _) ⟨by simp,by simp⟩ _) ⟨by simp,by simp⟩ _) ⟨by simp,by simp⟩ _) ⟨by simp,by simp⟩ _) ⟨by simp,by simp⟩ _) ⟨by simp,by simp⟩ _) ⟨by simp,by simp⟩ _
def Cms.take:Nat→Cms→Cms
 | 0,_=>.nil
 | _+1,.nil=>.nil
 | n+1,.cons k a b t i body els r=>.cons k a b t i body els (r.take n)
theorem Cms.take_all:∀ (L:Cms),L.take L.len=L
 | .nil=>rfl
 | .cons k a b t i body els r=>by simp only[Cms.len,Cms.take];rw[Cms.take_all r]
theorem Cms.take_len:∀ (n:Nat) (L:Cms),n≤L.len→(L.take n).len=n
 | 0,L,_=>by cases L<;>rfl
 | n+1,.nil,h=>by simp[Cms.len] at h
 | n+1,.cons k a b t i body els r,h=>by simp only[Cms.len,Cms.take] at h ⊢;rw[Cms.take_len n r (by omega)]
section
variable {w w':World}
theorem CmsOAt.lo_ {lo lo' hi o:Nat} {cs:Array Value}:∀ {L:Cms},lo'≤lo→CmsOAt w L cs o lo hi→CmsOAt w L cs o lo' hi
 | .nil,e,h=>Nat.le_trans e h
 | .cons k a b t i body els r,e,h=>by
  obtain ⟨vF,vA,gB,gE,csB,csE,m1,m2,m3,hT,⟨h1,h1'⟩,h⟩:=h;exact ⟨vF,vA,gB,gE,csB,csE,m1,m2,m3,hT,⟨by omega,h1'.lo_ e⟩,h⟩
theorem CmsOAt.snoc {cs:Array Value} {m hi:Nat} {k a b:Int} {t:Fct} {i:Asn} {body els r:Cms}:∀ {L:Cms} {j o lo:Nat},CmsOAt w (L.take j) cs o lo m→L.drop j=.cons k a b t i body els r→
  CmsOAt w (.cons k a b t i body els .nil) cs (o+j * 10) m hi→CmsOAt w (L.take (j+1)) cs o lo hi
 | .nil,0,o,lo,_,h2,_=>by cases h2
 | .nil,_+1,o,lo,_,h2,_=>by cases h2
 | .cons k' a' b' t' i' body' els' r',0,o,lo,h1,h2,h3=>by
  simp only[Cms.drop] at h2;injection h2 with e1 e2 e3 e4 e5 e6 e7 e8;subst e1 e2 e3 e4 e5 e6 e7 e8;have h4:lo≤m:=by simpa [Cms.take,CmsOAt] using h1
  simp only[Nat.zero_mul,Nat.add_zero] at h3;have:=h3.lo_ h4;simpa only[Cms.take] using this
 | .cons k' a' b' t' i' body' els' r',j+1,o,lo,h1,h2,h3=>by
  simp only[Cms.drop] at h2;simp only[Cms.take] at h1 ⊢;obtain ⟨vF,vA,gB,gE,csB,csE,m1,m2,m3,hT,p1,p2,p3,p4⟩:=h1;exact ⟨vF,vA,gB,gE,csB,csE,m1,m2,m3,hT,p1,p2,p3,CmsOAt.snoc p4 h2 (by rwa [show o+10+j * 10=o+(j+1) * 10 from by omega])⟩
def put10 (cs:Array Value) (o:Nat) (v0 v1 v2 v3 v4 v5 v6 v7 v8 v9:Value):Array Value:=((((((((((cs).setIfInBounds (o) v0).setIfInBounds (o+1) v1).setIfInBounds (o+2) v2).setIfInBounds (o+3) v3).setIfInBounds (o+4) v4).setIfInBounds (o+5) v5).setIfInBounds (o+6) v6).setIfInBounds (o+7) v7).setIfInBounds (o+8) v8).setIfInBounds (o+9) v9
theorem put10_size {cs:Array Value} {o:Nat} {v0 v1 v2 v3 v4 v5 v6 v7 v8 v9:Value}:(put10 cs o v0 v1 v2 v3 v4 v5 v6 v7 v8 v9).size=cs.size:=by simp[put10]
theorem put10_far {cs:Array Value} {o:Nat} {v0 v1 v2 v3 v4 v5 v6 v7 v8 v9:Value} {j:Nat} (h:j<o):(put10 cs o v0 v1 v2 v3 v4 v5 v6 v7 v8 v9)[j]? = cs[j]?:=by
 unfold put10
 iterate 10 rw[Array.getElem?_setIfInBounds_ne (by omega)]
theorem put10_ten {cs:Array Value} {o:Nat} (h:o+10≤cs.size) (k a b:Int) (t:Fct) (vF vA vB vE:Value):Ten (put10 cs o (.int .i64 k) (.int .i64 a) (.int .i64 b) (.bool t.eq) (.int .i64 t.a) (.int .i64 t.b) vF vA vB vE) o k a b t vF vA vB vE:=by
 have h1:o<cs.size∧o+1<cs.size∧o+2<cs.size∧o+3<cs.size∧o+4<cs.size∧o+5<cs.size∧o+6<cs.size∧o+7<cs.size∧o+8<cs.size∧o+9<cs.size:=by omega
 obtain ⟨p0,p1,p2,p3,p4,p5,p6,p7,p8,p9⟩:=h1;unfold Ten put10;refine ⟨?_,?_,?_,?_,?_,?_,?_,?_,?_,?_⟩<;>simp[Array.getElem?_setIfInBounds,p0,p1,p2,p3,p4,p5,p6,p7,p8,p9]
theorem Blk.put10 {g:Nat} {t:TypeId} {cs:Array Value} (h:Blk w g t cs) (o:Nat) (v0 v1 v2 v3 v4 v5 v6 v7 v8 v9:Value):Blk (((((((((((w).setCell ⟨g,o,none⟩ v0).setCell ⟨g,o+1,none⟩ v1).setCell ⟨g,o+2,none⟩ v2).setCell ⟨g,o+3,none⟩ v3).setCell ⟨g,o+4,none⟩ v4).setCell ⟨g,o+5,none⟩ v5).setCell ⟨g,o+6,none⟩ v6).setCell ⟨g,o+7,none⟩ v7).setCell ⟨g,o+8,none⟩ v8).setCell ⟨g,o+9,none⟩ v9) g t (Go.Proofs.YtgdfdmjnadnlnaaGreat.put10 cs o v0 v1 v2 v3 v4 v5 v6 v7 v8 v9):=
 ((((((((((h).set_ (o) v0).set_ (o+1) v1).set_ (o+2) v2).set_ (o+3) v3).set_ (o+4) v4).set_ (o+5) v5).set_ (o+6) v6).set_ (o+7) v7).set_ (o+8) v8).set_ (o+9) v9
theorem mkC (n:Nat) (h:Lim n) (w:World):(Instr.makeSlice 38 (.int .i64 (n:Int)) (.int .i64 (n:Int))).run Tryz.prog w=.ok (.slice (some ⟨w.heap.size,0,none⟩) n n) (w.alloc (.cells (madeCells #[.int .i64 0,.int .i64 0,.int .i64 0,.bool false,.int .i64 0,.int .i64 0,.slice none 0 0,.slice none 0 0,.slice none 0 0,.slice none 0 0] (n * 10)) tC)):=by
 obtain ⟨i,hi,hz,hs,hb⟩:=info_parts infoC;have:=run_make_rowN (P:=Tryz.prog) 38 tC i _ Tryz.underlying38 hi hz .i64 .i64 n n (Nat.le_refl _) (by rw[hb];unfold Lim at h;omega) (by unfold Lim at h;omega) w
 rwa [hs] at this
end
theorem toCmdS_go:∀ (N:Nat) (L:Cms),L.sz<N→∀ (A:Option Addr) (c:Nat) (w:World) (lo hi:Nat),CmsV w lo hi A L→L.len≤1049600→L.small 1049600→
  Calls Tryz.prog 15 #[.slice A L.len c] w fun e w'=>∃ v,e=.returned v∧CmsO w' w.heap.size w'.heap.size v L∧Below w.heap.size w w':=by
 intro N
 induction N with
 | zero=>intro L h;omega
 | succ N IH=>
  intro L hsz A c w lo hi hV hlen hsm;replace IH:=ax IH;replace hV:=ax hV;replace hsm:=ax hsm;replace hsz:=ax hsz;obtain ⟨n,hn⟩:∃ n,n=L.len:=⟨_,rfl⟩;rw[←hn] at hlen ⊢;replace hn:=ax hn;have hmk:=mkC n (by unfold Lim;omega);(go_enter Tryz.func15,Tryz.ntmps15);go_wp2;clear hmk
  go_loopw [4] (fun i wr=>∃ (j:Nat) (cs:Array Value),j≤n∧i=.int .i64 j∧aJ (cs.size=n * 10)∧Blk wr w.heap.size tC cs∧aJ (CmsOAt wr (L.take j) cs 0 (w.heap.size+1) wr.heap.size)∧Below w.heap.size w wr) (fun i _=>n - (intOf i).toNat)
  case atStart=>exact ⟨0,_,Nat.zero_le _,rfl,ax (size_madeCells _ _),Blk.new _ _ _,ax (by cases L<;>simp[Cms.take,CmsOAt]),bel⟩
  case round=>
   obtain ⟨j,cs,hj,rfl,HS,hK,HC,hB⟩:=hrel;by_cases hlt:j<n
   ·have hpos:0<(L.drop j).len:=by rw[Cms.drop_len,←hn.o];omega
    obtain ⟨k,a,b,t,i,body,els,r,eL⟩:=Cms.cons_of_len hpos;obtain ⟨bl,o,rfl,-,-,hAt⟩:=(hV.o.bz hB) (by rw[←hn.o];omega);have hD:=hAt.drop j;have hS:=Cms.small_drop j hsm.o;have hZ:=Cms.sz_drop j L;rw[eL] at hD hS hZ;obtain ⟨⟨p0,p1,p2,p3,p4,p5⟩,⟨A6,c6,p6,g6⟩,⟨A7,c7,p7,g7⟩,⟨A8,c8,p8,g8⟩,⟨A9,c9,p9,g9⟩,-⟩:=hD;obtain ⟨s1,s2,s3,s4,s5,s6,-⟩:=hS;simp only[Cms.sz] at hZ;have hbs:body.sz<N:=by have:=hsz.o;omega
    have hes:els.sz<N:=by have:=hsz.o;omega
    have ha:AsnV wr lo hi (.agg #[.slice A6 i.facts.length c6,.slice A7 i.atoms.length c7]) i:=⟨_,_,_,_,rfl,⟨g6,s1⟩,⟨g7,s2⟩⟩;replace ha:=ax ha;replace hbs:=ax hbs;replace hes:=ax hes;replace s3:=ax s3;replace s4:=ax s4;replace s5:=ax s5;replace s6:=ax s6;replace g8:=ax (show CmsV wr lo hi A8 body from g8);replace g9:=ax (show CmsV wr lo hi A9 els from g9);replace eL:=ax eL;clear hZ hpos hAt g6 g7 s1 s2;(go_wp2_with fail);refine (c_toCmd k a b t i A6 A7 A8 A9 c6 c7 c8 c9 body els wr ha.o g8.o g9.o (fun w h1=>IH.o body hbs.o _ _ _ _ _ h1 s3.o s5.o) (fun w h1=>IH.o els hes.o _ _ _ _ _ h1 s4.o s6.o)).mono ?_;rintro e w2 ⟨vF,vA,vB,vE,m1,m2,m3,rfl,e1,x1,x2,x3,e3,hB2⟩;have hK2:=hK.nz hB2;have hB3:=bgo hB hB2;have hz2:=hB2.size;have lt:=hK.lt;have HC2:=HC.o.bz hB2;obtain ⟨AF,cF,AA,cA,eF⟩:=x1.form
    have eF':vF=.slice AF i.facts.length cF∧vA=.slice AA i.atoms.length cA:=by
     injection eF with eF;injection eF with eF;injection eF with ea eb;injection eb with eb;exact ⟨ea,eb⟩
    obtain ⟨rfl,rfl⟩:=eF';clear eF;obtain ⟨gB,csB,rfl,y2⟩:=x2;obtain ⟨gE,csE,rfl,y3⟩:=x3;have x2:=ax y2;have x3:=ax y3;clear y2 y3;replace x1:=ax x1;replace HC2:=ax HC2;clear p0 p1 p2 p3 p4 p5 p6 p7 p8 p9 hK HC hB ha g8 g9;have hs:=HS.o;obtain ⟨u0,hu0⟩:∃ u,cs[j * 10]? = some u:=⟨_,Array.getElem?_eq_getElem (by omega)⟩;have q0:w2.cell? ⟨w.heap.size,j * 10,none⟩=some u0:=by rw[hK2.cell,hu0]
    obtain ⟨u1,hu1⟩:∃ u,cs[j * 10+1]? = some u:=⟨_,Array.getElem?_eq_getElem (by omega)⟩;have q1:w2.cell? ⟨w.heap.size,j * 10+1,none⟩=some u1:=by rw[hK2.cell,hu1]
    obtain ⟨u2,hu2⟩:∃ u,cs[j * 10+2]? = some u:=⟨_,Array.getElem?_eq_getElem (by omega)⟩;have q2:w2.cell? ⟨w.heap.size,j * 10+2,none⟩=some u2:=by rw[hK2.cell,hu2]
    obtain ⟨u3,hu3⟩:∃ u,cs[j * 10+3]? = some u:=⟨_,Array.getElem?_eq_getElem (by omega)⟩;have q3:w2.cell? ⟨w.heap.size,j * 10+3,none⟩=some u3:=by rw[hK2.cell,hu3]
    obtain ⟨u4,hu4⟩:∃ u,cs[j * 10+4]? = some u:=⟨_,Array.getElem?_eq_getElem (by omega)⟩;have q4:w2.cell? ⟨w.heap.size,j * 10+4,none⟩=some u4:=by rw[hK2.cell,hu4]
    obtain ⟨u5,hu5⟩:∃ u,cs[j * 10+5]? = some u:=⟨_,Array.getElem?_eq_getElem (by omega)⟩;have q5:w2.cell? ⟨w.heap.size,j * 10+5,none⟩=some u5:=by rw[hK2.cell,hu5]
    obtain ⟨u6,hu6⟩:∃ u,cs[j * 10+6]? = some u:=⟨_,Array.getElem?_eq_getElem (by omega)⟩;have q6:w2.cell? ⟨w.heap.size,j * 10+6,none⟩=some u6:=by rw[hK2.cell,hu6]
    obtain ⟨u7,hu7⟩:∃ u,cs[j * 10+7]? = some u:=⟨_,Array.getElem?_eq_getElem (by omega)⟩;have q7:w2.cell? ⟨w.heap.size,j * 10+7,none⟩=some u7:=by rw[hK2.cell,hu7]
    obtain ⟨u8,hu8⟩:∃ u,cs[j * 10+8]? = some u:=⟨_,Array.getElem?_eq_getElem (by omega)⟩;have q8:w2.cell? ⟨w.heap.size,j * 10+8,none⟩=some u8:=by rw[hK2.cell,hu8]
    obtain ⟨u9,hu9⟩:∃ u,cs[j * 10+9]? = some u:=⟨_,Array.getElem?_eq_getElem (by omega)⟩;have q9:w2.cell? ⟨w.heap.size,j * 10+9,none⟩=some u9:=by rw[hK2.cell,hu9]
    have r2:=hK2.frozen;clear hs hu0 hu1 hu2 hu3 hu4 hu5 hu6 hu7 hu8 hu9;(go_wp2_with fail);have hs:=HS.o
    go_round
    case rel=>
     refine ⟨j+1,put10 cs (j * 10) (.int .i64 k) (.int .i64 a) (.int .i64 b) (.bool t.eq) (.int .i64 t.a) (.int .i64 t.b) _ _ _ _,by omega,by go_num,ax (by rw[put10_size,hs]),Blk.put10 hK2 _ _ _ _ _ _ _ _ _ _ _,ax ?_,bel⟩
     have M:∀ {w5:World},w5.heap.size=w2.heap.size→Mk (fun g=>w.heap.size≤g∧g<w.heap.size+1) w2 w5→CmsOAt w5 (L.take (j+1)) (put10 cs (j * 10) (.int .i64 k) (.int .i64 a) (.int .i64 b) (.bool t.eq) (.int .i64 t.a) (.int .i64 t.b) (.slice AF i.facts.length cF) (.slice AA i.atoms.length cA) (.slice (some ⟨gB,0,none⟩) body.len body.len) (.slice (some ⟨gE,0,none⟩) els.len els.len)) 0 (w.heap.size+1) w5.heap.size:=fun {w5} hsz5 M=>by
      have z2:CmsO w2 m1 m2 (.slice (some ⟨gB,0,none⟩) body.len body.len) body:=⟨gB,csB,rfl,x2.o⟩;have z3:CmsO w2 m2 m3 (.slice (some ⟨gE,0,none⟩) els.len els.len) els:=⟨gE,csE,rfl,x3.o⟩;obtain ⟨g1,cs1,e1',a1,a2,a3,a4,a5⟩:=z2.mk M (by omega);have b1:=a5.le;obtain ⟨g2,cs2,e2',d1,d2,d3,d4,d5⟩:=z3.mk M (by omega);injection e1' with e1';injection e1' with e1';injection e1' with e1';subst e1';injection e2' with e2';injection e2' with e2';injection e2' with e2';subst e2';have hl5:(L.take j).len=j:=Cms.take_len j L (by rw[←hn.o];omega);refine CmsOAt.snoc ((HC2.o.mk M (by omega)).cells fun x h1 h2=>put10_far (by rw[hl5] at h2;omega)) eL.o ?_;rw[Nat.zero_add];exact ⟨_,_,gB,gE,cs1,cs2,m1,m2,m3,put10_ten (by rw[hs];omega) k a b t _ _ _ _,⟨e1,x1.o.mk M (by omega)⟩,⟨a1,a2,a3,a4,a5⟩,⟨d1,d2,d3,d4,d5⟩,by rw[hsz5];exact e3⟩
     refine M (by simp) ?_;exact Mk.set (Mk.set (Mk.set (Mk.set (Mk.set (Mk.set (Mk.set (Mk.set (Mk.set (Mk.set (Mk.refl _ _) ⟨by simp,by simp⟩ _) ⟨by simp,by simp⟩ _) ⟨by simp,by simp⟩ _) ⟨by simp,by simp⟩ _) ⟨by simp,by simp⟩ _) ⟨by simp,by simp⟩ _) ⟨by simp,by simp⟩ _) ⟨by simp,by simp⟩ _) ⟨by simp,by simp⟩ _) ⟨by simp,by simp⟩ _
    case measure=>simp[intOf];omega
   ·(go_wp2_with fail);go_ret;obtain rfl:j=n:=by omega
    have h1:=HC.o;rw[hn.o,Cms.take_all] at h1;have h2:=HS.o;have hn':=hn.o;subst hn';exact ⟨_,rfl,⟨_,cs,rfl,Nat.le_refl _,hK,h2,hlen,h1⟩,hB⟩
def eq1 (k a b:Int) (t:Fct) (i:Asn) (body els:Cms) (k' a' b':Int) (t':Fct) (i':Asn) (body' els':Cms):Bool:=decide (k=k'∧a=a'∧b=b'∧t=t'∧i=i'∧body=body'∧els=els')
theorem c_eqCmd {lo hi lo' hi':Nat} (k a b:Int) (t:Fct) (i:Asn) (A1 A2 A3 A4:Option Addr) (c1 c2 c3 c4:Nat) (body els:Cms)
  (k' a' b':Int) (t':Fct) (i':Asn) (B1 B2 B3 B4:Option Addr) (d1 d2 d3 d4:Nat) (body' els':Cms) (w:World)
  (ha:AsnV w lo hi (.agg #[.slice A1 i.facts.length c1,.slice A2 i.atoms.length c2]) i) (hb:CmsV w lo hi A3 body) (he:CmsV w lo hi A4 els)
  (ha':AsnV w lo' hi' (.agg #[.slice B1 i'.facts.length d1,.slice B2 i'.atoms.length d2]) i') (hb':CmsV w lo' hi' B3 body') (he':CmsV w lo' hi' B4 els')
  (IB:∀ (w:World),CmsV w lo hi A3 body→CmsV w lo' hi' B3 body'→Calls Tryz.prog 20 #[.slice A3 body.len c3,.slice B3 body'.len d3] w fun e w'=>e=.returned (.bool (decide (body=body')))∧Below w.heap.size w w')
  (IE:∀ (w:World),CmsV w lo hi A4 els→CmsV w lo' hi' B4 els'→Calls Tryz.prog 20 #[.slice A4 els.len c4,.slice B4 els'.len d4] w fun e w'=>e=.returned (.bool (decide (els=els')))∧Below w.heap.size w w') :
  Calls Tryz.prog 35 #[.agg #[.int .i64 k,.int .i64 a,.int .i64 b,.bool t.eq,.int .i64 t.a,.int .i64 t.b,.slice A1 i.facts.length c1,.slice A2 i.atoms.length c2,.slice A3 body.len c3,.slice A4 els.len c4],
    .agg #[.int .i64 k',.int .i64 a',.int .i64 b',.bool t'.eq,.int .i64 t'.a,.int .i64 t'.b,.slice B1 i'.facts.length d1,.slice B2 i'.atoms.length d2,.slice B3 body'.len d3,.slice B4 els'.len d4]] w fun e w'=>
   e=.returned (.bool (eq1 k a b t i body els k' a' b' t' i' body' els'))∧Below w.heap.size w w':=by
 obtain ⟨R,hR⟩:∃ R,R=eq1 k a b t i body els k' a' b' t' i' body' els':=⟨_,rfl⟩;rw[←hR];have hE:=ax (hR.trans (show eq1 k a b t i body els k' a' b' t' i' body' els'=(decide (k=k')&&(decide (a=a')&&(decide (b=b')&&(decide (t=t')&&(decide (i=i')&&(decide (body=body')&&decide (els=els'))))))) from by simp only[eq1,Bool.decide_and]));clear hR;replace IB:=ax IB;replace IE:=ax IE;replace ha:=ax ha;replace hb:=ax hb;replace he:=ax he;replace ha':=ax ha';replace hb':=ax hb';replace he':=ax he';by_cases q0:k=k'
 case neg=>
  have hq:=ax q0;(go_enter Tryz.func35,Tryz.ntmps35);(go_wp2_with fail);go_ret;exact ⟨zjD (by rw[hE.o,decide_eq_false hq.o];rfl),bel⟩
 by_cases q1:a=a'
 case neg=>
  have hq:=ax q1;have hp:=ax (decide_eq_true q0);(go_enter Tryz.func35,Tryz.ntmps35);(go_wp2_with fail);go_ret;exact ⟨zjD (by rw[hE.o,decide_eq_false hq.o,hp.o];rfl),bel⟩
 by_cases q2:b=b'
 case neg=>
  have hq:=ax q2;have hp:=ax (decide_eq_true q0);have hp1:=ax (decide_eq_true q1);(go_enter Tryz.func35,Tryz.ntmps35);(go_wp2_with fail);go_ret;exact ⟨zjD (by rw[hE.o,decide_eq_false hq.o,hp.o,hp1.o];rfl),bel⟩
 have hE2:=ax (show R=(decide (t=t')&&(decide (i=i')&&(decide (body=body')&&decide (els=els')))) from by rw[hE.o,decide_eq_true q0,decide_eq_true q1,decide_eq_true q2];rfl);clear hE;(go_enter Tryz.func35,Tryz.ntmps35);(go_wp2_with fail);refine (c_eqFact t t' _).mono ?_;rintro e w1 ⟨rfl,hB1⟩;have hB:=bgo (w:=w) bel hB1;have K0:=(Blk.nz (g:=w.heap.size) (((Blk.new w _ _).alloc _)) hB1);have K1:=(Blk.nz (g:=w.heap.size+1) (by rw[←World.size_alloc];exact Blk.new (w.alloc _) _ _) hB1);have k0:=K0.cell;have k1:=K1.cell;have l0:=K0.lt;have l1:=K1.lt;cases hd:decide (t=t')
 ·(go_wp2_with fail);go_ret;exact ⟨zjD (by rw[hE2.o,hd];rfl),hB⟩
 replace hd:=ax hd;(go_wp2_with fail);refine (c_eqAssertion _ _ i i' _ (ha.o.bz hB) (ha'.o.bz hB)).mono ?_;rintro e w2 ⟨rfl,hB2⟩;have hBB:=bgo hB hB2;have K0:=K0.nz hB2;have K1:=K1.nz hB2;clear k0 k1;have k0:=K0.cell;have k1:=K1.cell;have l0:=K0.lt;have l1:=K1.lt;cases hd2:decide (i=i')
 ·(go_wp2_with fail);go_ret;exact ⟨zjD (by rw[hE2.o,hd.o,hd2];rfl),hBB⟩
 replace hd2:=ax hd2;(go_wp2_with fail);refine (IB.o _ (hb.o.bz hBB) (hb'.o.bz hBB)).mono ?_;rintro e w3 ⟨rfl,hB3⟩;have hBBB:=bgo hBB hB3;have K0:=K0.nz hB3;have K1:=K1.nz hB3;clear k0 k1;have k0:=K0.cell;have k1:=K1.cell;have l0:=K0.lt;have l1:=K1.lt;cases hd3:decide (body=body')
 ·(go_wp2_with fail);go_ret;exact ⟨zjD (by rw[hE2.o,hd.o,hd2.o,hd3];rfl),hBBB⟩
 replace hd3:=ax hd3;(go_wp2_with fail);refine (IE.o _ (he.o.bz hBBB) (he'.o.bz hBBB)).mono ?_;rintro e w4 ⟨rfl,hB4⟩;have hB5:=bgo hBBB hB4;cases hd4:decide (els=els')
 all_goals
  (go_wp2_with fail);go_ret;exact ⟨zjD (by rw[hE2.o,hd.o,hd2.o,hd3.o,hd4];rfl),hB5⟩
theorem cms_step {L M:Cms} {j:Nat} {k a b:Int} {t:Fct} {i:Asn} {body els r:Cms} {k' a' b':Int} {t':Fct} {i':Asn} {body' els' r':Cms} (h:L.drop j=.cons k a b t i body els r) (h':M.drop j=.cons k' a' b' t' i' body' els' r') :
  decide (L.drop j=M.drop j)=(eq1 k a b t i body els k' a' b' t' i' body' els'&&decide (L.drop (j+1)=M.drop (j+1))):=by
 rw[Cms.drop_succ j L h,Cms.drop_succ j M h',h,h'];unfold eq1;rw[←Bool.decide_and];refine decide_eq_decide.2 ?_;constructor
 ·intro e;injection e with e1 e2 e3 e4 e5 e6 e7 e8;exact ⟨⟨e1,e2,e3,e4,e5,e6,e7⟩,e8⟩
 ·rintro ⟨⟨e1,e2,e3,e4,e5,e6,e7⟩,e8⟩;rw[e1,e2,e3,e4,e5,e6,e7,e8]
theorem eqCmdS_go:∀ (N:Nat) (L M:Cms),L.sz<N→∀ (A A':Option Addr) (c c':Nat) (w:World) (lo hi lo' hi':Nat),CmsV w lo hi A L→CmsV w lo' hi' A' M→L.len≤1049600→M.len≤1049600→L.small 1049600→M.small 1049600→
  Calls Tryz.prog 20 #[.slice A L.len c,.slice A' M.len c'] w fun e w'=>e=.returned (.bool (decide (L=M)))∧Below w.heap.size w w':=by
 intro N
 induction N with
 | zero=>intro L M h;omega
 | succ N IH=>
  intro L M hsz A A' c c' w lo hi lo' hi' hV hV' hlen hlen' hsm hsm';replace IH:=ax IH;replace hV:=ax hV;replace hV':=ax hV';replace hsm:=ax hsm;replace hsm':=ax hsm';replace hsz:=ax hsz;obtain ⟨n,hn⟩:∃ n,n=L.len:=⟨_,rfl⟩;obtain ⟨n',hn'⟩:∃ n',n'=M.len:=⟨_,rfl⟩;rw[←hn] at hlen;rw[←hn'] at hlen';rw[←hn,←hn'];replace hn:=ax hn;replace hn':=ax hn';obtain ⟨R,hR⟩:∃ R,R=decide (L=M):=⟨_,rfl⟩;rw[←hR];replace hR:=ax hR;by_cases hne:n=n'
  case neg=>
   have hq:=ax hne;(go_enter Tryz.func20,Tryz.ntmps20);(go_wp2_with fail);go_ret;exact ⟨zjD (by rw[hR.o];symm;rw[decide_eq_false_iff_not];intro e;exact hq.o (by rw[hn.o,hn'.o,e])),bel⟩
  subst hne;(go_enter Tryz.func20,Tryz.ntmps20);go_wp2
  go_loopw [5] (fun i wr=>∃ j:Nat,j≤n∧i=.int .i64 j∧aJ (R=decide (L.drop j=M.drop j))∧Below w.heap.size w wr) (fun i _=>n - (intOf i).toNat)
  case atStart=>exact ⟨0,Nat.zero_le _,rfl,ax hR.o,bel⟩
  case round=>
   obtain ⟨j,hj,rfl,HA,hB⟩:=hrel;by_cases hlt:j<n
   ·have hpos:0<(L.drop j).len:=by rw[Cms.drop_len,←hn.o];omega
    have hpos':0<(M.drop j).len:=by rw[Cms.drop_len,←hn'.o];omega
    obtain ⟨k,a,b,t,i,body,els,r,eL⟩:=Cms.cons_of_len hpos;obtain ⟨k',a',b',t',i',body',els',r',eM⟩:=Cms.cons_of_len hpos';obtain ⟨bl,o,rfl,-,-,hAt⟩:=(hV.o.bz hB) (by rw[←hn.o];omega);obtain ⟨bl',o',rfl,-,-,hAt'⟩:=(hV'.o.bz hB) (by rw[←hn'.o];omega);have hD:=hAt.drop j;have hD':=hAt'.drop j;have hS:=Cms.small_drop j hsm.o;have hS':=Cms.small_drop j hsm'.o;have hZ:=Cms.sz_drop j L;have hStep:=ax (HA.o.trans (cms_step eL eM));rw[eL] at hD hS hZ;rw[eM] at hD' hS';obtain ⟨⟨p0,p1,p2,p3,p4,p5⟩,⟨A6,c6,p6,g6⟩,⟨A7,c7,p7,g7⟩,⟨A8,c8,p8,g8⟩,⟨A9,c9,p9,g9⟩,-⟩:=hD;obtain ⟨⟨r0,r1,r2,r3,r4,r5⟩,⟨B6,d6,r6,f6⟩,⟨B7,d7,r7,f7⟩,⟨B8,d8,r8,f8⟩,⟨B9,d9,r9,f9⟩,-⟩:=hD';obtain ⟨s1,s2,s3,s4,s5,s6,-⟩:=hS;obtain ⟨y1,y2,y3,y4,y5,y6,-⟩:=hS';simp only[Cms.sz] at hZ;have hbs:body.sz<N:=by have:=hsz.o;omega
    have hes:els.sz<N:=by have:=hsz.o;omega
    have ha:AsnV wr lo hi (.agg #[.slice A6 i.facts.length c6,.slice A7 i.atoms.length c7]) i:=⟨_,_,_,_,rfl,⟨g6,s1⟩,⟨g7,s2⟩⟩;have ha':AsnV wr lo' hi' (.agg #[.slice B6 i'.facts.length d6,.slice B7 i'.atoms.length d7]) i':=⟨_,_,_,_,rfl,⟨f6,y1⟩,⟨f7,y2⟩⟩;have call:=fun (wd:World) (hBd:Below wr.heap.size wr wd)=>c_eqCmd k a b t i A6 A7 A8 A9 c6 c7 c8 c9 body els k' a' b' t' i' B6 B7 B8 B9 d6 d7 d8 d9 body' els' wd (ha.bz hBd) (CmsV.bz g8 hBd) (CmsV.bz g9 hBd) (ha'.bz hBd) (CmsV.bz f8 hBd) (CmsV.bz f9 hBd) (fun w h1 h2=>IH.o body body' hbs _ _ _ _ _ _ _ _ _ h1 h2 s3 y3 s5 y5) (fun w h1 h2=>IH.o els els' hes _ _ _ _ _ _ _ _ _ h1 h2 s4 y4 s6 y6);replace call:=ax call;clear hZ hpos hpos' hAt hAt' g6 g7 g8 g9 f6 f7 f8 f9 s1 s2 s3 s4 s5 s6 y1 y2 y3 y4 y5 y6 hbs hes ha ha' eL eM HA;generalize hQ:eq1 k a b t i body els k' a' b' t' i' body' els'=Q at call hStep;clear hQ;cases Q
    all_goals
     go_wp2_with fail
     go_still_tail 8,(by kernel_rfl)
     change wpList _ _ _ _ _ wr.drew
     have hBd:=hB.drew;have hBr:=(Below.refl wr.heap.size wr).drew;clear hB p0 p1 p2 p3 p4 p5 p6 p7 p8 p9 r0 r1 r2 r3 r4 r5 r6 r7 r8 r9;generalize wr.drew=wd at *;(go_wp2_with (go_at_call 35;refine (call.o _ hBr).mono ?_;rintro e w' ⟨rfl,hB2⟩))
    ·go_ret;exact ⟨zjD (by rw[hStep.o];rfl),bgo hBd hB2⟩
    ·go_round
     case rel=>exact ⟨j+1,by omega,by go_num,by show _=_;rw[hStep.o];rfl,bgo hBd hB2⟩
     case measure=>simp[intOf];omega
   ·go_wp2;go_ret;obtain rfl:j=n:=by omega
    have e1:L.drop j=.nil:=by rw[hn.o];exact Cms.drop_all L
    have e2:M.drop j=.nil:=by rw[hn'.o];exact Cms.drop_all M
    exact ⟨zjD (by rw[HA.o,e1,e2];simp),hB⟩
def Cms.marks:Cms→Nat
 | .nil=>0
 | .cons _ _ _ _ i body els r=>6+3 * i.facts.length+3 * i.atoms.length+body.marks+els.marks+r.marks
theorem Cms.marks_le:∀ (L:Cms),L.marks≤6 * (L.len+L.cost)
 | .nil=>by simp[Cms.marks]
 | .cons k a b t i body els r=>by
  have h1:=Cms.marks_le body;have h2:=Cms.marks_le els;have h3:=Cms.marks_le r;simp only[Cms.marks,Cms.len,Cms.cost];omega
def set6 (w:World) (g o:Nat) (u0 u1 u2 u3 u4 u5:Value):World:=(((((w.setCell ⟨g,o,none⟩ u0).setCell ⟨g,o+1,none⟩ u1).setCell ⟨g,o+2,none⟩ u2).setCell ⟨g,o+3,none⟩ u3).setCell ⟨g,o+3+1,none⟩ u4).setCell ⟨g,o+3+2,none⟩ u5
theorem six {w:World} {g:Nat} {cs:Array Value} (h:Blk w g tC cs) (o:Nat) (u0 u1 u2 u3 u4 u5:Value):Mk (fun x=>g≤x∧x<g+1) w (set6 w g o u0 u1 u2 u3 u4 u5)∧∃ cs',Blk (set6 w g o u0 u1 u2 u3 u4 u5) g tC cs'∧cs'.size=cs.size∧∀ x,o+6≤x→cs'[x]? = cs[x]?:=by
 refine ⟨Mk.set (Mk.set (Mk.set (Mk.set (Mk.set (Mk.set (Mk.refl _ _) ⟨by simp,by simp⟩ _) ⟨by simp,by simp⟩ _) ⟨by simp,by simp⟩ _) ⟨by simp,by simp⟩ _) ⟨by simp,by simp⟩ _) ⟨by simp,by simp⟩ _,_,(((((h.set_ o u0).set_ (o+1) u1).set_ (o+2) u2).set_ (o+3) u3).set_ (o+3+1) u4).set_ (o+3+2) u5,by simp,fun x hx=>?_⟩
 iterate 6 rw[Array.getElem?_setIfInBounds_ne (by omega)]
theorem markCmdS_go:∀ (N:Nat) (L:Cms),L.sz<N→∀ (lo hi:Nat) (v:Value) (k0:Int) (w:World),CmsO w lo hi v L→0≤k0→k0+L.marks≤549755813888→
  Calls Tryz.prog 23 #[v,.int .i64 k0] w fun e w'=>e=.returned (.int .i64 (k0+L.marks))∧Mk (fun g=>lo≤g∧g<hi) w w':=by
 intro N
 induction N with
 | zero=>intro L h;omega
 | succ N IH=>
  intro L hsz lo hi v k0 w hO h0 h1;replace IH:=ax IH;replace hsz:=ax hsz;obtain ⟨g,cs0,rfl,hlo,hK0,hs0,hlen,hC0⟩:=hO;have hghi:g<hi:=hC0.le;obtain ⟨n,hn⟩:∃ n,n=L.len:=⟨_,rfl⟩;obtain ⟨tot,htot⟩:∃ tot,tot=L.marks:=⟨_,rfl⟩;rw[←hn] at hlen hs0 ⊢;rw[←htot] at h1 ⊢;replace hn:=ax hn;replace htot:=ax htot;replace hC0:=ax hC0;replace hs0:=ax hs0;(go_enter Tryz.func23,Tryz.ntmps23);(go_wp2_with fail)
  go_loopw [1,5] (fun x i wr=>∃ (j m lo1:Nat) (cs:Array Value),j≤n∧i=.int .i64 j∧x=.int .i64 (k0+m)∧aJ (m+(L.drop j).marks=tot)∧m≤tot∧aJ (cs.size=n * 10)∧Blk wr g tC cs∧g+1≤lo1∧aJ (CmsOAt wr (L.drop j) cs (j * 10) lo1 hi)∧Mk (fun g=>lo≤g∧g<hi) w wr) (fun _ i _=>n - (intOf i).toNat)
  case atStart=>exact ⟨0,0,g+1,cs0,Nat.zero_le _,rfl,by simp,ax (by rw[htot.o];simp[Cms.drop]),Nat.zero_le _,hs0,hK0,Nat.le_refl _,ax (by simpa [Cms.drop] using hC0.o),Mk.refl _ _⟩
  case round=>
   obtain ⟨j,m,lo1,cs,hj,rfl,rfl,hM,hmt,HS,hK,hlo1,HC,hMk⟩:=hrel;clear hK0;by_cases hlt:j<n
   ·have hpos:0<(L.drop j).len:=by rw[Cms.drop_len,←hn.o];omega
    obtain ⟨k,a,b,t,i,body,els,r,eL⟩:=Cms.cons_of_len hpos;have hD:=HC.o;have hZ:=Cms.sz_drop j L;have hDs:=Cms.drop_succ j L eL;have hM':=hM.o;rw[eL] at hD hZ hM';obtain ⟨vF,vA,gB,gE,csB,csE,m1,m2,m3,⟨t0,t1,t2,t3,t4,t5,t6,t7,t8,t9⟩,⟨e1,fv,av,ef,xF,xA⟩,xB,xE,xr⟩:=hD;injection ef with ef;injection ef with ef;injection ef with ef ea;injection ea with ea;subst ef ea;have hd:=xF.1.ne_atoms xA.1;obtain ⟨AF,cF,rfl⟩:=xF.form;obtain ⟨AA,cA,rfl⟩:=xA.form;have lF:i.facts.length≤1049600:=xF.1.2;have lA:i.atoms.length≤1049600:=xA.1.2;have xB:CmsO wr m1 m2 (.slice (some ⟨gB,0,none⟩) body.len body.len) body:=⟨gB,csB,rfl,xB⟩;have xE:CmsO wr m2 m3 (.slice (some ⟨gE,0,none⟩) els.len els.len) els:=⟨gE,csE,rfl,xE⟩;have i1:m1≤m2:=by obtain ⟨_,_,_,z1,_,_,_,z2⟩:=xB;have:=z2.le;omega
    have i2:m2≤m3:=by obtain ⟨_,_,_,z1,_,_,_,z2⟩:=xE;have:=z2.le;omega
    have i3:m3≤hi:=xr.le;simp only[Cms.sz] at hZ;have hbs:body.sz<N:=by have:=hsz.o;omega
    have hes:els.sz<N:=by have:=hsz.o;omega
    simp only[Cms.marks] at hM';have c0:wr.cell? ⟨g,j * 10,none⟩=some (.int .i64 k):=by rw[hK.cell,t0]
    have c1:wr.cell? ⟨g,j * 10+1,none⟩=some (.int .i64 a):=by rw[hK.cell,t1]
    have c2:wr.cell? ⟨g,j * 10+2,none⟩=some (.int .i64 b):=by rw[hK.cell,t2]
    have c3:wr.cell? ⟨g,j * 10+3,none⟩=some (.bool t.eq):=by rw[hK.cell,t3]
    have c4:wr.cell? ⟨g,j * 10+4,none⟩=some (.int .i64 t.a):=by rw[hK.cell,t4]
    have c5:wr.cell? ⟨g,j * 10+5,none⟩=some (.int .i64 t.b):=by rw[hK.cell,t5]
    have c6:wr.cell? ⟨g,j * 10+6,none⟩=some (.slice AF i.facts.length cF):=by rw[hK.cell,t6]
    have c7:wr.cell? ⟨g,j * 10+7,none⟩=some (.slice AA i.atoms.length cA):=by rw[hK.cell,t7]
    have c8:wr.cell? ⟨g,j * 10+8,none⟩=some (.slice (some ⟨gB,0,none⟩) body.len body.len):=by rw[hK.cell,t8]
    have c9:wr.cell? ⟨g,j * 10+9,none⟩=some (.slice (some ⟨gE,0,none⟩) els.len els.len):=by rw[hK.cell,t9]
    have r2:=hK.frozen;replace hbs:=ax hbs;replace hes:=ax hes;replace hd:=ax hd;replace xF:=ax xF;replace xA:=ax xA;replace xB:=ax xB;replace xE:=ax xE;replace xr:=ax xr;replace hDs:=ax hDs;replace hM':=ax hM';replace t7:=ax t7;replace t8:=ax t8;replace t9:=ax t9;clear hZ hpos eL t0 t1 t2 t3 t4 t5 t6 hM HC;have q1:k0+m+6≤549755813888:=by have:=hM'.o;omega
    (go_wp2_with fail);have hsix:=six hK (j * 10) (.int .i64 (k0+m)) (.int .i64 (k0+m+1)) (.int .i64 (k0+m+1+1)) (.bool ((k0+m+1+1+1) % 3 == 0)) (.int .i64 (k0+m+1+1+1+1)) (.int .i64 (k0+m+1+1+1+1+1))
    change Calls _ _ _ (set6 wr g (j * 10) (.int .i64 (k0+m)) (.int .i64 (k0+m+1)) (.int .i64 (k0+m+1+1)) (.bool ((k0+m+1+1+1) % 3 == 0)) (.int .i64 (k0+m+1+1+1+1)) (.int .i64 (k0+m+1+1+1+1+1))) _
    generalize set6 wr g (j * 10) (.int .i64 (k0+m)) (.int .i64 (k0+m+1)) (.int .i64 (k0+m+1+1)) (.bool ((k0+m+1+1+1) % 3 == 0)) (.int .i64 (k0+m+1+1+1+1)) (.int .i64 (k0+m+1+1+1+1+1))=V at hsix ⊢;obtain ⟨M6,cs',hKV,hsz',hfar⟩:=hsix;replace hfar:=ax hfar;replace hsz':=ax hsz';clear c0 c1 c2 c3 c4 c5 c6 c7 c8 c9 r2 hK;have b1:=hM'.o;refine (c_markFactS _ i.facts _ lo1 V (xF.o.mk M6 (by omega)).1 (by omega) (by omega)).mono ?_;rintro e w1 ⟨rfl,-,hM1⟩;have hM1':Mk (fun x=>lo1≤x∧x<m1) V w1:=hM1.mono fun x e=>⟨(xF.o.1.1.lt x e).1,xF.o.2 x e⟩;have hK1:=hM1'.blk hKV (by omega);have oA:=((xA.o.mk M6 (by omega)).1.mk hM1 (fun x e1 e2=>hd.o x e2 e1));have MA:Mk (fun x=>g≤x∧x<m1) wr w1:=(M6.mono fun x hx=>by omega).trans (hM1'.mono fun x hx=>by omega);clear hM1 hM1' hKV M6;replace oA:=ax oA;replace MA:=ax MA;have c7:w1.cell? ⟨g,j * 10+7,none⟩=some (.slice AA i.atoms.length cA):=by rw[hK1.cell,hfar.o _ (by omega),t7.o]
    (go_wp2_with fail);have b1:=hM'.o;refine (c_markAtomS _ i.atoms _ lo1 w1 oA.o (by omega) (by omega)).mono ?_;rintro e w2 ⟨rfl,-,hM2⟩;have hM2':Mk (fun x=>lo1≤x∧x<m1) w1 w2:=hM2.mono fun x e=>⟨(xA.o.1.1.lt x e).1,xA.o.2 x e⟩;have hK2:=hM2'.blk hK1 (by omega);have MB:Mk (fun x=>g≤x∧x<m1) wr w2:=MA.o.trans (hM2'.mono fun x hx=>by omega);clear hM2 hM2' c7 oA;replace MB:=ax MB;have c8:w2.cell? ⟨g,j * 10+8,none⟩=some (.slice (some ⟨gB,0,none⟩) body.len body.len):=by rw[hK2.cell,hfar.o _ (by omega),t8.o]
    (go_wp2_with fail);have b1:=hM'.o;refine (IH.o body hbs.o m1 m2 _ _ w2 (xB.o.mk MB.o (by omega)) (by omega) (by omega)).mono ?_;rintro e w3 ⟨rfl,hM3⟩;have hK3:=hM3.blk hK2 (by omega);have MC:Mk (fun x=>g≤x∧x<m2) wr w3:=(MB.o.mono fun x hx=>by omega).trans (hM3.mono fun x hx=>by omega);clear hM3 c8;replace MC:=ax MC;have c9:w3.cell? ⟨g,j * 10+9,none⟩=some (.slice (some ⟨gE,0,none⟩) els.len els.len):=by rw[hK3.cell,hfar.o _ (by omega),t9.o]
    (go_wp2_with fail);have b1:=hM'.o;refine (IH.o els hes.o m2 m3 _ _ w3 (xE.o.mk MC.o (by omega)) (by omega) (by omega)).mono ?_;rintro e w4 ⟨rfl,hM4⟩;have hK4:=hM4.blk hK3 (by omega);have MD:Mk (fun x=>g≤x∧x<m3) wr w4:=(MC.o.mono fun x hx=>by omega).trans (hM4.mono fun x hx=>by omega);clear hM4 c9;replace MD:=ax MD;(go_wp2_with fail);have b1:=hM'.o
    go_round
    case rel=>
     refine ⟨j+1,m+6+3 * i.facts.length+3 * i.atoms.length+body.marks+els.marks,m3,cs',by omega,by go_num,by push_cast;congr 1;omega,ax (by rw[hDs.o];omega),by omega,ax (by rw[hsz'.o,HS.o]),hK4,by omega,ax ?_,hMk.trans (MD.o.mono fun x hx=>by omega)⟩;rw[hDs.o,show (j+1) * 10=j * 10+10 from by omega];exact (xr.o.mk MD.o (by omega)).cells fun x z1 z2=>hfar.o x (by omega)
    case measure=>simp[intOf];omega
   ·(go_wp2_with fail);go_ret;obtain rfl:j=n:=by omega
    have e1:L.drop j=.nil:=by rw[hn.o];exact Cms.drop_all L
    have h2:=hM.o;rw[e1] at h2;simp only[Cms.marks,Nat.add_zero] at h2;subst h2;exact ⟨rfl,hMk⟩
def noAsn (i:Asn):Bool:=decide (i.facts.length=0)&&decide (i.atoms.length=0)
def noFct (t:Fct):Bool:=decide (t=⟨false,0,0⟩)
def basicB (k:Int):Bool:=decide (1≤k∧k≤5)
theorem c_spec_l8NoInv (A1 A2:Option Addr) (c1 c2:Nat) (i:Asn) (w:World) (h1:i.facts.length≤1049600) (h2:i.atoms.length≤1049600):Calls Tryz.prog 161 #[.agg #[.slice A1 i.facts.length c1,.slice A2 i.atoms.length c2]] w fun e w'=>e=.returned (.bool (noAsn i))∧Below w.heap.size w w':=by
 obtain ⟨R,hR⟩:∃ R,R=noAsn i:=⟨_,rfl⟩;rw[←hR];unfold noAsn at hR;replace hR:=ax hR;by_cases q1:i.facts.length=0
 all_goals by_cases q2:i.atoms.length=0
 all_goals
  (go_enter Tryz.func161,Tryz.ntmps161);go_wp2;go_ret;exact ⟨zjD (by rw[hR.o];simp_all),bel⟩
theorem c_impl_noAssertion (A1 A2:Option Addr) (c1 c2:Nat) (i:Asn) (w:World) (h1:i.facts.length≤1049600) (h2:i.atoms.length≤1049600):Calls Tryz.prog 151 #[.agg #[.slice A1 i.facts.length c1,.slice A2 i.atoms.length c2]] w fun e w'=>e=.returned (.bool (noAsn i))∧Below w.heap.size w w':=by
 obtain ⟨R,hR⟩:∃ R,R=noAsn i:=⟨_,rfl⟩;rw[←hR];unfold noAsn at hR;replace hR:=ax hR;by_cases q1:i.facts.length=0
 all_goals by_cases q2:i.atoms.length=0
 all_goals
  (go_enter Tryz.func151,Tryz.ntmps151);go_wp2;go_ret;exact ⟨zjD (by rw[hR.o];simp_all),bel⟩
theorem c_spec_l8NoFact (t:Fct) (w:World):Calls Tryz.prog 160 #[t.val] w fun e w'=>e=.returned (.bool (noFct t))∧Below w.heap.size w w':=by
 obtain ⟨q,a,b⟩:=t;(go_enter Tryz.func160,Tryz.ntmps160);go_wp2
 all_goals
  go_ret;exact ⟨zjD (by simp_all [noFct]),bel⟩
theorem c_impl_isBasic (k a b:Int) (t:Fct) (vF vA vB vE:Value) (w:World):Calls Tryz.prog 94 #[.agg #[.int .i64 k,.int .i64 a,.int .i64 b,.bool t.eq,.int .i64 t.a,.int .i64 t.b,vF,vA,vB,vE]] w fun e w'=>e=.returned (.bool (basicB k))∧Below w.heap.size w w':=by
 by_cases h:1≤k
 ·by_cases h2:k≤5
  all_goals
   (go_enter Tryz.func94,Tryz.ntmps94);go_wp2;go_ret;exact ⟨zjD (by simp[basicB,h,h2]),bel⟩
 ·(go_enter Tryz.func94,Tryz.ntmps94);go_wp2;go_ret;exact ⟨zjD (by simp[basicB];omega),bel⟩
def plainB (t:Fct) (i:Asn) (body els:Cms):Bool:=noFct t&&(noAsn i&&(decide (body.len=0)&&decide (els.len=0)))
def fieldsB (k a b:Int):Bool:=
 if k=1∨k=2 then isProgB a&&jq b else if k=3 then jq a&&jq b else if k=4 then isProgB a&&decide (b=0) else if k=5 then jq a&&decide (b=0) else false
theorem c_spec_l8Basic_no (k a b:Int) (t:Fct) (i:Asn) (A1 A2 A3 A4:Option Addr) (c1 c2 c3 c4:Nat) (body els:Cms) (w:World) (h1:i.facts.length≤1049600) (h2:i.atoms.length≤1049600) (h3:body.len≤1049600) (h4:els.len≤1049600) (hn:plainB t i body els=false) :
  Calls Tryz.prog 97 #[.agg #[.int .i64 k,.int .i64 a,.int .i64 b,.bool t.eq,.int .i64 t.a,.int .i64 t.b,.slice A1 i.facts.length c1,.slice A2 i.atoms.length c2,.slice A3 body.len c3,.slice A4 els.len c4]] w fun e w'=>e=.returned (.bool false)∧Below w.heap.size w w':=by
 obtain ⟨x,hx⟩:∃ x,x=noFct t:=⟨_,rfl⟩;obtain ⟨y,hy⟩:∃ y,y=noAsn i:=⟨_,rfl⟩;unfold plainB at hn;rw[←hx,←hy] at hn;replace hx:=ax hx;replace hy:=ax hy;replace hn:=ax hn;(go_enter Tryz.func97,Tryz.ntmps97);(go_wp2_with fail);refine (c_spec_l8NoFact t _).mono ?_;rintro e w1 ⟨rfl,hB1⟩;rw[←hx.o];have hB:=bgo (w:=w) bel hB1;have K0:=(Blk.nz (g:=w.heap.size) (Blk.new w _ _) hB1);have q0:=K0.cell;have l0:=K0.lt;cases x
 ·(go_wp2_with fail);go_ret;exact ⟨zjD rfl,hB⟩
 (go_wp2_with fail);refine (c_spec_l8NoInv A1 A2 c1 c2 i _ h1 h2).mono ?_;rintro e w2 ⟨rfl,hB2⟩;rw[←hy.o];have hBB:=bgo hB hB2;have K1:=K0.nz hB2;clear q0 l0;have q0:=K1.cell;have l0:=K1.lt;cases y
 ·(go_wp2_with fail);go_ret;exact ⟨zjD rfl,hBB⟩
 by_cases z1:body.len=0
 case neg=>
  have z1':0<body.len:=by omega
  (go_wp2_with fail);go_ret;exact ⟨zjD rfl,hBB⟩
 by_cases z2:els.len=0
 case neg=>
  have z2':0<els.len:=by omega
  (go_wp2_with fail);go_ret;exact ⟨zjD rfl,hBB⟩
 exact absurd hn.o (by simp[z1,z2])
theorem c_spec_l8Basic_yes (k a b:Int) (t:Fct) (i:Asn) (A1 A2 A3 A4:Option Addr) (c1 c2 c3 c4:Nat) (body els:Cms) (w:World) (h1:i.facts.length≤1049600) (h2:i.atoms.length≤1049600) (hn:plainB t i body els=true) :
  Calls Tryz.prog 97 #[.agg #[.int .i64 k,.int .i64 a,.int .i64 b,.bool t.eq,.int .i64 t.a,.int .i64 t.b,.slice A1 i.facts.length c1,.slice A2 i.atoms.length c2,.slice A3 body.len c3,.slice A4 els.len c4]] w fun e w'=>e=.returned (.bool (fieldsB k a b))∧Below w.heap.size w w':=by
 have hn':noFct t=true∧noAsn i=true∧body.len=0∧els.len=0:=by simpa [plainB] using hn
 obtain ⟨e1,e2,e3,e4⟩:=hn';rw[e3,e4];clear hn e3 e4;replace e1:=ax e1;replace e2:=ax e2;obtain ⟨R,hR⟩:∃ R,R=fieldsB k a b:=⟨_,rfl⟩;rw[←hR];unfold fieldsB at hR;obtain ⟨pa,hpa⟩:∃ pa,pa=isProgB a:=⟨_,rfl⟩;obtain ⟨ta,hta⟩:∃ ta,ta=jq a:=⟨_,rfl⟩;obtain ⟨tb,htb⟩:∃ tb,tb=jq b:=⟨_,rfl⟩;rw[←hpa,←hta,←htb] at hR;replace hpa:=ax hpa;replace hta:=ax hta;replace htb:=ax htb;replace hR:=ax hR;(go_enter Tryz.func97,Tryz.ntmps97);(go_wp2_with fail);refine (c_spec_l8NoFact t _).mono ?_;rintro e w1 ⟨rfl,hB1⟩;rw[e1.o];have hB:=bgo (w:=w) bel hB1;have K0:=(Blk.nz (g:=w.heap.size) (Blk.new w _ _) hB1);have q0:=K0.cell;have l0:=K0.lt;(go_wp2_with fail);refine (c_spec_l8NoInv A1 A2 c1 c2 i _ h1 h2).mono ?_;rintro e w2 ⟨rfl,hB2⟩;rw[e2.o];have hBB:=bgo hB hB2;have K1:=K0.nz hB2;clear q0 l0;have q0:=K1.cell;have l0:=K1.lt;by_cases k1:k=1∨k=2
 ·have hR2:=ax (show R=(pa&&tb) from by rw[hR.o,if_pos k1]);clear hR;rcases k1 with rfl|rfl
  all_goals
   cases pa
   all_goals
    cases tb
    all_goals
     (go_wp2_with (first|(go_at_call 162;refine (c_spec_l8Prog a _).mono ?_;rintro e w' ⟨rfl,rfl⟩;rw[←hpa.o])|(go_at_call 132;refine (c_spec_l1Is b _).mono ?_;rintro e w' ⟨rfl,rfl⟩;rw[←htb.o])));go_ret;exact ⟨zjD (by rw[hR2.o];rfl),hBB⟩
 by_cases k3:k=3
 ·have hR2:=ax (show R=(ta&&tb) from by rw[hR.o,if_neg k1,if_pos k3]);clear hR;subst k3;clear k1;cases ta
  all_goals
   cases tb
   all_goals
    (go_wp2_with (first|(go_at_call 132;refine (c_spec_l1Is a _).mono ?_;rintro e w' ⟨rfl,rfl⟩;rw[←hta.o])|(go_at_call 132;refine (c_spec_l1Is b _).mono ?_;rintro e w' ⟨rfl,rfl⟩;rw[←htb.o])));go_ret;exact ⟨zjD (by rw[hR2.o];rfl),hBB⟩
 by_cases k4:k=4
 ·have hR2:=ax (show R=(pa&&decide (b=0)) from by rw[hR.o,if_neg k1,if_neg k3,if_pos k4]);clear hR;subst k4;clear k1 k3;cases pa
  all_goals
   by_cases b0:b=0
   all_goals
    have hb0:=ax b0;(go_wp2_with (go_at_call 162;refine (c_spec_l8Prog a _).mono ?_;rintro e w' ⟨rfl,rfl⟩;rw[←hpa.o]));go_ret;exact ⟨zjD (by rw[hR2.o];first|rfl|(simp_all)),hBB⟩
 by_cases k5:k=5
 ·have hR2:=ax (show R=(ta&&decide (b=0)) from by rw[hR.o,if_neg k1,if_neg k3,if_neg k4,if_pos k5]);clear hR;subst k5;clear k1 k3 k4;cases ta
  all_goals
   by_cases b0:b=0
   all_goals
    have hb0:=ax b0;(go_wp2_with (go_at_call 132;refine (c_spec_l1Is a _).mono ?_;rintro e w' ⟨rfl,rfl⟩;rw[←hta.o]));go_ret;exact ⟨zjD (by rw[hR2.o];first|rfl|(simp_all)),hBB⟩
 ·have hR2:=ax (show R=false from by rw[hR.o,if_neg k1,if_neg k3,if_neg k4,if_neg k5]);clear hR;have ka:k≠1:=fun e=>k1 (.inl e);have kb:k≠2:=fun e=>k1 (.inr e);clear k1;(go_wp2_with fail);go_ret;exact ⟨zjD (by rw[hR2.o]),hBB⟩
def fvalB (k a b:Int) (t:Fct) (i:Asn) (body els:Cms):Bool:=
 if k=6 then decide (a=0)&&(decide (b=0)&&(t.valid&&noAsn i))
 else if k=7 then decide (a=0)&&(decide (b=0)&&(t.valid&&(i.valid&&decide (els.len=0))))
 else plainB t i body els&&fieldsB k a b
def Cms.shape:Cms→Nat→Bool
 | .nil,_=>true
 | .cons k a b t i body els r,d=>decide (0<d)&&(fvalB k a b t i body els&&(body.shape (d - 1)&&(els.shape (d - 1)&&r.shape d)))
def Cms.count:Cms→Nat→Nat
 | .nil,_=>0
 | .cons _ _ _ _ _ body els r,d=>if 0<d then body.count (d - 1)+els.count (d - 1)+1+r.count d else 0
theorem Cms.count_shape:∀ {L:Cms} {d:Nat},L.shape d=true→L.count d=L.sz
 | .nil,_,_=>rfl
 | .cons k a b t i body els r,d,h=>by
  simp only[Cms.shape,Bool.and_eq_true,decide_eq_true_eq] at h;obtain ⟨h0,-,h1,h2,h3⟩:=h;simp only[Cms.count,Cms.sz,if_pos h0,Cms.count_shape h1,Cms.count_shape h2,Cms.count_shape h3];omega
theorem Cms.count_le:∀ (L:Cms) (d:Nat),L.count d≤L.sz
 | .nil,_=>Nat.le_refl _
 | .cons k a b t i body els r,d=>by
  simp only[Cms.count,Cms.sz];have h1:=Cms.count_le body (d - 1);have h2:=Cms.count_le els (d - 1);have h3:=Cms.count_le r d
  split<;>omega
theorem Cms.len_sz:∀ (L:Cms),L.len≤L.sz
 | .nil=>Nat.le_refl _
 | .cons k a b t i body els r=>by simp only[Cms.len,Cms.sz];have:=Cms.len_sz r;omega
theorem Cms.sz_cost:∀ (L:Cms),L.sz≤L.len+L.cost
 | .nil=>Nat.le_refl _
 | .cons k a b t i body els r=>by
  simp only[Cms.sz,Cms.len,Cms.cost];have h1:=Cms.sz_cost body;have h2:=Cms.sz_cost els;have h3:=Cms.sz_cost r;omega
def Cms.prog (L:Cms):Bool:=L.shape 4&&decide (L.sz≤16)
theorem fvalB_basic {k a b:Int} {t:Fct} {i:Asn} {body els:Cms} (h6:k≠6) (h7:k≠7):fvalB k a b t i body els=(plainB t i body els&&fieldsB k a b):=by
 unfold fvalB;rw[if_neg h6,if_neg h7]
theorem fieldsB_basic {k a b:Int} (h:fieldsB k a b=true):1≤k∧k≤5:=by
 unfold fieldsB at h
 split at h
 ·rename_i h1;rcases h1 with rfl|rfl<;>omega
 split at h
 ·omega
 split at h
 ·omega
 split at h
 ·omega
 ·cases h
theorem Cms.shape_drop:∀ (n:Nat) {L:Cms} {d:Nat},L.shape d=true→(L.drop n).shape d=true
 | 0,L,d,h=>h
 | n+1,.nil,d,h=>rfl
 | n+1,.cons k a b t i body els r,d,h=>by
  simp only[Cms.shape,Bool.and_eq_true] at h;exact Cms.shape_drop n h.2.2.2.2
def CmsW (w:World) (lo hi:Nat) (A:Option Addr) (L:Cms):Prop:=CmsV w lo hi A L∧L.len+L.cost≤1048576
def CmsR (w:World) (A:Option Addr) (L:Cms):Prop:=L.len≤9223372036854775807∧L.small 9223372036854775807∧CmsV w 0 w.heap.size A L
section
variable {w w':World} {lo hi lo' hi' a b:Nat} {v:Value} {A:Option Addr} {L:Cms}
theorem CmsW.bz (h:CmsW w lo hi A L) (hb:Below w.heap.size w w'):CmsW w' lo hi A L:=⟨h.1.bz hb,h.2⟩
theorem CmsW.mono (h:CmsW w lo hi A L) (e1:lo'≤lo) (e2:hi≤hi'):CmsW w lo' hi' A L:=⟨h.1.mono e1 e2,h.2⟩
theorem CmsW.len (h:CmsW w lo hi A L):L.len≤1049600:=by have:=h.2;omega
theorem CmsW.small (h:CmsW w lo hi A L):L.small 1049600:=Cms.cost_small (by have:=h.2;omega)
theorem CmsW.sz (h:CmsW w lo hi A L):L.sz≤1049600:=by have:=h.2;have:=Cms.sz_cost L;omega
theorem CmsR.toW (h:CmsR w A L) (hl:L.len+L.cost≤1048576):CmsW w 0 w.heap.size A L:=⟨h.2.2,hl⟩
end
section
variable {w w':World} {lo hi lo' hi' a b:Nat} {v:Value} {A:Option Addr} {L:Cms}
end
end
section
open Go Go.RowKit Go.Proofs
attribute [local go_sem ↓] Go.wp_at_zero Go.wp_at_succ
structure Cm1 where
 k:Int
 a:Int
 b:Int
 t:Fct
 i:Asn
 body:Cms
 els:Cms
def Cm1.cost (x:Cm1):Nat:=cost1 x.i x.body x.els
def Cm1.marks (x:Cm1):Nat:=3 * x.i.facts.length+3 * x.i.atoms.length+x.body.marks+x.els.marks
theorem Cm1.marks_le (x:Cm1):x.marks≤6 * x.cost:=by
 have h1:=Cms.marks_le x.body;have h2:=Cms.marks_le x.els;unfold Cm1.marks Cm1.cost cost1;omega
theorem Cm1.parts_le {x:Cm1} {n:Nat} (h:x.cost≤n):x.i.facts.length≤n∧x.i.atoms.length≤n∧x.body.len+x.body.cost≤n∧x.els.len+x.els.cost≤n:=by
 unfold Cm1.cost cost1 at h;omega
def C1V (w:World) (lo hi:Nat) (v:Value) (x:Cm1):Prop:=∃ A1 c1 A2 c2 A3 c3 A4 c4,v=.agg #[.int .i64 x.k,.int .i64 x.a,.int .i64 x.b,.bool x.t.eq,.int .i64 x.t.a,.int .i64 x.t.b,.slice A1 x.i.facts.length c1,.slice A2 x.i.atoms.length c2,.slice A3 x.body.len c3,.slice A4 x.els.len c4]∧
 AsnV w lo hi (.agg #[.slice A1 x.i.facts.length c1,.slice A2 x.i.atoms.length c2]) x.i∧CmsW w lo hi A3 x.body∧CmsW w lo hi A4 x.els
def C1R (w:World) (v:Value) (x:Cm1):Prop:=∃ A1 c1 A2 c2 A3 c3 A4 c4,v=.agg #[.int .i64 x.k,.int .i64 x.a,.int .i64 x.b,.bool x.t.eq,.int .i64 x.t.a,.int .i64 x.t.b,.slice A1 x.i.facts.length c1,.slice A2 x.i.atoms.length c2,.slice A3 x.body.len c3,.slice A4 x.els.len c4]∧
 FactsR w A1 x.i.facts∧AtomsR w A2 x.i.atoms∧CmsR w A3 x.body∧CmsR w A4 x.els
def C1I (w:World) (lo hi:Nat) (v:Value) (x:Cm1):Prop:=∃ vF vA vB vE m1 m2 m3,v=.agg #[.int .i64 x.k,.int .i64 x.a,.int .i64 x.b,.bool x.t.eq,.int .i64 x.t.a,.int .i64 x.t.b,vF,vA,vB,vE]∧
 (lo≤m1∧m1≤m2∧m2≤m3∧m3≤hi)∧AsnI w lo m1 (.agg #[vF,vA]) x.i∧CmsO w m1 m2 vB x.body∧CmsO w m2 m3 vE x.els∧x.cost≤1048576
section
variable {w w':World} {lo hi lo' hi' a b:Nat} {v:Value} {x:Cm1}
theorem C1V.bz (h:C1V w lo hi v x) (hb:Below w.heap.size w w'):C1V w' lo hi v x:=by
 obtain ⟨A1,c1,A2,c2,A3,c3,A4,c4,e,h1,h2,h3⟩:=h;exact ⟨A1,c1,A2,c2,A3,c3,A4,c4,e,h1.bz hb,h2.bz hb,h3.bz hb⟩
theorem C1I.bz (h:C1I w lo hi v x) (hb:Below w.heap.size w w'):C1I w' lo hi v x:=by
 obtain ⟨vF,vA,vB,vE,m1,m2,m3,e,hm,h1,h2,h3,h4⟩:=h;exact ⟨vF,vA,vB,vE,m1,m2,m3,e,hm,h1.bz hb,h2.bz hb,h3.bz hb,h4⟩
theorem C1I.mk (h:C1I w lo hi v x) (hb:Mk (fun g=>a≤g∧g<b) w w') (hd:hi≤a∨b≤lo):C1I w' lo hi v x:=by
 obtain ⟨vF,vA,vB,vE,m1,m2,m3,e,hm,h1,h2,h3,h4⟩:=h;exact ⟨vF,vA,vB,vE,m1,m2,m3,e,hm,h1.mk hb (by omega),h2.mk hb (by omega),h3.mk hb (by omega),h4⟩
theorem C1I.form (h:C1I w lo hi v x):∃ A c B d E e F f,v=.agg #[.int .i64 x.k,.int .i64 x.a,.int .i64 x.b,.bool x.t.eq,.int .i64 x.t.a,.int .i64 x.t.b,.slice A x.i.facts.length c,.slice B x.i.atoms.length d,.slice E x.body.len e,.slice F x.els.len f]:=by
 obtain ⟨vF,vA,vB,vE,m1,m2,m3,rfl,hm,h1,h2,h3,h4⟩:=h;obtain ⟨A,c,B,d,e⟩:=h1.form;injection e with e;injection e with e;injection e with e1 e2;injection e2 with e2;obtain ⟨E,ec,rfl,-⟩:=h2.form;obtain ⟨F,fc,rfl,-⟩:=h3.form;exact ⟨A,c,B,d,E,ec,F,fc,by rw[e1,e2]⟩
theorem C1I.rj (h:C1I w lo hi v x):C1V w lo w.heap.size v x:=by
 obtain ⟨vF,vA,vB,vE,m1,m2,m3,rfl,hm,h1,h2,h3,h4⟩:=h;have h1':=h1.rj;obtain ⟨A,c,B,d,e⟩:=h1.form;injection e with e;injection e with e;injection e with e1 e2;injection e2 with e2;subst e1 e2;obtain ⟨E,ec,rfl,q1⟩:=h2.form;obtain ⟨F,fc,rfl,q2⟩:=h3.form;have hp:=Cm1.parts_le h4;exact ⟨A,c,B,d,E,ec,F,fc,rfl,h1',⟨q1.mono (by omega) (Nat.le_refl _),hp.2.2.1⟩,⟨q2.mono (by omega) (Nat.le_refl _),hp.2.2.2⟩⟩
end
def sz1 (x:Cm1) (left:Int):Int:=szL x.cost left
theorem sz1_le {x:Cm1} {left:Int} (h:¬sz1 x left<0):0≤sz1 x left∧sz1 x left=left - (x.cost:Int)∧0≤left:=by
 unfold sz1 at h ⊢;have:=szL_le h;omega
theorem c_sz1 (v:Value) (x:Cm1) (left:Int) (w:World) (h:C1R w v x) {w':World} (hb:Below w.heap.size w w') (h0:0≤left) (h1:left≤1048576) :
  Calls Tryz.prog 31 #[v,.int .i64 left] w' fun e w2=>e=.returned (.int .i64 (sz1 x left))∧Below w'.heap.size w' w2:=by
 obtain ⟨A1,c1,A2,c2,A3,c3,A4,c4,rfl,r1,r2,r3,r4⟩:=h;have hw:∀ {A:Option Addr} {L:Cms},CmsR w A L→CmsV w' 0 w'.heap.size A L:=fun r=>(r.2.2.bz hb).mono (Nat.le_refl _) hb.size
 exact c_szCmd x.k x.a x.b x.t x.i A1 A2 A3 A4 c1 c2 c3 c4 x.body x.els left w' (hw r3) (hw r4) r1.2 r2.2 h0 h1
  (fun l w hV h0 h1=>c_szCmdS x.body A3 c3 l w hV r3.1 r3.2.1 h0 h1) (fun l w hV h0 h1=>c_szCmdS x.els A4 c4 l w hV r4.1 r4.2.1 h0 h1)
theorem to_cmd {lo hi:Nat} (v:Value) (x:Cm1) (w:World) (h:C1V w lo hi v x) (hc:x.cost≤1048576):Calls Tryz.prog 33 #[v] w fun e w'=>∃ r,e=.returned r∧C1I w' w.heap.size w'.heap.size r x∧Below w.heap.size w w':=by
 obtain ⟨A1,c1,A2,c2,A3,c3,A4,c4,rfl,h1,h2,h3⟩:=h
 refine (c_toCmd x.k x.a x.b x.t x.i A1 A2 A3 A4 c1 c2 c3 c4 x.body x.els w h1 h2.1 h3.1
  (fun w hV=>toCmdS_go _ x.body (Nat.lt_succ_self _) A3 c3 w lo hi hV h2.len h2.small) (fun w hV=>toCmdS_go _ x.els (Nat.lt_succ_self _) A4 c4 w lo hi hV h3.len h3.small)).mono ?_
 rintro e w' ⟨vF,vA,vB,vE,m1,m2,m3,rfl,hm1,p1,p2,p3,hm3,hB⟩;have i1:m1≤m2:=by obtain ⟨_,_,_,z1,_,_,_,z2⟩:=p2;have:=z2.le;omega
 have i2:m2≤m3:=by obtain ⟨_,_,_,z1,_,_,_,z2⟩:=p3;have:=z2.le;omega
 exact ⟨_,rfl,⟨vF,vA,vB,vE,m1,m2,m3,rfl,⟨hm1,i1,i2,hm3⟩,p1,p2,p3,hc⟩,hB⟩
theorem t_cmd {lo hi lo' hi':Nat} (v v':Value) (x:Cm1) (w:World) (h:C1V w lo hi v x) (h':C1V w lo' hi' v' x):Calls Tryz.prog 35 #[v,v'] w fun e w'=>e=.returned (.bool true)∧Below w.heap.size w w':=by
 obtain ⟨A1,c1,A2,c2,A3,c3,A4,c4,rfl,h1,h2,h3⟩:=h;obtain ⟨B1,d1,B2,d2,B3,d3,B4,d4,rfl,g1,g2,g3⟩:=h'
 refine (c_eqCmd x.k x.a x.b x.t x.i A1 A2 A3 A4 c1 c2 c3 c4 x.body x.els x.k x.a x.b x.t x.i B1 B2 B3 B4 d1 d2 d3 d4 x.body x.els w h1 h2.1 h3.1 g1 g2.1 g3.1
  (fun w q1 q2=>eqCmdS_go _ x.body x.body (Nat.lt_succ_self _) A3 B3 c3 d3 w lo hi lo' hi' q1 q2 h2.len g2.len h2.small g2.small) (fun w q1 q2=>eqCmdS_go _ x.els x.els (Nat.lt_succ_self _) A4 B4 c4 d4 w lo hi lo' hi' q1 q2 h3.len g3.len h3.small g3.small)).mono ?_
 rintro e w' ⟨rfl,hB⟩;exact ⟨by simp[eq1],hB⟩
theorem m_cmd (v:Value) (x:Cm1) (k:Int) (lo hi:Nat) (w:World) (h:C1I w lo hi v x) (h0:0≤k) (h1:k≤549740000000) (hhi:hi≤w.heap.size):Calls Tryz.prog 36 #[v,.int .i64 k] w fun e w'=>e=.returned (.int .i64 (k+x.marks))∧True∧Mk (fun g=>lo≤g∧g<hi) w w':=by
 obtain ⟨vF,vA,vB,vE,m1,m2,m3,rfl,hm,p1,p2,p3,hc⟩:=h;have hmk:=Cm1.marks_le x;obtain ⟨A,c,B,d,e⟩:=p1.form;injection e with e;injection e with e;injection e with e1 e2;injection e2 with e2;subst e1 e2;obtain ⟨E,ec,rfl,-⟩:=p2.form;obtain ⟨F,fc,rfl,-⟩:=p3.form;obtain ⟨n1,hn1⟩:∃ n,n=3 * x.i.facts.length+3 * x.i.atoms.length:=⟨_,rfl⟩;have HN:aJ (x.marks=n1+x.body.marks+x.els.marks):=ax (by rw[hn1];rfl);have hb1:n1+x.body.marks+x.els.marks≤6291456:=by have:=HN.o;omega
 have HN1:=ax hn1;have P1:=ax p1;have P2:=ax p2;have P3:=ax p3;clear hn1 p1 p2 p3 hmk hc;(go_enter Tryz.func36,Tryz.ntmps36);have kc:Blk (w.alloc (.cells #[.int .i64 x.k,.int .i64 x.a,.int .i64 x.b,.bool x.t.eq,.int .i64 x.t.a,.int .i64 x.t.b,.slice A x.i.facts.length c,.slice B x.i.atoms.length d,.slice E x.body.len ec,.slice F x.els.len fc] tC)) w.heap.size tC #[.int .i64 x.k,.int .i64 x.a,.int .i64 x.b,.bool x.t.eq,.int .i64 x.t.a,.int .i64 x.t.b,.slice A x.i.facts.length c,.slice B x.i.atoms.length d,.slice E x.body.len ec,.slice F x.els.len fc]:=Blk.new _ _ _;have HB0:aJ (Below w.heap.size w (w.alloc (.cells #[.int .i64 x.k,.int .i64 x.a,.int .i64 x.b,.bool x.t.eq,.int .i64 x.t.a,.int .i64 x.t.b,.slice A x.i.facts.length c,.slice B x.i.atoms.length d,.slice E x.body.len ec,.slice F x.els.len fc] tC))):=ax bel;(go_wp2_with fail);refine (m_asn _ x.i k lo m1 _ (P1.o.bz HB0.o) h0 (by omega)).mono ?_;rintro e w1 ⟨rfl,-,hM1⟩;replace kc:=hM1.blk kc (by omega);have P2a:=ax ((P2.o.bz HB0.o).mk hM1 (.inr (Nat.le_refl _)));have P3a:=ax ((P3.o.bz HB0.o).mk hM1 (.inr (by omega)));have E1:aJ (k+3 * (x.i.facts.length:Int)+3 * (x.i.atoms.length:Int)=k+n1):=ax (by have:=HN1.o;omega);rw[E1.o];(replace qkc:=kc.z);(go_wp2_with fail);refine (markCmdS_go _ x.body (Nat.lt_succ_self _) m1 m2 _ (k+n1) _ P2a.o (by omega) (by omega)).mono ?_;rintro e w2 ⟨rfl,hM2⟩;replace kc:=hM2.blk kc (by omega);have P3b:=ax (P3a.o.mk hM2 (.inr (Nat.le_refl _)));(replace qkc:=kc.z);(go_wp2_with fail);refine (markCmdS_go _ x.els (Nat.lt_succ_self _) m2 m3 _ (k+n1+x.body.marks) _ P3b.o (by omega) (by omega)).mono ?_;rintro e w3 ⟨rfl,hM3⟩;(go_wp2_with fail);go_ret;have ee:k+(n1:Int)+(x.body.marks:Int)+(x.els.marks:Int)=k+(x.marks:Int):=by have:=HN.o;omega
 refine ⟨by rw[←ee];rfl,trivial,?_⟩;exact ((Mk.below_ HB0.o).trans (hM1.mono fun g h=>by omega)).trans ((hM2.mono fun g h=>by omega).trans (hM3.mono fun g h=>by omega))
end
section
open Go
def cl (c:List Int) (t:Int):Int:=(c[t.toNat]?).getD 0
def Fct.fits (c:List Int) (f:Fct):Bool:=decide (cl c f.a=cl c f.b) == f.eq
def Atm.fill (c:List Int) (x:Atm):Bool:=decide (x.kind=1) || !decide (cl c x.a=cl c x.b)
def Atm.cls (c:List Int) (x:Atm):Atm:=⟨x.kind,cl c x.a,cl c x.b⟩
def filledL (xs:List Atm) (c:List Int):List Atm:=(xs.filter (Atm.fill c)).map (Atm.cls c)
def apartF:List Int→List Atm→Bool
 | _,[]=>true
 | seen,x :: xs=>!decide (x.a=0) && !decide (x.a∈seen)&&apartF (seen++[x.a]) xs
def full (a:Asn) (c:List Int):Bool:=a.facts.all (Fct.fits c)&&apartF [] (filledL a.atoms c)
def gen (S:Nat):Nat→List Int→List (List Int)
 | 0,c=>[c]
 | n+1,c=>if S.testBit (8 - n) then (List.range (9 - n)).flatMap fun k=>if k<8 - n∧cl c k≠k then [] else gen S n (c.set (8 - n) k) else gen S n (c.set (8 - n) (-1))
def zeros:List Int:=[0,0,0,0,0,0,0,0,0]
def opened:List Int:=[0,-1,-1,-1,-1,-1,-1,-1,-1]
def cases (a:Asn) (S:Nat):List (List Int):=(gen S 9 zeros).filter (full a)
def possF (c:List Int) (last:Int) (fs:List Fct):Bool:=fs.all fun f=>!(decide (f.a≤last)&&decide (f.b≤last) && !f.fits c)
def inLast (c:List Int) (last:Int) (x:Atm):Bool:=decide (x.a≤last)&&decide (x.b≤last)&&x.fill c
def possA (c:List Int) (last:Int):List Int→List Atm→Bool
 | _,[]=>true
 | seen,x :: xs=>if inLast c last x then !decide (cl c x.a=0) && !decide (cl c x.a∈seen)&&possA c last (seen++[cl c x.a]) xs else possA c last seen xs
def poss (a:Asn) (c:List Int) (last:Int):Bool:=possF c last a.facts&&possA c last [] a.atoms
def ext (a:Asn) (S:Nat):Nat→List Int→List (List Int)
 | 0,c=>[c]
 | n+1,c=>if S.testBit (8 - n) then (List.range (9 - n)).flatMap fun k=>if k<8 - n∧cl c k≠k then [] else if poss a (c.set (8 - n) k) (8 - n:Nat) then ext a S n (c.set (8 - n) k) else [] else ext a S n (c.set (8 - n) (-1))
def fitsS (c:List Int) (fs:List Fct):Bool:=fs.all fun f=>!(decide (0≤cl c f.a)&&decide (0≤cl c f.b) && !f.fits c)
def earlyF (c:List Int):List Int→List Atm→Bool
 | _,[]=>true
 | seen,x :: xs=>if decide (x.kind=1)&&decide (0≤cl c x.a) then !decide (cl c x.a=0) && !decide (cl c x.a∈seen)&&earlyF c (seen++[cl c x.a]) xs else earlyF c seen xs
def seek (a:Asn) (S:Nat):Nat→List Int→List (List Int)
 | 0,c=>if fitsS c a.facts&&earlyF c [] a.atoms then (if apartF [] (filledL a.atoms c) then [c] else []) else []
 | n+1,c=>if fitsS c a.facts&&earlyF c [] a.atoms then (if S.testBit (8 - n) then (List.range (9 - n)).flatMap fun k=>if k<8 - n∧cl c k≠k then [] else seek a S n (c.set (8 - n) k) else seek a S n c) else []
theorem flatMap_congr' {α β:Type} {l:List α} {f g:α→List β} (h:∀ x∈l,f x=g x):l.flatMap f=l.flatMap g:=by
 induction l with
 | nil=>rfl
 | cons x xs ih=>rw[List.flatMap_cons,List.flatMap_cons,h x List.mem_cons_self,ih fun y hy=>h y (List.mem_cons_of_mem _ hy)]
section
variable {c d:List Int}
theorem cl_set (h:c.length=9) {t:Nat} (ht:t<9) (v:Int) {j:Int} (hj:0≤j):cl (c.set t v) j=if j=t then v else cl c j:=by
 unfold cl;by_cases e:j=t
 ·subst e;rw[if_pos rfl,Int.toNat_natCast,List.getElem?_set_self (by omega)];rfl
 ·rw[if_neg e,List.getElem?_set_ne (by omega)]
def Agr (c d:List Int) (last:Int):Prop:=∀ j:Int,0≤j→j≤last→cl d j=cl c j
theorem Agr.fits {f:Fct} {last:Int} (h:Agr c d last) (ha:0≤f.a) (hb:0≤f.b) (h1:f.a≤last) (h2:f.b≤last):f.fits d=f.fits c:=by
 unfold Fct.fits;rw[h _ ha h1,h _ hb h2]
theorem Agr.fill {f:Atm} {last:Int} (h:Agr c d last) (ha:0≤f.a) (hb:0≤f.b) (h1:f.a≤last) (h2:f.b≤last):f.fill d=f.fill c:=by
 unfold Atm.fill;rw[h _ ha h1,h _ hb h2]
def FactsOk (fs:List Fct):Prop:=∀ f∈fs,(0≤f.a∧f.a≤8)∧(0≤f.b∧f.b≤8)
def AtomsOk (xs:List Atm):Prop:=∀ x∈xs,(0≤x.a∧x.a≤8)∧(0≤x.b∧x.b≤8)
theorem Agr.possF {fs:List Fct} {last:Int} (h:Agr c d last) (hf:FactsOk fs):possF d last fs=possF c last fs:=by
 unfold Go.Proofs.YtgdfdmjnadnlnaaGreat.possF;rw[Bool.eq_iff_iff,List.all_eq_true,List.all_eq_true];refine forall_congr' fun f=>forall_congr' fun hm=>?_;obtain ⟨⟨h1,-⟩,⟨h2,-⟩⟩:=hf f hm;by_cases e1:f.a≤last
 ·by_cases e2:f.b≤last
  ·rw[h.fits h1 h2 e1 e2]
  ·simp[e2]
 ·simp[e1]
theorem Agr.inLast {x:Atm} {last:Int} (h:Agr c d last) (ha:0≤x.a) (hb:0≤x.b):inLast d last x=inLast c last x:=by
 unfold Go.Proofs.YtgdfdmjnadnlnaaGreat.inLast;by_cases e1:x.a≤last
 ·by_cases e2:x.b≤last
  ·rw[h.fill ha hb e1 e2]
  ·simp[e2]
 ·simp[e1]
theorem inLast_le {x:Atm} {last:Int} (h:inLast c last x=true):x.a≤last∧x.b≤last∧x.fill c=true:=by
 simp[inLast] at h;exact ⟨h.1.1,h.1.2,h.2⟩
theorem Agr.possA {last:Int} (h:Agr c d last):∀ (xs:List Atm) (seen:List Int),AtomsOk xs→possA d last seen xs=possA c last seen xs:=by
 intro xs
 induction xs with
 | nil=>intro seen _;rfl
 | cons x xs ih=>
  intro seen hx;have hx':AtomsOk xs:=fun y hy=>hx y (List.mem_cons_of_mem _ hy);obtain ⟨⟨h1,-⟩,⟨h2,-⟩⟩:=hx x List.mem_cons_self;unfold Go.Proofs.YtgdfdmjnadnlnaaGreat.possA;rw[h.inLast h1 h2];cases e:Go.Proofs.YtgdfdmjnadnlnaaGreat.inLast c last x
  ·simp only[Bool.false_eq_true,if_false];exact ih _ hx'
  ·rw[if_pos rfl,if_pos rfl,h _ h1 (inLast_le e).1,ih _ hx']
theorem Agr.poss {a:Asn} {last:Int} (h:Agr c d last) (hf:FactsOk a.facts) (hx:AtomsOk a.atoms):poss a d last=poss a c last:=by
 unfold Go.Proofs.YtgdfdmjnadnlnaaGreat.poss;rw[h.possF hf,h.possA _ _ hx]
theorem possA_iff (c:List Int) (last:Int):∀ (xs:List Atm) (seen:List Int),possA c last seen xs=true↔
  ((∀ x∈xs,inLast c last x=true→cl c x.a≠0∧cl c x.a∉seen)∧((xs.filter (inLast c last)).map fun x=>cl c x.a).Nodup):=by
 intro xs
 induction xs with
 | nil=>intro seen;simp[possA]
 | cons x xs ih=>
  intro seen;unfold possA;cases e:inLast c last x
  ·simp only[Bool.false_eq_true,if_false,ih];rw[List.filter_cons_of_neg (by simp[e])];constructor
   ·rintro ⟨h1,h2⟩;refine ⟨fun y hy=>?_,h2⟩;rcases List.mem_cons.1 hy with rfl|hy
    ·intro h;rw[e] at h;cases h
    ·exact h1 y hy
   ·rintro ⟨h1,h2⟩;exact ⟨fun y hy=>h1 y (List.mem_cons_of_mem _ hy),h2⟩
  ·rw[if_pos rfl,List.filter_cons_of_pos e,List.map_cons,List.nodup_cons];simp only[Bool.and_eq_true,Bool.not_eq_true',decide_eq_false_iff_not,ih];constructor
   ·rintro ⟨⟨g1,g2⟩,g3,g4⟩;refine ⟨fun y hy hl=>?_,?_,g4⟩
    ·rcases List.mem_cons.1 hy with rfl|hy
     ·exact ⟨g1,g2⟩
     ·have:=g3 y hy hl;exact ⟨this.1,fun h=>this.2 (List.mem_append_left _ h)⟩
    ·intro hm;obtain ⟨y,hy,ey⟩:=List.mem_map.1 hm;rw[List.mem_filter] at hy;exact (g3 y hy.1 hy.2).2 (List.mem_append_right _ (by simp[ey]))
   ·rintro ⟨g1,g2,g3⟩;have:=g1 x List.mem_cons_self e;refine ⟨⟨this.1,this.2⟩,fun y hy hl=>?_,g3⟩;have h2:=g1 y (List.mem_cons_of_mem _ hy) hl;refine ⟨h2.1,fun h=>?_⟩;rcases List.mem_append.1 h with h|h
    ·exact h2.2 h
    ·exact g2 (List.mem_map.2 ⟨y,List.mem_filter.2 ⟨hy,hl⟩,by simpa using h⟩)
theorem possA_mono {last last':Int} (hl:last≤last') {xs:List Atm} {seen:List Int} (h:possA c last' seen xs=true):possA c last seen xs=true:=by
 rw[possA_iff] at h ⊢
 have him:∀ x,inLast c last x=true→inLast c last' x=true:=by
  intro x hx;have:=inLast_le hx;simp[inLast,this.2.2];omega
 refine ⟨fun x hx hi=>h.1 x hx (him x hi),?_⟩;refine List.Nodup.sublist ?_ h.2;apply List.Sublist.map
 have e:xs.filter (inLast c last)=(xs.filter (inLast c last')).filter (inLast c last):=by
  rw[List.filter_filter];apply List.filter_congr;intro x _;cases e:inLast c last x
  ·simp
  ·simp[him x e]
 rw[e];exact List.filter_sublist
theorem possF_mono {last last':Int} (hl:last≤last') {fs:List Fct} (h:possF c last' fs=true):possF c last fs=true:=by
 unfold possF at *;rw[List.all_eq_true] at h ⊢;intro f hf;have:=h f hf;by_cases e1:f.a≤last
 ·by_cases e2:f.b≤last
  ·have e3:f.a≤last':=by omega
   have e4:f.b≤last':=by omega
   simpa [e1,e2,e3,e4] using this
  ·simp[e2]
 ·simp[e1]
theorem poss_mono {a:Asn} {last last':Int} (hl:last≤last') (h:poss a c last'=true):poss a c last=true:=by
 unfold poss at *;rw[Bool.and_eq_true] at h ⊢;exact ⟨possF_mono hl h.1,possA_mono hl h.2⟩
theorem apart_possA:∀ (xs:List Atm) (seen:List Int),AtomsOk xs→apartF seen (filledL xs c)=possA c 8 seen xs:=by
 intro xs
 induction xs with
 | nil=>intro seen _;rfl
 | cons x xs ih=>
  intro seen hx;have hx':AtomsOk xs:=fun y hy=>hx y (List.mem_cons_of_mem _ hy);obtain ⟨⟨-,h1⟩,⟨-,h2⟩⟩:=hx x List.mem_cons_self;have e:inLast c 8 x=x.fill c:=by simp[inLast,h1,h2]
  unfold possA filledL;rw[e];cases hf:x.fill c
  ·rw[List.filter_cons_of_neg (by simp[hf])];simp only[Bool.false_eq_true,if_false];exact ih _ hx'
  ·rw[List.filter_cons_of_pos hf,List.map_cons,if_pos rfl];unfold apartF;have:=ih (seen++[cl c x.a]) hx';unfold filledL at this;rw[show (Atm.cls c x).a=cl c x.a from rfl,this]
theorem full_poss {a:Asn} (hf:FactsOk a.facts) (hx:AtomsOk a.atoms):full a c=poss a c 8:=by
 unfold full poss;rw[apart_possA _ _ hx]
 congr 1
 unfold possF;rw[Bool.eq_iff_iff,List.all_eq_true,List.all_eq_true];refine forall_congr' fun f=>forall_congr' fun hm=>?_;obtain ⟨⟨-,h1⟩,⟨-,h2⟩⟩:=hf f hm;simp[h1,h2]
theorem gen_ok (S:Nat):∀ (n:Nat) (c d:List Int),n≤9→c.length=9→d∈gen S n c→d.length=9∧Agr c d (8 - n:Int)∧∀ j:Nat,9 - n≤j→j<9→(S.testBit j=true→0≤cl d j∧cl d j≤j)∧(S.testBit j=false→cl d j = -1):=by
 intro n
 induction n with
 | zero=>
  intro c d _ hc hd;simp only[gen,List.mem_singleton] at hd;subst hd;exact ⟨hc,fun j _ _=>rfl,fun j h1 h2=>by omega⟩
 | succ n ih=>
  intro c d hn hc hd
  have key:∀ v:Int,d∈gen S n (c.set (8 - n) v)→d.length=9∧Agr c d (8 - (n+1:Nat):Int)∧cl d ((8 - n:Nat):Int)=v∧∀ j:Nat,9 - n≤j→j<9→(S.testBit j=true→0≤cl d j∧cl d j≤j)∧(S.testBit j=false→cl d j = -1):=by
   intro v hd;obtain ⟨h1,h2,h3⟩:=ih _ _ (by omega) (by simpa using hc) hd;refine ⟨h1,fun j h0 hj=>?_,?_,h3⟩
   ·rw[h2 j h0 (by omega),cl_set hc (by omega) _ h0,if_neg (by omega)]
   ·rw[h2 _ (by omega) (by omega),cl_set hc (by omega) _ (by omega),if_pos rfl]
  unfold gen at hd;cases e:S.testBit (8 - n)
  ·rw[e] at hd;simp only[Bool.false_eq_true,if_false] at hd;obtain ⟨h1,h2,h3,h4⟩:=key _ hd;refine ⟨h1,h2,fun j hj hj'=>?_⟩;by_cases ej:j=8 - n
   ·subst ej;exact ⟨fun h=>(by rw[e] at h;cases h),fun _=>h3⟩
   ·exact h4 j (by omega) hj'
  ·rw[e,if_pos rfl,List.mem_flatMap] at hd;obtain ⟨k,hk,hd⟩:=hd;rw[List.mem_range] at hk
   split at hd
   ·cases hd
   ·obtain ⟨h1,h2,h3,h4⟩:=key _ hd;refine ⟨h1,h2,fun j hj hj'=>?_⟩;by_cases ej:j=8 - n
    ·subst ej;exact ⟨fun _=>by rw[h3];omega,fun h=>by rw[e] at h;cases h⟩
    ·exact h4 j (by omega) hj'
theorem gen_congr (S:Nat):∀ (n:Nat) (c d:List Int),n≤9→c.length=9→d.length=9→Agr c d (8 - n:Int)→gen S n d=gen S n c:=by
 intro n
 induction n with
 | zero=>
  intro c d _ hc hd h
  have:d=c:=by
   apply List.ext_getElem (by omega);intro j h1 h2;have:=h j (by omega) (by omega);simpa [cl,List.getElem?_eq_getElem h1,List.getElem?_eq_getElem h2] using this
  rw[this]
 | succ n ih=>
  intro c d hn hc hd h
  have key:∀ v:Int,gen S n (d.set (8 - n) v)=gen S n (c.set (8 - n) v):=by
   intro v;refine ih _ _ (by omega) (by simpa using hc) (by simpa using hd) fun j h0 hj=>?_;rw[cl_set hd (by omega) _ h0,cl_set hc (by omega) _ h0]
   split
   ·rfl
   ·exact h j h0 (by omega)
  unfold gen;rw[key]
  split
  ·apply flatMap_congr';intro k hk;rw[List.mem_range] at hk;rw[key];by_cases hlt:k<8 - n
   ·rw[h k (by omega) (by omega)]
   ·simp[hlt]
  ·rfl
theorem filter_none {α:Type} {p:α→Bool} {l:List α} (h:∀ x∈l,p x=false):l.filter p=[]:=by
 rw[List.filter_eq_nil_iff];intro x hx;simp[h x hx]
theorem ext_eq {a:Asn} {S:Nat} (hf:FactsOk a.facts) (hx:AtomsOk a.atoms) (hS:∀ t:Nat,S.testBit t=false→(∀ f∈a.facts,f.a≠t∧f.b≠t)∧(∀ x∈a.atoms,x.a≠t∧x.b≠t)) :
  ∀ (n:Nat) (c:List Int),n≤9→c.length=9→poss a c (8 - n:Int)=true→ext a S n c=(gen S n c).filter (full a):=by
 intro n
 induction n with
 | zero=>
  intro c _ hc hp;simp only[ext,gen];rw[List.filter_cons_of_pos]
  ·rfl
  ·rw[full_poss hf hx];simpa using hp
 | succ n ih=>
  intro c hn hc hp;unfold ext gen;cases e:S.testBit (8 - n)
  ·simp only[Bool.false_eq_true,if_false];refine ih _ (by omega) (by simpa using hc) ?_;obtain ⟨n1,n2⟩:=hS _ e;have hA:Agr c (c.set (8 - n) (-1)) (8 - (n+1:Nat):Int):=fun j h0 hj=>by rw[cl_set hc (by omega) _ h0,if_neg (by omega)]
   rw[←hA.poss hf hx] at hp;generalize c.set (8 - n) (-1)=d at hp ⊢;unfold poss at hp ⊢;rw[Bool.and_eq_true] at hp ⊢;constructor
   ·have h1:=hp.1;unfold possF at h1 ⊢;rw[List.all_eq_true] at h1 ⊢;intro f hm;have h2:=h1 f hm;have h3:=n1 f hm;have e1:(f.a≤(8 - (n+1:Nat):Int))↔f.a≤(8 - n:Int):=by omega
    have e2:(f.b≤(8 - (n+1:Nat):Int))↔f.b≤(8 - n:Int):=by omega
    rw[decide_eq_decide.2 e1,decide_eq_decide.2 e2] at h2;exact h2
   ·have h1:=hp.2;rw[possA_iff] at h1 ⊢
    have e0:∀ x∈a.atoms,inLast d (8 - n:Int) x=inLast d (8 - (n+1:Nat):Int) x:=by
     intro x hm;have h3:=n2 x hm;have e1:(x.a≤(8 - (n+1:Nat):Int))↔x.a≤(8 - n:Int):=by omega
     have e2:(x.b≤(8 - (n+1:Nat):Int))↔x.b≤(8 - n:Int):=by omega
     unfold inLast;rw[decide_eq_decide.2 e1,decide_eq_decide.2 e2]
    refine ⟨fun x hm hi=>h1.1 x hm (by rw[←e0 x hm];exact hi),?_⟩;rw[List.filter_congr e0];exact h1.2
  ·rw[if_pos rfl,if_pos rfl,List.filter_flatMap];apply flatMap_congr';intro k hk;rw[List.mem_range] at hk
   split
   ·rfl
   ·have hn8:((8 - n:Nat):Int)=(8 - n:Int):=by omega
    split
    ·rename_i hps;rw[hn8] at hps;exact ih _ (by omega) (by simpa using hc) hps
    ·rename_i hps
     symm
     apply filter_none;intro d hd;obtain ⟨-,h2,-⟩:=gen_ok S n _ d (by omega) (by simpa using hc) hd;cases hfu:full a d
     ·rfl
     ·rw[full_poss hf hx] at hfu;have:=poss_mono (last:=(8 - n:Int)) (by omega) hfu;rw[h2.poss hf hx,←hn8] at this;exact absurd this hps
theorem poss_low {a:Asn} (hf:FactsOk a.facts) (hx:AtomsOk a.atoms):poss a c (-1)=true:=by
 unfold poss;rw[Bool.and_eq_true];constructor
 ·unfold possF;rw[List.all_eq_true];intro f hm;have:=hf f hm;have e:¬f.a≤-1:=by omega
  simp[e]
 ·rw[possA_iff]
  have e0:∀ x∈a.atoms,inLast c (-1) x=false:=by
   intro x hm;have:=hx x hm;have e:¬x.a≤-1:=by omega
   simp[inLast,e]
  refine ⟨fun x hm hi=>(by rw[e0 x hm] at hi;cases hi),?_⟩;rw[filter_none e0];simp
theorem ext_cases {a:Asn} {S:Nat} (hf:FactsOk a.facts) (hx:AtomsOk a.atoms) (hS:∀ t:Nat,S.testBit t=false→(∀ f∈a.facts,f.a≠t∧f.b≠t)∧(∀ x∈a.atoms,x.a≠t∧x.b≠t)):ext a S 9 zeros=cases a S:=
 ext_eq hf hx hS 9 zeros (by omega) rfl (poss_low hf hx)
theorem earlyF_iff (c:List Int):∀ (xs:List Atm) (seen:List Int),earlyF c seen xs=true↔
  ((∀ x∈xs,(x.kind=1∧0≤cl c x.a)→cl c x.a≠0∧cl c x.a∉seen)∧((xs.filter fun x=>decide (x.kind=1)&&decide (0≤cl c x.a)).map fun x=>cl c x.a).Nodup):=by
 intro xs
 induction xs with
 | nil=>intro seen;simp[earlyF]
 | cons x xs ih=>
  intro seen;unfold earlyF;cases e:(decide (x.kind=1)&&decide (0≤cl c x.a))
  ·simp only[Bool.false_eq_true,if_false,ih];have e':¬(x.kind=1∧0≤cl c x.a):=by simpa using e
   rw[List.filter_cons_of_neg (by simp[e])];constructor
   ·rintro ⟨h1,h2⟩;refine ⟨fun y hy=>?_,h2⟩;rcases List.mem_cons.1 hy with rfl|hy
    ·exact fun h=>absurd h e'
    ·exact h1 y hy
   ·rintro ⟨h1,h2⟩;exact ⟨fun y hy=>h1 y (List.mem_cons_of_mem _ hy),h2⟩
  ·have e':x.kind=1∧0≤cl c x.a:=by simpa using e
   rw[if_pos rfl,List.filter_cons_of_pos (by simpa using e),List.map_cons,List.nodup_cons];simp only[Bool.and_eq_true,Bool.not_eq_true',decide_eq_false_iff_not,ih];constructor
   ·rintro ⟨⟨g1,g2⟩,g3,g4⟩;refine ⟨fun y hy hl=>?_,?_,g4⟩
    ·rcases List.mem_cons.1 hy with rfl|hy
     ·exact ⟨g1,g2⟩
     ·have:=g3 y hy hl;exact ⟨this.1,fun h=>this.2 (List.mem_append_left _ h)⟩
    ·intro hm;obtain ⟨y,hy,ey⟩:=List.mem_map.1 hm;rw[List.mem_filter] at hy;exact (g3 y hy.1 (by simpa using hy.2)).2 (List.mem_append_right _ (by simp[ey]))
   ·rintro ⟨g1,g2,g3⟩;have:=g1 x List.mem_cons_self e';refine ⟨⟨this.1,this.2⟩,fun y hy hl=>?_,g3⟩;have h2:=g1 y (List.mem_cons_of_mem _ hy) hl;refine ⟨h2.1,fun h=>?_⟩;rcases List.mem_append.1 h with h|h
    ·exact h2.2 h
    ·exact g2 (List.mem_map.2 ⟨y,List.mem_filter.2 ⟨hy,by simpa using hl⟩,by simpa using h⟩)
theorem full_early {a:Asn} (hf:FactsOk a.facts) (hx:AtomsOk a.atoms) (hA:∀ j:Int,0≤j→j≤8→0≤cl c j→cl d j=cl c j) (h:full a d=true):(fitsS c a.facts&&earlyF c [] a.atoms)=true:=by
 have hp:=h;rw[full_poss hf hx] at hp;unfold full at h;unfold poss at hp;rw[Bool.and_eq_true] at h hp ⊢;have hF:=List.all_eq_true.1 h.1;have hP:=(possA_iff _ _ _ _).1 hp.2;constructor
 ·unfold fitsS;rw[List.all_eq_true];intro f hm;obtain ⟨⟨a1,a2⟩,⟨b1,b2⟩⟩:=hf f hm;by_cases e1:0≤cl c f.a
  ·by_cases e2:0≤cl c f.b
   ·have h1:=hF f hm;unfold Fct.fits at h1 ⊢;rw[hA _ a1 a2 e1,hA _ b1 b2 e2] at h1;simp[h1]
   ·simp[e2]
  ·simp[e1]
 ·have him:∀ x∈a.atoms,x.kind=1∧0≤cl c x.a→inLast d 8 x=true∧cl d x.a=cl c x.a:=by
   rintro x hm ⟨h1,h2⟩;obtain ⟨⟨a1,a2⟩,⟨b1,b2⟩⟩:=hx x hm;exact ⟨by simp[inLast,a2,b2,Atm.fill,h1],hA _ a1 a2 h2⟩
  rw[earlyF_iff];refine ⟨fun x hm hk=>?_,?_⟩
  ·obtain ⟨g1,g2⟩:=him x hm hk;have:=(hP.1 x hm g1).1;rw[g2] at this;exact ⟨this,by simp⟩
  ·have e:((a.atoms.filter fun x=>decide (x.kind=1)&&decide (0≤cl c x.a)).map fun x=>cl c x.a)=((a.atoms.filter fun x=>decide (x.kind=1)&&decide (0≤cl c x.a)).map fun x=>cl d x.a):=by
    apply List.map_congr_left;intro x hm;rw[List.mem_filter] at hm;exact (him x hm.1 (by simpa using hm.2)).2.symm
   rw[e];refine List.Nodup.sublist ?_ hP.2;apply List.Sublist.map
   have e2:(a.atoms.filter fun x=>decide (x.kind=1)&&decide (0≤cl c x.a))=(a.atoms.filter (inLast d 8)).filter fun x=>decide (x.kind=1)&&decide (0≤cl c x.a):=by
    rw[List.filter_filter];apply List.filter_congr;intro x hm;cases e3:(decide (x.kind=1)&&decide (0≤cl c x.a))
    ·simp
    ·simp[(him x hm (by simpa using e3)).1]
   rw[e2];exact List.filter_sublist
theorem seek_eq {a:Asn} {S:Nat} (hf:FactsOk a.facts) (hx:AtomsOk a.atoms) (hS:∀ t:Nat,S.testBit t=false→(∀ f∈a.facts,f.a≠t∧f.b≠t)∧(∀ x∈a.atoms,x.a≠t∧x.b≠t)) :
  ∀ (n:Nat) (c:List Int),n≤9→c.length=9→(∀ j:Nat,9 - n≤j→j<9→cl c j = -1)→(∀ j:Nat,j<9 - n→S.testBit j=true→0≤cl c j)→seek a S n c=(gen S n c).filter (full a):=by
 intro n
 induction n with
 | zero=>
  intro c _ hc _ hp;simp only[seek,gen]
  have hF:fitsS c a.facts=a.facts.all (Fct.fits c):=by
   unfold fitsS;rw[Bool.eq_iff_iff,List.all_eq_true,List.all_eq_true];refine forall_congr' fun f=>forall_congr' fun hm=>?_;obtain ⟨⟨a1,a2⟩,⟨b1,b2⟩⟩:=hf f hm
   have k1:0≤cl c f.a:=by
    obtain ⟨t,e⟩:=Int.eq_ofNat_of_zero_le a1;rw[e];apply hp t (by omega);cases h:S.testBit t
    ·exact absurd e ((hS t h).1 f hm).1
    ·rfl
   have k2:0≤cl c f.b:=by
    obtain ⟨t,e⟩:=Int.eq_ofNat_of_zero_le b1;rw[e];apply hp t (by omega);cases h:S.testBit t
    ·exact absurd e ((hS t h).1 f hm).2
    ·rfl
   simp[k1,k2]
  cases hfu:full a c
  ·rw[filter_none (by simpa using hfu)]
   split
   ·rename_i h1;rw[Bool.and_eq_true,hF] at h1;rw[if_neg];intro h2;unfold full at hfu;rw[h1.1,h2] at hfu;cases hfu
   ·rfl
  ·rw[if_pos (full_early hf hx (fun _ _ _ _=>rfl) hfu),List.filter_cons_of_pos hfu,if_pos]
   ·rfl
   ·unfold full at hfu;rw[Bool.and_eq_true] at hfu;exact hfu.2
 | succ n ih=>
  intro c hn hc hop hp;unfold seek;cases hE:(fitsS c a.facts&&earlyF c [] a.atoms)
  ·simp only[Bool.false_eq_true,if_false]
   symm
   apply filter_none;intro d hd;obtain ⟨-,h2,-⟩:=gen_ok S (n+1) _ d hn hc hd;cases hfu:full a d
   ·rfl
   ·have:=full_early (c:=c) hf hx (fun j h0 h8 hj=>?_) hfu
    ·rw[hE] at this;cases this
    ·apply h2 j h0;by_cases hlt:(8 - (n+1:Nat):Int)<j
     ·obtain ⟨t,e⟩:=Int.eq_ofNat_of_zero_le h0;have:=hop t (by omega) (by omega);rw[e,this] at hj;omega
     ·omega
  ·rw[if_pos rfl];unfold gen;cases e:S.testBit (8 - n)
   ·simp only[Bool.false_eq_true,if_false]
    have e1:c.set (8 - n) (-1)=c:=by
     have:=hop (8 - n) (by omega) (by omega);have hl:8 - n<c.length:=by omega
     have h1:c[8 - n] = -1:=by simpa [cl,List.getElem?_eq_getElem hl] using this
     rw[←h1,List.set_getElem_self]
    rw[e1];refine ih _ (by omega) hc (fun j h1 h2=>hop j (by omega) h2) (fun j h1 h2=>?_);by_cases ej:j=8 - n
    ·subst ej;rw[e] at h2;cases h2
    ·exact hp j (by omega) h2
   ·rw[if_pos rfl,if_pos rfl,List.filter_flatMap];apply flatMap_congr';intro k hk;rw[List.mem_range] at hk
    split
    ·rfl
    ·refine ih _ (by omega) (by simpa using hc) (fun j h1 h2=>?_) (fun j h1 h2=>?_)
     ·rw[cl_set hc (by omega) _ (by omega),if_neg (by omega)];exact hop j (by omega) h2
     ·rw[cl_set hc (by omega) _ (by omega)]
      split
      ·omega
      ·exact hp j (by omega) h2
theorem seek_cases {a:Asn} {S:Nat} (hf:FactsOk a.facts) (hx:AtomsOk a.atoms) (h0:S.testBit 0=true) (hS:∀ t:Nat,S.testBit t=false→(∀ f∈a.facts,f.a≠t∧f.b≠t)∧(∀ x∈a.atoms,x.a≠t∧x.b≠t)):seek a S 8 opened=cases a S:=by
 have hop:∀ j:Nat,9 - 8≤j→j<9→cl opened j = -1:=by
  intro j h1 h2;obtain rfl|rfl|rfl|rfl|rfl|rfl|rfl|rfl:j=1∨j=2∨j=3∨j=4∨j=5∨j=6∨j=7∨j=8:=by omega
  all_goals rfl
 have hcl:∀ j:Nat,j<9 - 8→S.testBit j=true→0≤cl opened j:=by
  intro j h1 _;obtain rfl:j=0:=by omega
  decide
 rw[seek_eq hf hx hS 8 opened (by omega) rfl hop hcl];unfold cases
 congr 1
 show _=(if S.testBit 0 then _ else _);rw[if_pos h0];show _=(List.range 1).flatMap _;rw[show List.range 1=[0] from rfl];simp only[List.flatMap_cons,List.flatMap_nil,List.append_nil];rw[if_neg (by omega)];refine gen_congr S 8 (zeros.set 0 0) opened (by omega) rfl rfl fun j h1 h2=>?_;obtain rfl:j=0:=by omega
 rfl
end
theorem Asn.valid_ok {a:Asn} (h:a.valid=true):FactsOk a.facts∧AtomsOk a.atoms:=by
 simp only[Asn.valid,factsValid,Bool.and_eq_true,List.all_eq_true] at h;refine ⟨fun f hf=>?_,fun x hx=>?_⟩
 ·have:=h.1.2 f hf;simp[Fct.valid,jq] at this;omega
 ·have:=h.2.2 x hx;simp[Atm.valid,jq] at this;omega
def freeAt (atoms:List Atm) (used:List Bool) (c:Int) (k:Nat):Bool:=decide (((atoms[k]?).getD default).a=c) && !((used[k]?).getD true)
def findU (atoms:List Atm) (used:List Bool) (c:Int):Option Nat:=(List.range atoms.length).find? (freeAt atoms used c)
def closedB (atoms:List Atm) (b:Int):Bool:=decide (b=0) || atoms.any fun x=>decide (x.a=b)
def chainF (atoms:List Atm) (b:Int):Nat→List Bool→Int→Option (List Bool)
 | 0,_,_=>none
 | n+1,used,c=>(findU atoms used c).bind fun k=>
   if ((atoms[k]?).getD default).b=b then some (used.set k true)
   else if ((atoms[k]?).getD default).kind=2∧closedB atoms b=false then none
   else chainF atoms b n (used.set k true) ((atoms[k]?).getD default).b
def useOne (atoms:List Atm) (used:List Bool) (x:Atm):Option (List Bool):=
 if x.kind=1 then (findU atoms used x.a).bind fun k=>if (atoms[k]?).getD default=x then some (used.set k true) else none
 else chainF atoms x.b (atoms.length+1) used x.a
def matchF (atoms:List Atm):List Bool→List Atm→Option (List Bool)
 | used,[]=>some used
 | used,x :: xs=>(useOne atoms used x).bind fun u=>matchF atoms u xs
def matchB (atoms goal:List Atm):Bool:=match matchF atoms (List.replicate atoms.length false) goal with|some u=>u.all id|none=>false
def entB (a b:Asn) (c:List Int):Bool:=b.facts.all (Fct.fits c)&&matchB (filledL a.atoms c) (filledL b.atoms c)
theorem range_find_some {n k:Nat} {p:Nat→Bool} (hk:k<n) (hp:p k=true) (hb:∀ j,j<k→p j=false):(List.range n).find? p=some k:=by
 rw[List.find?_range_eq_some];refine ⟨hp,by simpa using hk,fun j hj=>by simp[hb j hj]⟩
theorem range_find_none {n:Nat} {p:Nat→Bool} (hb:∀ j,j<n→p j=false):(List.range n).find? p=none:=by
 rw[List.find?_eq_none];intro j hj;rw[List.mem_range] at hj;simp[hb j hj]
theorem findU_some {atoms:List Atm} {used:List Bool} {c:Int} {k:Nat} (h:findU atoms used c=some k):k<atoms.length∧freeAt atoms used c k=true:=by
 unfold findU at h;have h1:=List.mem_of_find?_eq_some h;exact ⟨by simpa using h1,List.find?_some h⟩
theorem freeAt_used {atoms:List Atm} {used:List Bool} {c:Int} {k:Nat} (h:freeAt atoms used c k=true):k<used.length∧used[k]? = some false:=by
 unfold freeAt at h
 cases e:used[k]? with
 | none=>rw[e] at h;simp at h
 | some u=>
  rw[e] at h;have:=(List.getElem?_eq_some_iff.1 e).1;cases u
  ·exact ⟨this,rfl⟩
  ·simp at h
theorem count_take {used:List Bool} {k:Nat} (h:used[k]? = some false):(used.set k true).count true=used.count true+1:=by
 induction used generalizing k with
 | nil=>simp at h
 | cons u us ih=>
  cases k with
  | zero=>simp at h;subst h;simp
  | succ k=>
   simp only[List.set_cons_succ,List.count_cons];rw[ih (by simpa using h)];omega
theorem count_all {used:List Bool}:(used.count true=used.length)↔used.all id=true:=by
 induction used with
 | nil=>simp
 | cons u us ih=>
  have:=List.count_le_length (a:=true) (l:=us);cases u
  ·simp;omega
  ·simp only[List.count_cons,beq_self_eq_true,if_true,List.length_cons,List.all_cons,id_eq,Bool.true_and];rw[←ih];omega
theorem chainF_len {atoms:List Atm} {b:Int}:∀ (n:Nat) (used:List Bool) (c:Int) (u:List Bool),chainF atoms b n used c=some u→u.length=used.length:=by
 intro n
 induction n with
 | zero=>intro used c u h;cases h
 | succ n ih=>
  intro used c u h;unfold chainF at h;rw[Option.bind_eq_some_iff] at h;obtain ⟨k,hk,h⟩:=h
  split at h
  ·cases h;simp
  ·split at h
   ·cases h
   ·rw[ih _ _ _ h];simp
theorem useOne_len {atoms:List Atm} {used:List Bool} {x:Atm} {u:List Bool} (h:useOne atoms used x=some u):u.length=used.length:=by
 unfold useOne at h
 split at h
 ·rw[Option.bind_eq_some_iff] at h;obtain ⟨k,hk,h⟩:=h
  split at h
  ·cases h;simp
  ·cases h
 ·exact chainF_len _ _ _ _ h
end
section
open Go Go.RowKit Go.Proofs
def idxL (fl:List Bool) (k:Nat):List Int:=((List.range k).filter fun n=>fl.getD n false).map fun n:Nat=>(n:Int)
theorem idxL_succ (fl:List Bool) (k:Nat):idxL fl (k+1)=idxL fl k++if fl.getD k false then [(k:Int)] else []:=by
 unfold idxL;rw[List.range_succ,List.filter_append,List.map_append,List.filter_cons,List.filter_nil];cases fl.getD k false<;>rfl
theorem idxL_length (fl:List Bool) (k:Nat):(idxL fl k).length≤k:=by
 unfold idxL;rw[List.length_map];exact Nat.le_trans (List.length_filter_le _ _) (by simp)
theorem c_spec_l3List {lo hi:Nat} (A:Option Addr) (c:Nat) (fl:List Bool) (w:World) (h:BoolsV w lo hi A fl) (hl9:fl.length≤9):Calls Tryz.prog 76 #[.slice A fl.length c] w fun e w'=>∃ r,e=.returned r∧IntsO w' w.heap.size r (idxL fl fl.length)∧Below w.heap.size w w':=by
 (go_enter Tryz.func76,Tryz.ntmps76);go_wp2
 go_loopw [3,4] (fun o i wr=>∃ (k:Nat) (A:Option Addr) (c:Nat),k≤fl.length∧i=.int .i64 k∧o=.slice A (idxL fl k).length c∧IntsO wr w.heap.size (.slice A (idxL fl k).length c) (idxL fl k)∧Below w.heap.size w wr) (fun _ i _=>fl.length - (intOf i).toNat)
 case atStart=>exact ⟨0,_,_,by omega,rfl,rfl,IntsO.empty w rfl,bel⟩
 case round=>
  obtain ⟨k,A,c,hk,rfl,rfl,hO,hB⟩:=hrel;have hlen:=idxL_length fl k;by_cases h8:k<fl.length
  ·obtain ⟨b,off,rfl,c0⟩:=(h.bz hB).at h8;have HC:=ax (idxL_succ fl k);have hg:fl.getD k false=fl[k]:=by simp[h8]
   cases ht:fl[k]
   ·have HG:=ax (hg.trans ht);rw[ht] at c0;clear ht hg;(go_wp2_with fail)
    go_round
    case rel=>
     have e:idxL fl (k+1)=idxL fl k:=by rw[HC.o,HG.o];simp
     exact ⟨k+1,A,c,by omega,by go_num,by rw[e],by rw[e];exact hO,hB⟩
    case measure=>simp[intOf];omega
   ·have HG:=ax (hg.trans ht);rw[ht] at c0;clear ht hg;(go_wp2_with (at_builtin;refine appI rfl _ _ rfl (v:=.slice A (idxL fl k).length c) rfl (hO.abv (Abv.alloc (Abv.refl 0 _) _) (Nat.zero_le _)) wr.heap.size _ rfl (cell_box wr _ _) (by omega) (by simp;have:=hB.size;omega) ?_;intro g' c' w2 hO2 hg2 hB3))
    go_round
    case rel=>
     have e:idxL fl (k+1)=idxL fl k++[(k:Int)]:=by rw[HC.o,HG.o];simp
     exact ⟨k+1,some ⟨g',0,none⟩,c',by omega,by go_num,by rw[e,List.length_append];rfl,by rw[e];simpa using hO2,Below.trans (bbox hB _) hB3⟩
    case measure=>simp[intOf];omega
  ·obtain rfl:k=fl.length:=by omega
   go_wp2;go_ret;exact ⟨_,rfl,hO,hB⟩
def zj (S:Nat):List Bool:=(List.range 9).map fun i=>S.testBit i
theorem zjB (S:Nat):(zj S).length=9:=by simp[zj]
theorem flagsOf_get (S k:Nat) (hk:k<9):(zj S)[k]? = some (S.testBit k):=by simp[zj,hk]
theorem flagsOf_set (S n:Nat):(zj S).set n true=zj (S|||1 <<< n):=by
 apply List.ext_getElem?;intro j;simp only[zj,List.getElem?_set,List.getElem?_map,List.length_map,List.length_range];by_cases hj:j<9
 ·rw[List.getElem?_range hj];simp only[Option.map_some,Nat.testBit_or,Nat.one_shiftLeft,Nat.testBit_two_pow];by_cases e:n=j
  ·subst e;simp[hj]
  ·simp[e]
 ·rw[List.getElem?_eq_none (by simp;omega)];by_cases e:n=j
  ·subst e;simp[hj]
  ·simp[e]
theorem flags_cell (S:Nat) (cs:Array Value) (he:cs=(encB (zj S)).toArray) {k:Nat} (hk:k<9):cs[k]? = some (.bool (S.testBit k)):=by
 subst he;simp[encB,flagsOf_get S k hk]
theorem flags_upd (S n:Nat):((encB (zj S)).toArray).setIfInBounds n (.bool true)=(encB (zj (S|||1 <<< n))).toArray:=by
 rw[←flagsOf_set,encB,encB,List.map_set];simp
end
section
open Go Go.RowKit
def swp (x y t:Int):Int:=if t=x then y else t
def Fct.sub (x y:Int) (f:Fct):Fct:=⟨f.eq,swp x y f.a,swp x y f.b⟩
def Atm.sub (x y:Int) (f:Atm):Atm:=⟨f.kind,swp x y f.a,swp x y f.b⟩
def substA (x y:Int) (a:Asn):Asn:=⟨a.facts.map (Fct.sub x y),a.atoms.map (Atm.sub x y)⟩
def upto {α:Type} (f:α→α) (k:Nat) (L:List α):List α:=(L.map f).take k++L.drop k
theorem upto_length {α:Type} (f:α→α) (k:Nat) (L:List α):(upto f k L).length=L.length:=by simp[upto];omega
theorem upto_zero {α:Type} (f:α→α) (L:List α):upto f 0 L=L:=by simp[upto]
theorem upto_full {α:Type} (f:α→α) (L:List α):upto f L.length L=L.map f:=by simp[upto,List.take_of_length_le]
theorem upto_get {α:Type} (f:α→α) (k:Nat) (L:List α) (h:k<L.length):(upto f k L)[k]'(by rw[upto_length];exact h)=L[k]:=by
 have:(upto f k L)[k]? = some L[k]:=by
  rw[upto,List.getElem?_append_right (by simp;omega)];simp[show min k L.length=k from by omega,List.getElem?_eq_getElem h]
 rw[List.getElem?_eq_getElem (by rw[upto_length];exact h)] at this;exact Option.some.inj this
theorem upto_set {α:Type} (f:α→α) (k:Nat) (L:List α) (h:k<L.length):(upto f k L).set k (f L[k])=upto f (k+1) L:=by
 apply List.ext_getElem?;intro j;simp only[upto,List.getElem?_set,List.getElem?_append,List.getElem?_take,List.getElem?_map,List.getElem?_drop,List.length_append,List.length_take,List.length_map,List.length_drop];have e1:min k L.length=k:=by omega
 have e2:min (k+1) L.length=k+1:=by omega
 rw[e1,e2];by_cases hj:k=j
 ·subst hj;rw[if_pos rfl,if_pos (by omega),if_pos (by omega),if_pos (by omega),List.getElem?_eq_getElem h];rfl
 ·rw[if_neg hj];by_cases h1:j<k
  ·rw[if_pos h1,if_pos h1,if_pos (by omega),if_pos (by omega)]
  ·rw[if_neg h1,if_neg (by omega),show k+(j - k)=j from by omega,show k+1+(j - (k+1))=j from by omega]
def logB (t:Int):Bool:=decide (4<t∧t≤8)
def free (K:Nat) (t:Int):Bool:=logB t && !K.testBit t.toNat
def subOf (K:Nat) (f:Fct):Option (Int×Int):=
 if f.eq && !(f.a == f.b) then (if free K f.a then some (f.a,f.b) else if free K f.b then some (f.b,f.a) else none) else none
def subStep (K:Nat) (fs:List Fct):Option (Int×Int):=fs.findSome? (subOf K)
theorem subStep_cons (K:Nat) (fs:List Fct) (k:Nat) (hk:k<fs.length):subStep K (fs.drop k)=(subOf K fs[k]).or (subStep K (fs.drop (k+1))):=by
 rw[List.drop_eq_getElem_cons hk,subStep,List.findSome?_cons];cases subOf K fs[k]<;>rfl
theorem subOf_spec {K:Nat} {f:Fct} {x t:Int} (h:subOf K f=some (x,t)):free K x=true∧x≠t∧((x=f.a∧t=f.b)∨(x=f.b∧t=f.a)):=by
 unfold subOf at h
 split at h
 ·rename_i hc;simp at hc
  split at h
  ·rename_i hf;simp at h;obtain ⟨rfl,rfl⟩:=h;exact ⟨hf,hc.2,Or.inl ⟨rfl,rfl⟩⟩
  ·split at h
   ·rename_i hf;simp at h;obtain ⟨rfl,rfl⟩:=h;exact ⟨hf,fun e=>hc.2 e.symm,Or.inr ⟨rfl,rfl⟩⟩
   ·cases h
 ·cases h
def left (K:Nat) (a:Asn):List Nat:=(List.range 9).filter fun n=>free K (n:Int)&&decide ((n:Int)∈mz a)
theorem termsL_facts {a:Asn} {f:Fct} (h:f∈a.facts):f.a∈mz a∧f.b∈mz a:=by
 simp only[mz,List.mem_append,List.mem_flatMap];exact ⟨Or.inl ⟨f,h,by simp[factT]⟩,Or.inl ⟨f,h,by simp[factT]⟩⟩
theorem termsL_subst {a:Asn} {x y n:Int} (h:n∈mz (substA x y a)):(n∈mz a∧n≠x)∨(n=y∧x∈mz a):=by
 simp only[mz,substA,List.mem_append,List.mem_flatMap,List.mem_map] at h ⊢;rcases h with ⟨g,⟨f,hf,rfl⟩,hn⟩|⟨g,⟨f,hf,rfl⟩,hn⟩
 ·simp only[factT,Fct.sub,swp,List.mem_cons,List.not_mem_nil,or_false] at hn;rcases hn with hn|hn<;>split at hn
  ·rename_i e;exact Or.inr ⟨hn,Or.inl ⟨f,hf,by simp[factT,e]⟩⟩
  ·rename_i e;exact Or.inl ⟨Or.inl ⟨f,hf,by simp[factT,hn]⟩,fun h=>e (by omega)⟩
  ·rename_i e;exact Or.inr ⟨hn,Or.inl ⟨f,hf,by simp[factT,e]⟩⟩
  ·rename_i e;exact Or.inl ⟨Or.inl ⟨f,hf,by simp[factT,hn]⟩,fun h=>e (by omega)⟩
 ·simp only[atomT,Atm.sub,swp,List.mem_cons,List.not_mem_nil,or_false] at hn;rcases hn with hn|hn<;>split at hn
  ·rename_i e;exact Or.inr ⟨hn,Or.inr ⟨f,hf,by simp[atomT,e]⟩⟩
  ·rename_i e;exact Or.inl ⟨Or.inr ⟨f,hf,by simp[atomT,hn]⟩,fun h=>e (by omega)⟩
  ·rename_i e;exact Or.inr ⟨hn,Or.inr ⟨f,hf,by simp[atomT,e]⟩⟩
  ·rename_i e;exact Or.inl ⟨Or.inr ⟨f,hf,by simp[atomT,hn]⟩,fun h=>e (by omega)⟩
theorem filter_lt {α:Type} (p q:α→Bool) (x:α):∀ (l:List α),x∈l→(∀ y∈l,p y=true→q y=true)→p x=false→q x=true→(l.filter p).length<(l.filter q).length:=by
 intro l
 induction l with
 | nil=>intro h;cases h
 | cons y l ih=>
  intro h hpq hp hq
  have hle:(l.filter p).length≤(l.filter q).length:=by
   clear ih
   have:∀ l:List α,(∀ y∈l,p y=true→q y=true)→(l.filter p).length≤(l.filter q).length:=by
    intro l;induction l with
    | nil=>intro _;exact Nat.le_refl _
    | cons z l ih=>
     intro h;have:=ih fun y hy=>h y (List.mem_cons_of_mem _ hy);have hz:=h z List.mem_cons_self;rw[List.filter_cons,List.filter_cons];cases hp:p z<;>cases hq:q z<;>simp_all<;>omega
   exact this l fun y hy=>hpq y (List.mem_cons_of_mem _ hy)
  rw[List.filter_cons,List.filter_cons];rcases List.mem_cons.1 h with rfl|h
  ·simp[hp,hq];omega
  ·have h1:=ih h (fun y hy=>hpq y (List.mem_cons_of_mem _ hy)) hp hq;have hy:=hpq y List.mem_cons_self;cases hp':p y<;>cases hq':q y<;>simp_all<;>omega
theorem left_lt {K:Nat} {a:Asn} {x t:Int} (h:subStep K a.facts=some (x,t)):(left K (substA x t a)).length<(left K a).length:=by
 obtain ⟨f,hf,hs⟩:=List.exists_of_findSome?_eq_some h;obtain ⟨h1,h2,h3⟩:=subOf_spec hs
 have hl:4<x∧x≤8:=by
  unfold free at h1;simp only[Bool.and_eq_true] at h1;simpa [logB] using h1.1
 obtain ⟨m,rfl⟩:=Int.eq_ofNat_of_zero_le (show 0≤x by omega);have hm:=termsL_facts hf
 have hx:(m:Int)∈mz a:=by
  rcases h3 with ⟨e,_⟩|⟨e,_⟩
  ·rw[e];exact hm.1
  ·rw[e];exact hm.2
 have ht:t∈mz a:=by
  rcases h3 with ⟨_,e⟩|⟨_,e⟩
  ·rw[e];exact hm.2
  ·rw[e];exact hm.1
 refine filter_lt _ _ m _ (by simp;omega) ?_ ?_ ?_
 ·intro y hy hp;simp only[Bool.and_eq_true,decide_eq_true_eq] at hp ⊢;refine ⟨hp.1,?_⟩;rcases termsL_subst hp.2 with ⟨h,_⟩|⟨h,_⟩
  ·exact h
  ·rw[h];exact ht
 ·simp only[Bool.and_eq_false_iff,decide_eq_false_iff_not];refine Or.inr fun hc=>?_;rcases termsL_subst hc with ⟨_,h⟩|⟨h,_⟩
  ·exact h rfl
  ·exact h2 h
 ·simp only[Bool.and_eq_true,decide_eq_true_eq];exact ⟨h1,hx⟩
def subAll (K:Nat) (a:Asn):Asn:=
 match _h:subStep K a.facts with
 | none=>a
 | some (x,t)=>subAll K (substA x t a)
termination_by (left K a).length
decreasing_by exact left_lt _h
theorem subAll_none {K:Nat} {a:Asn} (h:subStep K a.facts=none):subAll K a=a:=by
 rw[subAll];split
 ·rfl
 ·rename_i e;rw[h] at e;cases e
theorem subAll_some {K:Nat} {a:Asn} {x t:Int} (h:subStep K a.facts=some (x,t)):subAll K a=subAll K (substA x t a):=by
 rw[subAll];split
 ·rename_i e;rw[h] at e;cases e
 ·rename_i e;rw[h] at e;simp at e;obtain ⟨rfl,rfl⟩:=e;rfl
def okTerm (K:Nat) (t:Int):Bool:=decide (t≤4) || K.testBit t.toNat
def okFact (K:Nat) (f:Fct):Bool:=okTerm K f.a&&okTerm K f.b
def nfF (f:Fct):Fct:=if f.b<f.a then ⟨f.eq,f.b,f.a⟩ else f
def nfStep (acc:List Fct) (f:Fct):List Fct:=if f.eq&&(f.a == f.b) then acc else if acc.contains (nfF f) then acc else acc++[nfF f]
def nfA (x:Atm):Bool:=x.kind != 2 || x.a != x.b
def normalF (a:Asn):Asn:=⟨a.facts.foldl nfStep [],a.atoms.filter nfA⟩
def tidyF (K:Nat) (a:Asn):Asn:=
 let b:=subAll K a
 normalF ⟨b.facts.filter (okFact (K|||tset (mz ⟨[],b.atoms⟩))),b.atoms⟩
theorem nfStep_length (acc:List Fct) (f:Fct):(nfStep acc f).length≤acc.length+1:=by
 unfold nfStep;split
 ·omega
 ·split<;>simp
theorem foldl_drop_step {α β:Type} (g:β→α→β) (xs:List α) (k:Nat) (hk:k<xs.length) (b:β):(xs.drop k).foldl g b=(xs.drop (k+1)).foldl g (g b xs[k]):=by
 rw[List.drop_eq_getElem_cons hk];rfl
theorem filter_take {α:Type} (p:α→Bool) (xs:List α) (k:Nat) (hk:k<xs.length):(xs.take (k+1)).filter p=(xs.take k).filter p++if p xs[k] then [xs[k]] else []:=by
 rw[List.take_succ_eq_append_getElem hk,List.filter_append,List.filter_cons,List.filter_nil]
theorem sub_valid {x y:Int} {a:Asn} (h:a.valid=true) (hy:jq y=true):(substA x y a).valid=true:=by
 simp only[Asn.valid,factsValid,substA,Bool.and_eq_true,decide_eq_true_eq,List.length_map,List.all_map] at h ⊢
 have hs:∀ t,jq t=true→jq (swp x y t)=true:=fun t ht=>by
  unfold swp
  split
  ·exact hy
  ·exact ht
 refine ⟨⟨h.1.1,?_⟩,h.2.1,?_⟩
 ·have:=h.1.2;rw[List.all_eq_true] at this ⊢;intro f hf;have:=this f hf;simp only[Fct.valid,Bool.and_eq_true,Function.comp,Fct.sub] at this ⊢;exact ⟨hs _ this.1,hs _ this.2⟩
 ·have:=h.2.2;rw[List.all_eq_true] at this ⊢;intro f hf;have:=this f hf;simp only[Atm.valid,Bool.and_eq_true,Function.comp,Atm.sub] at this ⊢;exact ⟨⟨this.1.1,hs _ this.1.2⟩,hs _ this.2⟩
theorem subAll_valid {K:Nat}:∀ (n:Nat) (a:Asn),(left K a).length≤n→a.valid=true→(subAll K a).valid=true:=by
 intro n
 induction n with
 | zero=>
  intro a hn hv
  cases h:subStep K a.facts with
  | none=>rw[subAll_none h];exact hv
  | some p=>obtain ⟨x,t⟩:=p;have:=left_lt h;omega
 | succ n ih=>
  intro a hn hv
  cases h:subStep K a.facts with
  | none=>rw[subAll_none h];exact hv
  | some p=>
   obtain ⟨x,t⟩:=p;rw[subAll_some h];refine ih _ (by have:=left_lt h;omega) (sub_valid hv ?_);obtain ⟨f,hf,hs⟩:=List.exists_of_findSome?_eq_some h
   have hfv:f.valid=true:=by
    simp only[Asn.valid,factsValid,Bool.and_eq_true] at hv;exact List.all_eq_true.1 hv.1.2 f hf
   simp only[Fct.valid,Bool.and_eq_true] at hfv;rcases (subOf_spec hs).2.2 with ⟨_,e⟩|⟨_,e⟩<;>rw[e]
   ·exact hfv.2
   ·exact hfv.1
def logS (S:Nat):Nat:=S >>> 5 <<< 5
theorem logS_bit (S n:Nat):(logS S).testBit n=(decide (5≤n)&&S.testBit n):=by
 unfold logS;rw[Nat.testBit_shiftLeft,Nat.testBit_shiftRight];by_cases h:5≤n
 ·simp[h,show 5+(n - 5)=n from by omega]
 ·simp[h]
theorem okFact_iff {K:Nat} {f:Fct} (hv:f.valid=true):okFact K f=true↔∀ n,(logS (tins (tins 0 f.a) f.b)).testBit n=true→K.testBit n=true:=by
 have hv':=hv;simp only[Fct.valid,Bool.and_eq_true] at hv';have h1:=zjA.1 hv'.1;have h2:=zjA.1 hv'.2;constructor
 ·intro h n hn;simp only[logS_bit,tins_bit,Nat.zero_testBit,Bool.false_or,Bool.and_eq_true,Bool.or_eq_true,decide_eq_true_eq] at hn;simp only[okFact,okTerm,Bool.and_eq_true,Bool.or_eq_true,decide_eq_true_eq] at h;obtain ⟨h5,⟨_,e⟩|⟨_,e⟩⟩:=hn
  ·rcases h.1 with h|h
   ·omega
   ·rw[e] at h;simpa using h
  ·rcases h.2 with h|h
   ·omega
   ·rw[e] at h;simpa using h
 ·intro h;simp only[okFact,okTerm,Bool.and_eq_true,Bool.or_eq_true,decide_eq_true_eq];refine ⟨?_,?_⟩
  ·by_cases h5:f.a≤4
   ·exact Or.inl h5
   ·refine Or.inr (h _ ?_);simp only[logS_bit,tins_bit,Nat.zero_testBit,Bool.false_or,Bool.and_eq_true,Bool.or_eq_true,decide_eq_true_eq];exact ⟨by omega,Or.inl ⟨hv'.1,by omega⟩⟩
  ·by_cases h5:f.b≤4
   ·exact Or.inl h5
   ·refine Or.inr (h _ ?_);simp only[logS_bit,tins_bit,Nat.zero_testBit,Bool.false_or,Bool.and_eq_true,Bool.or_eq_true,decide_eq_true_eq];exact ⟨by omega,Or.inr ⟨hv'.2,by omega⟩⟩
end
section
open Go Go.RowKit Go.Proofs
attribute [local go_sem ↓] Go.wp_at_zero Go.wp_at_succ
theorem termsL_ok {a:Asn} (h:a.valid=true):∀ t∈mz a,jq t=true:=by
 simp only[Asn.valid,factsValid,Bool.and_eq_true,List.all_eq_true] at h;intro t ht;simp only[mz,List.mem_append,List.mem_flatMap] at ht;rcases ht with ⟨f,hf,ht⟩|⟨f,hf,ht⟩
 ·have:=h.1.2 f hf;simp only[Fct.valid,Bool.and_eq_true] at this;simp only[factT,List.mem_cons,List.not_mem_nil,or_false] at ht;rcases ht with rfl|rfl
  ·exact this.1
  ·exact this.2
 ·have:=h.2.2 f hf;simp only[Atm.valid,Bool.and_eq_true] at this;simp only[atomT,List.mem_cons,List.not_mem_nil,or_false] at ht;rcases ht with rfl|rfl
  ·exact this.1.2
  ·exact this.2
theorem termsL_atoms {a:Asn} {k:Nat} (h:k<a.atoms.length):a.atoms[k].a∈mz a∧a.atoms[k].b∈mz a:=by
 simp only[mz,List.mem_append,List.mem_flatMap];exact ⟨Or.inr ⟨_,List.getElem_mem h,by simp[atomT]⟩,Or.inr ⟨_,List.getElem_mem h,by simp[atomT]⟩⟩
theorem tins_flags (S m:Nat) (hm:m≤8):((encB (zj S)).toArray).setIfInBounds m (.bool true)=(encB (zj (tins S (m:Int)))).toArray:=by
 rw[flags_upd,tins,if_pos (zjA.2 (by omega)),Int.toNat_natCast]
theorem BoolsO.ofBlk {w:World} {g base S:Nat} (h:Blk w g tB (encB (zj S)).toArray) (hb:base≤g):BoolsO w base (.slice (some ⟨g,0,none⟩) 9 9) (zj S):=
 ⟨own_of_blk (n:=9) (cap:=9) h hb (by simp[zj]) (by intro j hj;simp) (Nat.le_refl _) (by decide) (by simp[zj]),by simp[zj,Lim]⟩
theorem mkB9 (w:World):(Instr.makeSlice 116 (.int .i64 9) (.int .i64 9)).run Tryz.prog w=.ok (.slice (some ⟨w.heap.size,0,none⟩) 9 9) (w.alloc (.cells (encB (zj 0)).toArray tB)):=
 (mkB 9 (by decide) w).trans (by rw[show (madeCells #[.bool false] (9 * 1))=(encB (zj 0)).toArray from by kernel_rfl])
theorem flags_at {w:World} {lo hi b o K m:Nat} (h:BoolsV w lo hi (some ⟨b,o,none⟩) (zj K)) (hm:m≤8):w.cell? ⟨b,o+m,none⟩=some (.bool (K.testBit m)):=by
 have:=h.cl (k:=m) (by rw[zjB];omega);rw[this];have e:=flagsOf_get K m (by omega);rw[List.getElem?_eq_getElem (by rw[zjB];omega)] at e;rw[Option.some.inj e]
theorem flags_addr {w:World} {lo hi K:Nat} {A:Option Addr} (h:BoolsV w lo hi A (zj K)):∃ b o,A=some ⟨b,o,none⟩∧b<w.heap.size:=h.blt (k:=0) (by rw[zjB];omega)
theorem c_l3Swap (t x y:Int) (w:World):Calls Tryz.prog 165 #[.int .i64 t,.int .i64 x,.int .i64 y] w fun e w'=>e=.returned (.int .i64 (swp x y t))∧w=w':=by
 by_cases h:t=x
 ·have hb:(t == x)=true:=by simpa using h
  have HS:aJ (swp x y t=y):=by simp[aJ,swp,h]
  clear h;(go_enter Tryz.func165,Tryz.ntmps165);go_wp2;go_ret;exact ⟨ret_int HS.o.symm,rfl⟩
 ·have hb:(t == x)=false:=by simpa using h
  have HS:aJ (swp x y t=t):=by simp[aJ,swp,h]
  clear h;(go_enter Tryz.func165,Tryz.ntmps165);go_wp2;go_ret;exact ⟨ret_int HS.o.symm,rfl⟩
theorem c_spec_l10Busy {lo hi:Nat} (A:Option Addr) (c:Nat) (xs:List Int) (w:World) (h:IntsV w lo hi A xs):Calls Tryz.prog 81 #[.slice A xs.length c] w fun e w'=>∃ r,e=.returned r∧BoolsO w' w.heap.size r (zj (tset xs))∧Below w.heap.size w w':=by
 have hl:=h.le;have hmk:=mkB9;have HT:aJ (tset xs=xs.foldl tins 0):=by show _=_;unfold tset;rfl
 (go_enter Tryz.func81,Tryz.ntmps81);go_wp2;clear hmk
 go_loopw [4] (fun i wr=>∃ (k T:Nat),k≤xs.length∧i=.int .i64 k∧aJ (tset xs=(xs.drop k).foldl tins T)∧Blk wr w.heap.size tB (encB (zj T)).toArray∧Below w.heap.size w wr) (fun i _=>xs.length - (intOf i).toNat)
 case atStart=>exact ⟨0,0,Nat.zero_le _,rfl,HT.o,blks,bel⟩
 case round=>
  obtain ⟨k,T,hk,rfl,HA,k0,hB⟩:=hrel;by_cases hlt:k<xs.length
  ·obtain ⟨b,off,rfl,c0⟩:=(h.bz hB).at hlt;have HD:=ax (foldl_step tins T xs k hlt);have hne:=block_lt_of_cell c0;cases ht:jq xs[k]
   ·have HS:aJ (tins T xs[k]=T):=by simp[aJ,tins,ht]
    go_wp2_with (go_at_call 132;refine (c_spec_l1Is _ _).mono ?_;rintro e w' ⟨rfl,rfl⟩)
    go_round
    case rel=>exact ⟨k+1,T,by omega,by go_num,by show _=_;rw[HA.o,HD.o,HS.o],k0,hB⟩
    case measure=>simp[intOf];omega
   ·have hb:=zjA.1 ht;obtain ⟨m,hm⟩:=Int.eq_ofNat_of_zero_le hb.1;have HM:=ax hm;have m8:m≤8:=by omega
    have m8':(m:Int)<9:=by omega
    rw[hm] at c0 ht;have q3:wr.cell? ⟨w.heap.size,m,none⟩=some (.bool (T.testBit m)):=(k0.cell m).trans (flags_cell T _ rfl (by omega));have r3:=k0.frozen;clear hm hb;(go_wp2_with (go_at_call 132;refine (c_spec_l1Is _ _).mono ?_;rintro e w' ⟨rfl,rfl⟩))
    go_round
    case rel=>
     refine ⟨k+1,tins T xs[k],by omega,by go_num,by show _=_;rw[HA.o,HD.o],?_,bel⟩;rw[HM.o,←tins_flags _ _ m8];exact k0.set_ _ _
    case measure=>simp[intOf];omega
  ·obtain rfl:k=xs.length:=by omega
   go_wp2;go_ret;refine ⟨_,rfl,?_,hB⟩;rw[HA.o,List.drop_length];exact BoolsO.ofBlk k0 (Nat.le_refl _)
theorem flags2 (T m1 m2:Nat) (h1:m1≤8) (h2:m2≤8):(((encB (zj T)).toArray).setIfInBounds m1 (.bool true)).setIfInBounds m2 (.bool true)=(encB (zj (tins (tins T (m1:Int)) (m2:Int)))).toArray:=by
 rw[tins_flags _ _ h1,tins_flags _ _ h2]
theorem Blk.two {w:World} {g T m1 m2:Nat} (h:Blk w g tB (encB (zj T)).toArray) (h1:m1≤8) (h2:m2≤8):Blk ((w.setCell ⟨g,m1,none⟩ (.bool true)).setCell ⟨g,m2,none⟩ (.bool true)) g tB (encB (zj (tins (tins T (m1:Int)) (m2:Int)))).toArray:=by
 rw[←flags2 _ _ _ h1 h2];exact (h.set_ _ _).set_ _ _
theorem Blk.twice {w:World} {g T m1:Nat} (h:Blk w g tB (encB (zj T)).toArray) (h1:m1≤8):Blk (w.setCell ⟨g,m1,none⟩ (.bool true)) g tB (encB (zj (tins (tins T (m1:Int)) (m1:Int)))).toArray:=by
 rw[←tins_flags _ _ h1,←tins_flags _ _ h1]
 have e:∀ (a:Array Value) (i:Nat) (u:Value),(a.setIfInBounds i u).setIfInBounds i u=a.setIfInBounds i u:=by
  intro a i u;apply Array.ext_getElem?;intro j;by_cases e:i=j
  ·subst e;rw[Array.getElem?_setIfInBounds_self,Array.size_setIfInBounds,Array.getElem?_setIfInBounds_self]
  ·rw[Array.getElem?_setIfInBounds_ne e]
 rw[e];exact h.set_ _ _
theorem c_spec_l3Terms {lo hi:Nat} (v:Value) (a:Asn) (w:World) (h:AsnV w lo hi v a) (hv:∀ t∈mz a,jq t=true):Calls Tryz.prog 77 #[v] w fun e w'=>∃ r,e=.returned r∧BoolsO w' w.heap.size r (zj (tset (mz a)))∧Below w.heap.size w w':=by
 obtain ⟨A1,c1,A2,c2,rfl,h1,h2⟩:=h;have hl1:=h1.le;have hl2:=h2.le;have hmk:=mkB9;have HV:=ax hv;have HT:=ax (tset_terms a);clear hv;(go_enter Tryz.func77,Tryz.ntmps77);go_wp2;clear hmk
 go_loopw [4] (fun i wr=>∃ (k T:Nat),k≤a.facts.length∧i=.int .i64 k∧aJ (a.facts.foldl (fun S f=>tins (tins S f.a) f.b) 0=(a.facts.drop k).foldl (fun S f=>tins (tins S f.a) f.b) T)∧Blk wr w.heap.size 36 #[.slice A1 a.facts.length c1,.slice A2 a.atoms.length c2]∧Blk wr (w.heap.size+1) tB (encB (zj T)).toArray∧Below w.heap.size w wr) (fun i _=>a.facts.length - (intOf i).toNat)
 case atStart=>exact ⟨0,0,Nat.zero_le _,rfl,rfl,blks,blks,bel⟩
 case round=>
  obtain ⟨k,T,hk,rfl,HA,k0,k1,hB⟩:=hrel;have qk0:=k0.cell;by_cases hlt:k<a.facts.length
  ·obtain ⟨b,off,rfl,hbl⟩:=h1.blt hlt;obtain ⟨g0,g1,g2⟩:=(h1.bz hB).cl hlt;have HD:=ax (foldl_step (fun S (f:Fct)=>tins (tins S f.a) f.b) T a.facts k hlt);have hm:=termsL_facts (List.getElem_mem hlt);have b1:=zjA.1 (HV.o _ hm.1);have b2:=zjA.1 (HV.o _ hm.2);obtain ⟨m1,e1⟩:=Int.eq_ofNat_of_zero_le b1.1;obtain ⟨m2,e2⟩:=Int.eq_ofNat_of_zero_le b2.1;have E1:=ax e1;have E2:=ax e2;rw[e1] at g1;rw[e2] at g2;have m18:(m1:Int)<9:=by omega
   have m28:(m2:Int)<9:=by omega
   have q1:wr.cell? ⟨w.heap.size+1,m1,none⟩=some (.bool (T.testBit m1)):=(k1.cell m1).trans (flags_cell T _ rfl (by omega));have q2:wr.cell? ⟨w.heap.size+1,m2,none⟩=some (.bool (T.testBit m2)):=(k1.cell m2).trans (flags_cell T _ rfl (by omega));have r3:=k1.frozen;clear e1 e2 hm b1 b2;by_cases he:m1=m2
   ·subst he;(go_wp2_with fail)
    go_round
    case rel=>
     refine ⟨k+1,tins (tins T (m1:Int)) (m1:Int),by omega,by go_num,by show _=_;rw[HA.o,HD.o,E1.o,E2.o],?_,?_,bel⟩
     ·first|exact k0.far (by simp) _|exact (k0.far (by simp) _).far (by simp) _
     ·first|exact k1.twice (by omega)|exact k1.two (by omega) (by omega)
    case measure=>simp[intOf];omega
   ·have he2:=Ne.symm he;(go_wp2_with fail)
    go_round
    case rel=>
     refine ⟨k+1,tins (tins T (m1:Int)) (m2:Int),by omega,by go_num,by show _=_;rw[HA.o,HD.o,E1.o,E2.o],(k0.far (by simp) _).far (by simp) _,k1.two (by omega) (by omega),bel⟩
    case measure=>simp[intOf];omega
  ·obtain rfl:k=a.facts.length:=by omega
   have HA2:=ax (show a.facts.foldl (fun S f=>tins (tins S f.a) f.b) 0=T by rw[HA.o,List.drop_length];rfl);(go_wp2_with fail)
   go_loopw [5] (fun i wx=>∃ (k T':Nat),k≤a.atoms.length∧i=.int .i64 k∧aJ (a.atoms.foldl (fun S f=>tins (tins S f.a) f.b) T=(a.atoms.drop k).foldl (fun S f=>tins (tins S f.a) f.b) T')∧Blk wx w.heap.size 36 #[.slice A1 a.facts.length c1,.slice A2 a.atoms.length c2]∧Blk wx (w.heap.size+1) tB (encB (zj T')).toArray∧Below w.heap.size w wx) (fun i _=>a.atoms.length - (intOf i).toNat)
   case atStart=>exact ⟨0,T,Nat.zero_le _,rfl,rfl,k0,k1,hB⟩
   case round=>
    clear k0 qk0 k1 hB;obtain ⟨k,T',hk,rfl,HB,k0,k1,hB⟩:=hrel;have qk0:=k0.cell;by_cases hlt2:k<a.atoms.length
    ·obtain ⟨b,off,rfl,hbl⟩:=h2.blt hlt2;obtain ⟨g0,g1,g2⟩:=(h2.bz hB).cl hlt2;have HD:=ax (foldl_step (fun S (f:Atm)=>tins (tins S f.a) f.b) T' a.atoms k hlt2);have hm:=termsL_atoms hlt2;have b1:=zjA.1 (HV.o _ hm.1);have b2:=zjA.1 (HV.o _ hm.2);obtain ⟨m1,e1⟩:=Int.eq_ofNat_of_zero_le b1.1;obtain ⟨m2,e2⟩:=Int.eq_ofNat_of_zero_le b2.1;have E1:=ax e1;have E2:=ax e2;rw[e1] at g1;rw[e2] at g2;have m18:(m1:Int)<9:=by omega
     have m28:(m2:Int)<9:=by omega
     have q1:wr.cell? ⟨w.heap.size+1,m1,none⟩=some (.bool (T'.testBit m1)):=(k1.cell m1).trans (flags_cell T' _ rfl (by omega));have q2:wr.cell? ⟨w.heap.size+1,m2,none⟩=some (.bool (T'.testBit m2)):=(k1.cell m2).trans (flags_cell T' _ rfl (by omega));have r3:=k1.frozen;clear e1 e2 hm b1 b2;by_cases he:m1=m2
     ·subst he;(go_wp2_with fail)
      go_round
      case rel=>
       refine ⟨k+1,tins (tins T' (m1:Int)) (m1:Int),by omega,by go_num,by show _=_;rw[HB.o,HD.o,E1.o,E2.o],?_,?_,bel⟩
       ·first|exact k0.far (by simp) _|exact (k0.far (by simp) _).far (by simp) _
       ·first|exact k1.twice (by omega)|exact k1.two (by omega) (by omega)
      case measure=>simp[intOf];omega
     ·have he2:=Ne.symm he;(go_wp2_with fail)
      go_round
      case rel=>
       refine ⟨k+1,tins (tins T' (m1:Int)) (m2:Int),by omega,by go_num,by show _=_;rw[HB.o,HD.o,E1.o,E2.o],(k0.far (by simp) _).far (by simp) _,k1.two (by omega) (by omega),bel⟩
      case measure=>simp[intOf];omega
    ·obtain rfl:k=a.atoms.length:=by omega
     (go_wp2_with fail);go_ret;refine ⟨_,rfl,?_,hB⟩;rw[HT.o,HA2.o,HB.o,List.drop_length];exact BoolsO.ofBlk k1 (by omega)
theorem c_spec_l3Star {lo hi lo' hi':Nat} (v v':Value) (a b:Asn) (w:World) (h:AsnV w lo hi v a) (h':AsnV w lo' hi' v' b) (hn1:a.facts.length+b.facts.length≤1049600) (hn2:a.atoms.length+b.atoms.length≤1049600) :
  Calls Tryz.prog 122 #[v,v'] w fun e w'=>∃ r,e=.returned r∧AsnO w' w.heap.size r (starA a b)∧Below w.heap.size w w':=by
 obtain ⟨A1,c1,A2,c2,rfl,h1,h2⟩:=h;obtain ⟨A3,c3,A4,c4,rfl,h3,h4⟩:=h';(go_enter Tryz.func122,Tryz.ntmps122);have kk:=blk3 w 36 36 36 #[.slice A1 a.facts.length c1,.slice A2 a.atoms.length c2] #[.slice A3 b.facts.length c3,.slice A4 b.atoms.length c4] #[.slice none 0 0,.slice none 0 0];have hB:Below w.heap.size w (((w.alloc (.cells #[.slice A1 a.facts.length c1,.slice A2 a.atoms.length c2] 36)).alloc (.cells #[.slice A3 b.facts.length c3,.slice A4 b.atoms.length c4] 36)).alloc (.cells #[.slice none 0 0,.slice none 0 0] 36)):=bel;obtain ⟨k0,k1,k2⟩:=kk;(go_wp2_with fail);have hz:=k2.lt;generalize (((w.alloc (.cells #[.slice A1 a.facts.length c1,.slice A2 a.atoms.length c2] 36)).alloc (.cells #[.slice A3 b.facts.length c3,.slice A4 b.atoms.length c4] 36)).alloc (.cells #[.slice none 0 0,.slice none 0 0] 36))=W at k0 k1 k2 hB hz ⊢;have tok3:True:=trivial;have tok6:True:=trivial;have tok10:True:=trivial;have tok13:True:=trivial
 go_region_held3 (fun w'=>(∀ i,w'.cell? ⟨w.heap.size,i,none⟩=#[.slice A1 a.facts.length c1,.slice A2 a.atoms.length c2][i]?)∧(∀ i,w'.cell? ⟨w.heap.size+1,i,none⟩=#[.slice A3 b.facts.length c3,.slice A4 b.atoms.length c4][i]?))
  (exact ⟨Blk.cell blks,Blk.cell blks⟩)
  (first
   | (have _t:=tok3;clear _t tok3;refine stepFL (xs:=[]) rfl _ _ rfl rfl (FactsO.ofBlk (base:=w.heap.size) blks (by first|omega|(simp;omega))) rfl (h1.bz bel) (by first|omega|(simp;omega)) (by first|omega|(simp;omega)) ?_;intro F1 e1 w1 hO1 hg1 hB1;have hBw1:Below w.heap.size w w1:=Below.trans bel hB1;simp only[List.nil_append] at hO1;have m10:=Blk.zm (g:=w.heap.size) (hg:=hg1) blks (FactsO.ofBlk (base:=w.heap.size) blks (by first|omega|(simp;omega))).1 (by decide);have m11:=Blk.zm (g:=w.heap.size+1) (hg:=hg1) blks (FactsO.ofBlk (base:=w.heap.size) blks (by first|omega|(simp;omega))).1 (by decide);have m12:=Blk.zm (g:=w.heap.size+1+1) (hg:=hg1) blks (FactsO.ofBlk (base:=w.heap.size) blks (by first|omega|(simp;omega))).1 (by decide);have lt1:=m12.lt;(try (have za:Blk w1 (W.heap.size+1) tA #[]:=?zz;case zz=>(refine Blk.zm (hg:=hg1) ?_ (FactsO.ofBlk (base:=w.heap.size) blks (by first|omega|(simp;omega))).1 (by decide);(repeat (first|(with_reducible assumption)|(with_reducible exact Blk.new _ _ _)|((with_reducible apply Blk.far);(case hp=>(first|exact Nat.le_refl _|(simp;done)|(simp;omega)|(simp only;omega)|omega)))|(with_reducible apply Blk.set_)|((with_reducible refine Blk.newE ?_);(simp;done))|(with_reducible apply Blk.alloc)|(with_reducible apply Blk.drew)|(with_reducible apply Blk.drewN)));done)));(try (have za:Blk w1 W.heap.size tA #[]:=?zz;case zz=>(refine Blk.zm (hg:=hg1) ?_ (FactsO.ofBlk (base:=w.heap.size) blks (by first|omega|(simp;omega))).1 (by decide);(repeat (first|(with_reducible assumption)|(with_reducible exact Blk.new _ _ _)|((with_reducible apply Blk.far);(case hp=>(first|exact Nat.le_refl _|(simp;done)|(simp;omega)|(simp only;omega)|omega)))|(with_reducible apply Blk.set_)|((with_reducible refine Blk.newE ?_);(simp;done))|(with_reducible apply Blk.alloc)|(with_reducible apply Blk.drew)|(with_reducible apply Blk.drewN)));done))))
   | (have _t:=tok6;clear _t tok6;refine stepFL (xs:=a.facts) rfl _ _ rfl rfl (FactsO.bz (w:=w1) hO1 bel) rfl (h3.bz bel) (by first|omega|(simp;omega)) (by first|omega|(simp;omega)) ?_;intro F2 e2 w2 hO2 hg2 hB2;have hBw2:Below w.heap.size w w2:=Below.trans bel hB2;have m20:=Blk.zm (g:=w.heap.size) (hg:=hg2) blks (FactsO.bz (w:=w1) hO1 bel).1 (by decide);have m21:=Blk.zm (g:=w.heap.size+1) (hg:=hg2) blks (FactsO.bz (w:=w1) hO1 bel).1 (by decide);have m22:=Blk.zm (g:=w.heap.size+1+1) (hg:=hg2) blks (FactsO.bz (w:=w1) hO1 bel).1 (by decide);have lt2:=m22.lt;(try (have zb:Blk w2 w1.heap.size tA #[]:=?zz;case zz=>(refine Blk.zm (hg:=hg2) ?_ (FactsO.bz (w:=w1) hO1 bel).1 (by decide);(repeat (first|(with_reducible assumption)|(with_reducible exact Blk.new _ _ _)|((with_reducible apply Blk.far);(case hp=>(first|exact Nat.le_refl _|(simp;done)|(simp;omega)|(simp only;omega)|omega)))|(with_reducible apply Blk.set_)|((with_reducible refine Blk.newE ?_);(simp;done))|(with_reducible apply Blk.alloc)|(with_reducible apply Blk.drew)|(with_reducible apply Blk.drewN)));done)));(try (have zb:=Blk.zm (hg:=hg2) (Blk.nz za bel) (FactsO.bz (w:=w1) hO1 bel).1 (by decide))))
   | (have _t:=tok10;clear _t tok10;refine stepAL (xs:=[]) rfl _ _ rfl rfl (AtomsO.ofBlk (base:=w.heap.size) blks (by first|omega|(simp;omega))) rfl (h2.bz bel) (by first|omega|(simp;omega)) (by first|omega|(simp;omega)) ?_;intro F3 e3 w3 hO3 hg3 hB3;have hBw3:Below w.heap.size w w3:=Below.trans bel hB3;simp only[List.nil_append] at hO3;have m30:=Blk.zm (g:=w.heap.size) (hg:=hg3) blks (AtomsO.ofBlk (base:=w.heap.size) blks (by first|omega|(simp;omega))).1 (by decide);have m31:=Blk.zm (g:=w.heap.size+1) (hg:=hg3) blks (AtomsO.ofBlk (base:=w.heap.size) blks (by first|omega|(simp;omega))).1 (by decide);have m32:=Blk.zm (g:=w.heap.size+1+1) (hg:=hg3) blks (AtomsO.ofBlk (base:=w.heap.size) blks (by first|omega|(simp;omega))).1 (by decide);have lt3:=m32.lt;have hP3:=FactsO.grownA (FactsO.bz (w:=w2) hO2 bel) (AtomsO.ofBlk (base:=w.heap.size) blks (by first|omega|(simp;omega))) hg3)
   | (have _t:=tok13;clear _t tok13;refine stepAL (xs:=a.atoms) rfl _ _ rfl rfl (AtomsO.bz (w:=w3) hO3 bel) rfl (h4.bz bel) (by first|omega|(simp;omega)) (by first|omega|(simp;omega)) ?_;intro F4 e4 w4 hO4 hg4 hB4;have hBw4:Below w.heap.size w w4:=Below.trans bel hB4;have m40:=Blk.zm (g:=w.heap.size) (hg:=hg4) blks (AtomsO.bz (w:=w3) hO3 bel).1 (by decide);have m41:=Blk.zm (g:=w.heap.size+1) (hg:=hg4) blks (AtomsO.bz (w:=w3) hO3 bel).1 (by decide);have m42:=Blk.zm (g:=w.heap.size+1+1) (hg:=hg4) blks (AtomsO.bz (w:=w3) hO3 bel).1 (by decide);have lt4:=m42.lt;have hP4:=FactsO.grownA (FactsO.bz (w:=w3) hP3 bel) (AtomsO.bz (w:=w3) hO3 bel) hg4;have c42:=m42.cell;have f42:=m42.frozen))
 all_goals
  (go_wp2_with fail);refine bodyPost_ret (v:=.agg #[.slice F2 (a.facts++b.facts).length e2,.slice F4 (a.atoms++b.atoms).length e4]) (by simp[results,Tryz.results122,go_sem,c42]) rfl ⟨_,rfl,⟨_,_,rfl,?_,?_⟩,bel⟩
  ·exact (hP4.setT m42 (by decide) _ _).setT (m42.set_ _ _) (by decide) _ _
  ·exact (hO4.setT m42 (by decide) _ _).setT (m42.set_ _ _) (by decide) _ _
def disjB (T C:Nat):Bool:=(List.range 9).all fun n=>!(T.testBit n&&C.testBit n)
theorem disjB_iff {T C:Nat} (hT:T<512):(C &&& T=0)↔disjB T C=true:=by
 unfold disjB;rw[List.all_eq_true];constructor
 ·intro h n _;have:=congrArg (fun s=>Nat.testBit s n) h;simp only[Nat.testBit_and,Nat.zero_testBit] at this;rw[Bool.and_comm,this];rfl
 ·intro h;apply Nat.eq_of_testBit_eq;intro n;rw[Nat.testBit_and,Nat.zero_testBit];by_cases hn:n<9
  ·have hq:=h n (List.mem_range.mpr hn);cases h1:T.testBit n<;>cases h2:C.testBit n<;>simp_all
  ·have:T.testBit n=false:=Nat.testBit_lt_two_pow (Nat.lt_of_lt_of_le hT (Nat.pow_le_pow_right (n:=2) (by decide) (show 9≤n by omega)));rw[this,Bool.and_false]
theorem c_spec_l11Free {lo hi lo' hi':Nat} (v:Value) (a:Asn) (B:Option Addr) (c C:Nat) (w:World) (h:AsnV w lo hi v a) (h':BoolsV w lo' hi' B (zj C)) (hv:a.valid=true) :
  Calls Tryz.prog 136 #[v,.slice B 9 c] w fun e w'=>e=.returned (.bool (disjB (tset (mz a)) C))∧Below w.heap.size w w':=by
 have hV:=ax h;have HT:=ax (termsL_ok hv);have h'':=ax h';obtain ⟨pb,ob,rfl,lpb⟩:=flags_addr h';obtain ⟨A1,c1,A2,c2,rfl,h1,h2⟩:=h;clear hv;(go_enter Tryz.func136,Tryz.ntmps136);(go_wp2_with fail);refine (c_spec_l3Terms _ a _ (hV.o.bz bel) HT.o).mono ?_;rintro e w1 ⟨r,rfl,oT,hB1⟩;have hB:=bgo (w:=w) bel hB1;have fC:=h''.o.bz hB;generalize hTe:tset (mz a)=T at oT;have HTE:=ax hTe;clear hTe;obtain ⟨Tb,ct,rfl,fT⟩:=oT.rj;rw[zjB];obtain ⟨pt,ot,rfl,lpt⟩:=flags_addr fT;clear hB1 oT h' h'';have HD:aJ (disjB T C=(List.range 9).all fun n=>!(T.testBit n&&C.testBit n)):=rfl;(go_wp2_with fail)
 go_loop [6] (fun i=>∃ k:Nat,k≤9∧i=.int .i64 k∧aJ (disjB T C=((List.range 9).drop k).all fun n=>!(T.testBit n&&C.testBit n))) (fun i=>9 - (intOf i).toNat)
 case atStart=>exact ⟨0,by omega,rfl,HD.o⟩
 case round=>
  obtain ⟨k,hk,rfl,HA⟩:=hrel;by_cases hlt:k<9
  ·have HN:aJ (((List.range 9).drop k).all (fun n=>!(T.testBit n&&C.testBit n))=(!(T.testBit k&&C.testBit k)&&((List.range 9).drop (k+1)).all fun n=>!(T.testBit n&&C.testBit n))):=by
    show _=_;rw[all_drop _ (List.range 9) k (by simpa using hlt)];simp
   have f1:=flags_at fT (m:=k) (by omega);have f2:=flags_at fC (m:=k) (by omega);have k9:(k:Int)<9:=by omega
   cases ht:T.testBit k
   ·rw[ht] at f1;have HZ:=ax ht;clear ht;(go_wp2_with fail)
    go_round
    case rel=>exact ⟨k+1,by omega,by go_num,by show _=_;rw[HA.o,HN.o,HZ.o];rfl⟩
    case measure=>simp[intOf];omega
   ·cases hc:C.testBit k
    all_goals
     rw[ht] at f1;rw[hc] at f2;have HZ:=ax ht;have HC:=ax hc;clear ht hc;(go_wp2_with fail)
    ·go_round
     case rel=>exact ⟨k+1,by omega,by go_num,by show _=_;rw[HA.o,HN.o,HZ.o,HC.o];rfl⟩
     case measure=>simp[intOf];omega
    ·go_ret;exact ⟨zjD (by rw[HTE.o,HA.o,HN.o,HZ.o,HC.o];rfl),hB⟩
  ·obtain rfl:k=9:=by omega
   (go_wp2_with fail);go_ret;exact ⟨zjD (by rw[HTE.o,HA.o];rfl),hB⟩
end
section
open Go
section
variable {P:Program} {md:Region.Mode} {S:World→Prop} {Q:Exit→Act→World→Prop}
def lastQ (P:Program) (st:Oper) (Q:Exit→Act→World→Prop):Exit→Act→World→Prop
 | .normal,a,w=>Oper.wp P st a w (Q .normal) Q
 | e,a,w=>Q e a w
def nopOf (st:Oper):Oper:={ st with op:=.assign (.const undef),dst:=none,guard:=none }
theorem wp_monoQ {o:Oper} {a:Act} {w:World} {K K':Act→World→Prop} {Q Q':Exit→Act→World→Prop} (hK:∀ a w,K a w→K' a w)
  (hQ:∀ c a w,Q (.panic c) a w→Q' (.panic c) a w) (hL:LetsOut Q→LetsOut Q') (hh:o.wp P a w K Q):o.wp P a w K' Q':=by
 unfold Oper.wp at *;generalize (execOp a.eval o).run P w=r at *
 cases r with
 | ok n w'=>
  cases n<;>simp only[Oper.upon] at hh ⊢<;>
   first
    | exact hK _ _ hh
    | exact Calls.mono hh (fun e w'' he=>by cases e<;>first|exact hK _ _ he|exact hQ _ _ _ he|exact hL he)
    | exact Rows.mono hh (fun _ _ he=>hK _ _ he)
 | halt x w'=>cases x<;>simp only[Oper.upon] at hh ⊢<;>first|exact hQ _ _ _ hh|exact hh
theorem ready_push (l:List Oper) (st:Oper) (listed:Array Bool):Region.ready md (l++[nopOf st]).toArray listed=Region.ready md (l++[st]).toArray listed:=by
 unfold Region.ready;simp only[List.size_toArray,List.length_append,List.length_cons,List.length_nil];apply List.filter_congr;intro i hi
 congr 1
 simp only[List.getElem?_toArray,List.getElem?_append]
 split
 ·rfl
 ·rcases Nat.eq_zero_or_pos (i - l.length) with h|h
  ·rw[h];rfl
  ·rw[List.getElem?_eq_none (by simp;omega),List.getElem?_eq_none (by simp;omega)]
def topoB (md:Region.Mode) (ops:Array Oper):Bool:=
 (List.range ops.size).all fun i=>match ops[i]? with|some o=>o.after.all fun e=>!Region.binds md e || decide (e.on<i)|none=>true
theorem ready_some {ops:Array Oper} (ht:topoB md ops=true) {listed:Array Bool} (hsz:listed.size=ops.size) {z:Nat} (hz:z<ops.size) (hun:listed.getD z true=false):Region.ready md ops listed≠[]:=by
 have:∀ n z,z<n→z<ops.size→listed.getD z true=false→∃ i,i∈Region.ready md ops listed:=by
  intro n
  induction n with
  | zero=>intro z h;omega
  | succ n ih=>
   intro z hzn hz hun;by_cases hm:∃ j,j<z∧listed.getD j true=false
   ·obtain ⟨j,hj,hju⟩:=hm;exact ih j (by omega) (by omega) hju
   ·refine ⟨z,mem_ready.2 ⟨hun,ops[z],Array.getElem?_eq_getElem hz,fun e he hb=>?_⟩⟩;have h1:=List.all_eq_true.1 ht z (by simpa using hz);rw[Array.getElem?_eq_getElem hz] at h1;simp only[Array.all_eq_true_iff_forall_mem] at h1;have h2:=h1 e he;rw[hb] at h2;simp at h2;cases h3:listed.getD e.on true
    ·exact absurd ⟨e.on,h2,h3⟩ hm
    ·have h4:e.on<listed.size:=by omega
     simp[h4] at h3 ⊢;exact h3
 obtain ⟨i,hi⟩:=this (z+1) z (Nat.lt_succ_self _) hz hun;intro h;rw[h] at hi;cases hi
theorem wpAny_of_last {l:List Oper} {st:Oper} (hg:(l.all fun o=>o.guard.isNone)=true) (hst:st.guard.isNone=true)
  (hs:Region.sinkB md (l++[st]).toArray l.length=true) (hc:Region.chainB md (l++[st]).toArray l.length=true) (ht:topoB md (l++[st]).toArray=true) :
  ∀ (f:Nat) (listed:Array Bool) (a:Act) (w:World),HeadInv md (l++[st]).toArray l.length listed→
   wpAnyH P md (l++[nopOf st]).toArray (lastQ P st Q) S f listed a w→wpAny P md (l++[st]).toArray Q f listed a w:=by
 have hsz:(l++[st]).toArray.size=l.length+1:=by simp
 have hzs:(l++[st]).toArray[l.length]? = some st:=by simp
 have hzn:(l++[nopOf st]).toArray[l.length]? = some (nopOf st):=by simp
 intro f
 induction f with
 | zero=>
  intro listed a w inv h;have hun:=inv.tail l.length (Nat.le_refl _) (by omega);exact absurd ((ready_push l st listed).symm.trans h.1) (ready_some ht inv.size (by omega) hun)
 | succ f ih=>
  intro listed a w inv h;have hun:=inv.tail l.length (Nat.le_refl _) (by omega);refine ⟨fun h0=>absurd h0 (ready_some ht inv.size (by omega) hun),fun i hi=>?_⟩;have hi':i∈Region.ready md (l++[nopOf st]).toArray listed:=by rw[ready_push];exact hi
  have h1:=h.2 i hi';obtain ⟨_,oi,hoi,_⟩:=mem_ready.1 hi;have hil:i<l.length+1:=by have:=(Array.getElem?_eq_some_iff.1 hoi).1;omega
  by_cases hiz:i=l.length
  ·subst hiz
   have hall:∀ j,j<l.length→listed.getD j true=true:=by
    intro j hj;cases hu:listed.getD j true
    ·exact absurd hi (tail_waits hs hc (by omega) inv _ j rfl hj hu l.length (Nat.le_refl _))
    ·rfl
   have hnil:Region.ready md (l++[st]).toArray (listed.setIfInBounds l.length true)=[]:=by
    rw[List.eq_nil_iff_forall_not_mem];intro j hj;obtain ⟨hju,oj,hoj,_⟩:=mem_ready.1 hj;have hjl:j<l.length+1:=by have:=(Array.getElem?_eq_some_iff.1 hoj).1;omega
    by_cases e:l.length=j
    ·subst e;have:l.length<listed.size:=by have:=inv.size;omega
     simp[this] at hju
    ·rw[getD_set_ne true e,hall j (by omega)] at hju;cases hju
   unfold wpOp at h1 ⊢;simp only[hzn,hzs] at h1 ⊢;have hw1:Region.wanted (nopOf st) (yielded (l++[nopOf st]).toArray a.tmps)=true:=by simp[Region.wanted,nopOf]
   have hgs:st.guard=none:=by simpa using hst
   have hw2:Region.wanted st (yielded (l++[st]).toArray a.tmps)=true:=by simp[Region.wanted,hgs]
   rw[hw1,if_pos rfl] at h1;rw[hw2,if_pos rfl];refine Or.inl ?_
   have h2:wpAnyH P md (l++[nopOf st]).toArray (lastQ P st Q) S f (listed.setIfInBounds l.length true) a w:=by
    rcases h1 with h1|⟨h1,_⟩
    ·unfold Oper.wp at h1;simp[nopOf,execOp,Oper.upon,Act.put,Act.eval] at h1;exact h1.2
    ·simp[Oper.asks,nopOf,execOp] at h1;exact absurd h1 (by intro h;cases h;rename_i h;cases h)
   have h3:lastQ P st Q .normal a w:=by
    rw[←ready_push] at hnil
    cases f with
    | zero=>exact h2.2
    | succ f=>exact h2.1 hnil
   refine Oper.wp_mono (fun a' w' hq=>?_) h3
   cases f with
   | zero=>exact ⟨hnil,hq⟩
   | succ f=>exact ⟨fun _=>hq,by rw[hnil];simp⟩
  ·have hlt:i<l.length:=by omega
   have e1:(l++[st]).toArray[i]? = some l[i]:=by simp[List.getElem?_append,hlt]
   have e2:(l++[nopOf st]).toArray[i]? = some l[i]:=by simp[List.getElem?_append,hlt]
   have hgi:l[i].guard=none:=by have:=List.all_eq_true.1 hg l[i] (List.getElem_mem hlt);simpa using this
   unfold wpOp at h1 ⊢;simp only[e1,e2] at h1 ⊢;have hw1:Region.wanted l[i] (yielded (l++[nopOf st]).toArray a.tmps)=true:=by simp[Region.wanted,hgi]
   have hw2:Region.wanted l[i] (yielded (l++[st]).toArray a.tmps)=true:=by simp[Region.wanted,hgi]
   rw[hw1,if_pos rfl] at h1;rw[hw2,if_pos rfl];rcases h1 with h1|⟨h1,h2⟩
   ·exact Or.inl (wp_monoQ (K:=fun a' w'=>S w'∧wpAnyH P md (l++[nopOf st]).toArray (lastQ P st Q) S f (listed.setIfInBounds i true) a' w') (fun a' w' hk=>ih _ _ _ (inv.set hi hlt) hk.2) (fun c a w h=>h) (fun h=>h) h1)
   ·exact Or.inr ⟨h1,h2⟩
theorem wp_region_last {l:List Oper} {st:Oper} {id:Nat} {a:Act} {w:World} (hm:P.follows .mixedOrders=true) (hg:(l.all fun o=>o.guard.isNone)=true) (hst:st.guard.isNone=true)
  (hs:Region.sinkB .any (l++[st]).toArray l.length=true) (hc:Region.chainB .any (l++[st]).toArray l.length=true) (ht:topoB .any (l++[st]).toArray=true) (hS:S w.drew)
  (h:S w.drew→wpAnyH P .any (l++[nopOf st]).toArray (lastQ P st Q) S (l.length+1) (Array.replicate (l.length+1) false) a w.drew):(Code.region id (l++[st]).toArray true).wp P Q a w:=by
 refine wp_region_any hm ?_;have e:(l++[st]).toArray.size=l.length+1:=by simp
 rw[e];refine wpAny_of_last hg hst hs hc ht _ _ _ _ ⟨by simp,fun j oj _ hl=>?_,fun t _ ht=>?_⟩ (h hS)
 ·rw[getD_replicate_false] at hl;cases hl
 ·exact getD_in (by simpa using ht) (getD_replicate_false _ _)
def lastB (L:List Oper):Bool:=
 match L.getLast? with
 | none=>false
 | some st=>(L.dropLast.all fun o=>o.guard.isNone)&&st.guard.isNone&&Region.sinkB .any L.toArray L.dropLast.length&&Region.chainB .any L.toArray L.dropLast.length&&topoB .any L.toArray
theorem wp_region_last' {L:List Oper} {id:Nat} {a:Act} {w:World} (hne:L≠[]) (hm:P.follows .mixedOrders=true) (hB:lastB L=true) (hS:S w.drew)
  (h:S w.drew→wpAnyH P .any (L.dropLast++[nopOf (L.getLast hne)]).toArray (lastQ P (L.getLast hne) Q) S L.length (Array.replicate L.length false) a w.drew):(Code.region id L.toArray true).wp P Q a w:=by
 have e:L.dropLast++[L.getLast hne]=L:=List.dropLast_concat_getLast hne;unfold lastB at hB;rw[List.getLast?_eq_some_getLast hne] at hB;simp only[Bool.and_eq_true] at hB;obtain ⟨⟨⟨⟨h1,h2⟩,h3⟩,h4⟩,h5⟩:=hB;have hl:L.dropLast.length+1=L.length:=by have:=congrArg List.length e;simpa using this
 have key:=wp_region_last (P:=P) (S:=S) (Q:=Q) (l:=L.dropLast) (st:=L.getLast hne) (id:=id) (a:=a) (w:=w) hm h1 h2 (by rw[e];exact h3) (by rw[e];exact h4) (by rw[e];exact h5) hS (by rw[hl];exact h)
 rwa [e] at key
end
end
section
open Go Go.RowKit Go.Proofs
attribute [local go_sem ↓] Go.wp_at_zero Go.wp_at_succ
theorem FactsV.one' {w:World} {g:Nat} {e:Bool} {x y:Int} (h:Blk w g tF #[.bool e,.int .i64 x,.int .i64 y]):FactsV w g (g+1) (some ⟨g,0,none⟩) [⟨e,x,y⟩]:=FactsV.one (f:=⟨e,x,y⟩) h
theorem AtomsV.one' {w:World} {g:Nat} {e:Int} {x y:Int} (h:Blk w g tA #[.int .i64 e,.int .i64 x,.int .i64 y]):AtomsV w g (g+1) (some ⟨g,0,none⟩) [⟨e,x,y⟩]:=AtomsV.one (f:=⟨e,x,y⟩) h
theorem map_take {α β:Type} (f:α→β) (xs:List α) (k:Nat) (hk:k<xs.length):(xs.take (k+1)).map f=(xs.take k).map f++[f xs[k]]:=by
 rw[List.take_succ_eq_append_getElem hk,List.map_append];rfl
theorem c_spec_l3Subst {lo hi:Nat} (v:Value) (a:Asn) (x y:Int) (w:World) (h:AsnV w lo hi v a) :
  Calls Tryz.prog 215 #[v,.int .i64 x,.int .i64 y] w fun e w'=>∃ r,e=.returned r∧AsnO w' w.heap.size r (substA x y a)∧Below w.heap.size w w':=by
 obtain ⟨A1,c1,A2,c2,rfl,h1,h2⟩:=h;have l1:=h1.le;have l2:=h2.le;(go_enter Tryz.func215,Tryz.ntmps215);obtain ⟨k0,k1,k2⟩:=blk3 w 36 36 36 #[.slice A1 a.facts.length c1,.slice A2 a.atoms.length c2] #[.slice none 0 0,.slice none 0 0] #[.slice none 0 0,.slice none 0 0];(go_wp2_with fail)
 go_loopw [8] (fun i wr=>∃ (k:Nat) (A:Option Addr) (c:Nat),k≤a.facts.length∧i=.int .i64 k∧FactsO wr (w.heap.size+1+1+1) (.slice A k c) ((a.facts.take k).map (Fct.sub x y))∧
  Blk wr w.heap.size 36 #[.slice A1 a.facts.length c1,.slice A2 a.atoms.length c2]∧Blk wr (w.heap.size+1) 36 #[.slice none 0 0,.slice none 0 0]∧Blk wr (w.heap.size+1+1) 36 #[.slice A k c,.slice none 0 0]∧Below w.heap.size w wr) (fun i _=>a.facts.length - (intOf i).toNat)
 case atStart=>exact ⟨0,none,0,Nat.zero_le _,rfl,FactsO.nil _ _,k0,k1,k2,bel⟩
 case round=>
  clear k0 k1 k2;obtain ⟨k,A,c,hk,rfl,of,k0,k1,k2,hB⟩:=hrel;(replace qk0:=k0.z;replace qk1:=k1.cell;replace rk1:=k1.frozen;replace lk1:=k1.lt;replace qk2:=k2.z);by_cases hlt:k<a.facts.length
  ·obtain ⟨b,off,rfl,hbl⟩:=h1.blt hlt;obtain ⟨g0,g1,g2⟩:=(h1.bz hB).cl hlt;have HT:=ax (map_take (Fct.sub x y) a.facts k hlt);have HL:aJ (((a.facts.take k).map (Fct.sub x y)).length=k):=by simp[aJ];omega
   have hL2:(List.map (Fct.sub x y) (List.take k a.facts)).length≤1049599:=by rw[HL.o];omega
   have hwz:=hB.size;(go_wp2_with fail);have kf:=Blk.new wr tF #[.bool a.facts[k].eq,.int .i64 a.facts[k].a,.int .i64 a.facts[k].b];refine wp_region_noPanic ?_;refine wp_region_last' (S:=(fun w'=>(∀ i,w'.cell? ⟨w.heap.size+1+1,i,none⟩=#[.slice A k c,.slice none 0 0][i]?)∧(∀ i,w'.cell? ⟨wr.heap.size,i,none⟩=#[.bool a.facts[k].eq,.int .i64 a.facts[k].a,.int .i64 a.facts[k].b][i]?))) (by simp) (by kernel_rfl) (by kernel_rfl) (⟨Blk.cell blks,Blk.cell blks⟩) (fun aH=>?_);simp only[List.dropLast,List.getLast,nopOf,List.cons_append,List.nil_append,List.length_cons,List.length_nil,Nat.zero_add,Nat.reduceAdd];refine tk2 0 rfl aH (h:=tk2 1 rfl aH (h:=tk2 2 rfl aH (h:=?_)));(try simp only[zz]);refine tk2 3 rfl aH (h:=tk2 4 rfl aH (h:=tk2 5 rfl aH (h:=?_)));(try simp only[zz]);refine tk2 6 rfl aH (h:=tk2 7 rfl aH (h:=tk2 9 rfl aH (h:=?_)));(try simp only[zz]);refine tk2 10 rfl aH (h:=tk2 11 rfl aH (h:=tk2 12 rfl aH (h:=?_)));refine rdc 8 rfl fun K hK=>?_;(try simp only[zz]);(go_simp;refine (c_l3Swap _ _ _ _).mono ?_;rintro e w' ⟨rfl,rfl⟩);refine hK.out _ _ (⟨Blk.cell blks,Blk.cell blks⟩) ?_;clear aH hK K;intro aH;refine rdc 13 rfl fun K hK=>?_;(try simp only[zz]);(go_simp;refine (c_l3Swap _ _ _ _).mono ?_;rintro e w' ⟨rfl,rfl⟩);refine hK.out _ _ (⟨Blk.cell blks,Blk.cell blks⟩) ?_;clear aH hK K;intro aH;(try simp only[zz]);refine tk2 14 rfl aH (h:=?_);refine rdc 15 rfl fun K hK=>?_;(try simp only[zz]);go_simp;refine hK.out _ _ (⟨Blk.cell blks,Blk.cell blks⟩) ?_;clear aH hK K;intro aH;(try simp only[zz]);refine rdc 16 rfl fun K hK=>?_;skip;(refine stepFL (base:=w.heap.size+1+1+1) (xs:=(a.facts.take k).map (Fct.sub x y)) rfl _ _ rfl rfl (FactsO.bz (w:=wr) of bel) rfl (FactsV.one' blks) (by simp;omega) (by simp;omega) ?_;intro A' c' w2 of2 hg2 hB3;have z2:=Blk.zm (g:=w.heap.size+1+1) (hg:=hg2) blks (FactsO.bz (w:=wr) of bel).1 (by decide);have z2c:=z2.cell;have z2f:=z2.frozen;have zf:Blk w2 wr.heap.size tF #[.bool a.facts[k].eq,.int .i64 a.facts[k].a,.int .i64 a.facts[k].b]:=Blk.grown blks hg2 (fun e=>absurd (of.1.lt _ e.symm).2 (Nat.lt_irrefl _)));refine hK.out _ _ (⟨z2c,zf.cell⟩) ?_;clear aH hK K;intro aH;(try simp only[zz]);refine tk2 17 rfl aH (h:=?_);(try simp only[zz]);refine rdc 18 rfl fun K hK=>?_;go_simp;refine hK.out _ _ (⟨z2c,zf.cell⟩) (fun aH=>?_);clear hK K;refine wpAnyH_done (by kernel_rfl) ?_ _;unfold lastQ;go_simp;refine NoPanic.normal ?_;have z0:=Blk.zm (g:=w.heap.size) (hg:=hg2) blks (FactsO.bz (w:=wr) of bel).1 (by decide);have z1:=Blk.zm (g:=w.heap.size+1) (hg:=hg2) blks (FactsO.bz (w:=wr) of bel).1 (by decide);have hBw2:Below w.heap.size w w2:=Below.trans bel (hB3.mono (by omega));(go_wp2_with fail);have of3:=of2.setT z2 (by decide) 0 (.slice A' (List.map (Fct.sub x y) (List.take k a.facts)++[Fct.sub x y a.facts[k]]).length c');rw[show (⟨a.facts[k].eq,swp x y a.facts[k].a,swp x y a.facts[k].b⟩:Fct)=Fct.sub x y a.facts[k] from rfl] at of3;rw[←HT.o] at of3;simp only[List.length_map,List.length_take,Nat.min_eq_left (show k+1≤a.facts.length from hlt)] at of3
   go_round
   case rel=>exact ⟨k+1,A',c',by omega,by go_num,of3,z0.far (by simp only[];omega) _,z1.far (by simp only[];omega) _,z2.set_ 0 _,bel⟩
   case measure=>simp[intOf];omega
  ·obtain rfl:k=a.facts.length:=by omega
   rw[List.take_length] at of;(go_wp2_with fail)
   go_loopw [10] (fun i wr=>∃ (k:Nat) (B:Option Addr) (d:Nat),k≤a.atoms.length∧i=.int .i64 k∧FactsO wr (w.heap.size+1+1+1) (.slice A a.facts.length c) (a.facts.map (Fct.sub x y))∧AtomsO wr (w.heap.size+1+1+1) (.slice B k d) ((a.atoms.take k).map (Atm.sub x y))∧
    Blk wr w.heap.size 36 #[.slice A1 a.facts.length c1,.slice A2 a.atoms.length c2]∧Blk wr (w.heap.size+1) 36 #[.slice none 0 0,.slice none 0 0]∧Blk wr (w.heap.size+1+1) 36 #[.slice A a.facts.length c,.slice B k d]∧Below w.heap.size w wr) (fun i _=>a.atoms.length - (intOf i).toNat)
   case atStart=>exact ⟨0,none,0,Nat.zero_le _,rfl,of,AtomsO.nil _ _,k0,k1,k2,bel⟩
   case round=>
    clear k0 k1 k2 of hB qk0 qk1 rk1 lk1 qk2;obtain ⟨k,B,d,hk,rfl,og,of,k0,k1,k2,hB⟩:=hrel;(replace qk0:=k0.z;replace qk1:=k1.cell;replace rk1:=k1.frozen;replace lk1:=k1.lt;replace qk2:=k2.z);by_cases hlt:k<a.atoms.length
    ·obtain ⟨b,off,rfl,hbl⟩:=h2.blt hlt;obtain ⟨g0,g1,g2⟩:=(h2.bz hB).cl hlt;have HT:=ax (map_take (Atm.sub x y) a.atoms k hlt);have HL:aJ (((a.atoms.take k).map (Atm.sub x y)).length=k):=by simp[aJ];omega
     have hL2:(List.map (Atm.sub x y) (List.take k a.atoms)).length≤1049599:=by rw[HL.o];omega
     have hwz:=hB.size;(go_wp2_with fail);have kf:=Blk.new wr tA #[.int .i64 a.atoms[k].kind,.int .i64 a.atoms[k].a,.int .i64 a.atoms[k].b];refine wp_region_noPanic ?_;refine wp_region_last' (S:=(fun w'=>(∀ i,w'.cell? ⟨w.heap.size+1+1,i,none⟩=#[.slice A a.facts.length c,.slice B k d][i]?)∧(∀ i,w'.cell? ⟨wr.heap.size,i,none⟩=#[.int .i64 a.atoms[k].kind,.int .i64 a.atoms[k].a,.int .i64 a.atoms[k].b][i]?))) (by simp) (by kernel_rfl) (by kernel_rfl) (⟨Blk.cell blks,Blk.cell blks⟩) (fun aH=>?_);simp only[List.dropLast,List.getLast,nopOf,List.cons_append,List.nil_append,List.length_cons,List.length_nil,Nat.zero_add,Nat.reduceAdd];refine tk2 0 rfl aH (h:=tk2 1 rfl aH (h:=tk2 2 rfl aH (h:=?_)));(try simp only[zz]);refine tk2 3 rfl aH (h:=tk2 4 rfl aH (h:=tk2 5 rfl aH (h:=?_)));(try simp only[zz]);refine tk2 6 rfl aH (h:=tk2 7 rfl aH (h:=tk2 9 rfl aH (h:=?_)));(try simp only[zz]);refine tk2 10 rfl aH (h:=tk2 11 rfl aH (h:=tk2 12 rfl aH (h:=?_)));refine rdc 8 rfl fun K hK=>?_;(try simp only[zz]);(go_simp;refine (c_l3Swap _ _ _ _).mono ?_;rintro e w' ⟨rfl,rfl⟩);refine hK.out _ _ (⟨Blk.cell blks,Blk.cell blks⟩) ?_;clear aH hK K;intro aH;refine rdc 13 rfl fun K hK=>?_;(try simp only[zz]);(go_simp;refine (c_l3Swap _ _ _ _).mono ?_;rintro e w' ⟨rfl,rfl⟩);refine hK.out _ _ (⟨Blk.cell blks,Blk.cell blks⟩) ?_;clear aH hK K;intro aH;(try simp only[zz]);refine tk2 14 rfl aH (h:=?_);refine rdc 15 rfl fun K hK=>?_;(try simp only[zz]);go_simp;refine hK.out _ _ (⟨Blk.cell blks,Blk.cell blks⟩) ?_;clear aH hK K;intro aH;(try simp only[zz]);refine rdc 16 rfl fun K hK=>?_;skip;(refine stepAL (base:=w.heap.size+1+1+1) (xs:=(a.atoms.take k).map (Atm.sub x y)) rfl _ _ rfl rfl (AtomsO.bz (w:=wr) of bel) rfl (AtomsV.one' blks) (by simp;omega) (by simp;omega) ?_;intro A' c' w2 of2 hg2 hB3;have z2:=Blk.zm (g:=w.heap.size+1+1) (hg:=hg2) blks (AtomsO.bz (w:=wr) of bel).1 (by decide);have z2c:=z2.cell;have z2f:=z2.frozen;have zf:Blk w2 wr.heap.size tA #[.int .i64 a.atoms[k].kind,.int .i64 a.atoms[k].a,.int .i64 a.atoms[k].b]:=Blk.grown blks hg2 (fun e=>absurd (of.1.lt _ e.symm).2 (Nat.lt_irrefl _)));refine hK.out _ _ (⟨z2c,zf.cell⟩) ?_;clear aH hK K;intro aH;(try simp only[zz]);refine tk2 17 rfl aH (h:=?_);(try simp only[zz]);refine rdc 18 rfl fun K hK=>?_;go_simp;refine hK.out _ _ (⟨z2c,zf.cell⟩) (fun aH=>?_);clear hK K;refine wpAnyH_done (by kernel_rfl) ?_ _;unfold lastQ;go_simp;refine NoPanic.normal ?_;have z0:=Blk.zm (g:=w.heap.size) (hg:=hg2) blks (AtomsO.bz (w:=wr) of bel).1 (by decide);have z1:=Blk.zm (g:=w.heap.size+1) (hg:=hg2) blks (AtomsO.bz (w:=wr) of bel).1 (by decide);have hBw2:Below w.heap.size w w2:=Below.trans bel (hB3.mono (by omega));(go_wp2_with fail);have of3:=of2.setT z2 (by decide) 1 (.slice A' (List.map (Atm.sub x y) (List.take k a.atoms)++[Atm.sub x y a.atoms[k]]).length c');rw[show (⟨a.atoms[k].kind,swp x y a.atoms[k].a,swp x y a.atoms[k].b⟩:Atm)=Atm.sub x y a.atoms[k] from rfl] at of3;rw[←HT.o] at of3;simp only[List.length_map,List.length_take,Nat.min_eq_left (show k+1≤a.atoms.length from hlt)] at of3
     go_round
     case rel=>exact ⟨k+1,A',c',by omega,by go_num,(FactsO.grownA (og.bz bel) (AtomsO.bz (w:=wr) of bel) hg2).setT z2 (by decide) _ _,of3,z0.far (by simp only[];omega) _,z1.far (by simp only[];omega) _,z2.set_ 1 _,bel⟩
     case measure=>simp[intOf];omega
    ·obtain rfl:k=a.atoms.length:=by omega
     rw[List.take_length] at of;(go_wp2_with fail);refine bodyPost_ret (v:=.agg #[.slice A a.facts.length c,.slice B a.atoms.length d]) (by simp[results,Tryz.results215,go_sem,qk1]) rfl ⟨_,rfl,?_,bel⟩;refine ⟨_,_,rfl,?_,?_⟩
     ·simpa [substA] using ((og.setT k1 (by decide) 0 (.slice A a.facts.length c)).setT (k1.set_ _ _) (by decide) 1 (.slice B a.atoms.length d)).bq (show w.heap.size≤w.heap.size+1+1+1 by omega)
     ·simpa [substA] using ((of.setT k1 (by decide) 0 (.slice A a.facts.length c)).setT (k1.set_ _ _) (by decide) 1 (.slice B a.atoms.length d)).bq (show w.heap.size≤w.heap.size+1+1+1 by omega)
end
end Go.Proofs.YtgdfdmjnadnlnaaGreat
