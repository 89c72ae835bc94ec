/- Programs: what the spec gathers over all commands: the changed variables. -/
import Derived.Test.YtgdfdmjnadnlnaaGreatMCmdIc
set_option linter.unusedSimpArgs false
set_option linter.unusedVariables false
set_option maxRecDepth 100000
set_option maxHeartbeats 25600000
namespace Go.Proofs.YtgdfdmjnadnlnaaGreat
section
open Go Go.RowKit Go.Proofs
theorem l8Changed_go:∀ (N:Nat) (L:Cms),L.sz<N→∀ (A:Option Addr) (c lo hi g S d:Nat) (w:World),CmsV w lo hi A L→L.len≤1049600→L.small 1049600→L.shape d=true→hi≤g→S<512→Blk w g tB (encB (flagsOf S)).toArray→
  Calls Tryz.prog 134 #[.slice (some ⟨g,0,none⟩) 9 9,.slice A L.len c] w fun e w'=>e=.returned (.slice (some ⟨g,0,none⟩) 9 9)∧Blk w' g tB (encB (flagsOf (L.fold chF S))).toArray∧Mk (fun x=>x=g) w w':=by
 intro N
 induction N with
 | zero=>intro L h;omega
 | succ N IH=>
  intro L hsz A c lo hi g S d w hV hlen hsm hsh hgS hS hK;replace IH:=ax IH;replace hsm:=ax hsm;replace hsz:=ax hsz;replace hsh:=ax hsh;obtain ⟨n,hn⟩:∃ n,n=L.len:=⟨_,rfl⟩;rw[←hn];rw[←hn] at hlen;replace hn:=ax hn;have hgl:=hK.lt;replace hV:=ax hV;(go_enter Tryz.func134,Tryz.ntmps134);(go_wp2_with fail)
  go_loopw [0,5] (fun y x wr=>∃ (j S1:Nat),j≤n∧x=.int .i64 j∧y=.slice (some ⟨g,0,none⟩) 9 9∧S1<512∧aJ (L.fold chF S=(L.drop j).fold chF S1)∧Blk wr g tB (encB (flagsOf S1)).toArray∧Mk (fun x=>x=g) w wr) (fun _ x _=>n - (intOf x).toNat)
  case atStart=>exact ⟨0,S,Nat.zero_le _,rfl,rfl,hS,ax rfl,hK,Mk.refl _ _⟩
  case round=>
   clear hK;obtain ⟨j,S1,hj,rfl,rfl,hS1,HR,kS,hM⟩:=hrel;by_cases hlt:j<n
   ·have hpos:0<(L.drop j).len:=by rw[Cms.drop_len,←hn.o];omega
    obtain ⟨k,a,b,t,i,body,els,r,eL⟩:=Cms.cons_of_len hpos;obtain ⟨bl,o,rfl,-,hblt,hAt⟩:=(hV.o.mk1 hM hgS hgl) (by rw[←hn.o];omega);have hD:=hAt.drop j;have hSm:=Cms.small_drop j hsm.o;have hZ:=Cms.sz_drop j L;have hDs:=Cms.drop_succ j L eL;have hshj:=Cms.shape_drop j hsh.o;have HR':=HR.o;rw[eL] at hD hSm hZ HR' hshj;obtain ⟨⟨p0,p1,p2,p3,p4,p5⟩,⟨A6,c6,p6,g6⟩,⟨A7,c7,p7,g7⟩,⟨A8,c8,p8,g8⟩,⟨A9,c9,p9,g9⟩,-⟩:=hD;obtain ⟨s1,s2,s3,s4,s5,s6,-⟩:=hSm;simp only[Cms.sz] at hZ;have hbs:body.sz<N:=by have:=hsz.o;omega
    have hes:els.sz<N:=by have:=hsz.o;omega
    have gB:aJ (CmsV wr lo hi A8 body):=g8;have gE:aJ (CmsV wr lo hi A9 els):=g9;rw[Cms.fold,←hDs] at HR';rw[Cms.shape] at hshj;simp only[Bool.and_eq_true] at hshj;obtain ⟨-,hfv,hsb,hse,-⟩:=hshj;have hta:=isTermB_iff.1 (fval_terms hfv).1;obtain ⟨S2,hS2⟩:∃ x,x=chF S1 k a b t i:=⟨_,rfl⟩;have l2:S2<512:=by rw[hS2];exact chF_lt hS1 k a b t i
    obtain ⟨S3,hS3⟩:∃ x,x=body.fold chF S2:=⟨_,rfl⟩;have l3:S3<512:=by rw[hS3];exact Cms.fold_lt (fun S k a b t i h=>chF_lt h k a b t i) body l2
    obtain ⟨S4,hS4⟩:∃ x,x=els.fold chF S3:=⟨_,rfl⟩;have l4:S4<512:=by rw[hS4];exact Cms.fold_lt (fun S k a b t i h=>chF_lt h k a b t i) els l3
    rw[←hS2,←hS3,←hS4] at HR';obtain ⟨m,e1⟩:=Int.eq_ofNat_of_zero_le hta.1;have m8:(m:Int)<9:=by omega
    have hin:(k=1∨k=2∨k=4)→S2=tins S1 (m:Int):=fun h=>by rw[hS2,←e1];exact if_pos h
    have hout:¬(k=1∨k=2∨k=4)→S2=S1:=fun h=>by rw[hS2];exact if_neg h
    rw[e1] at p1;replace HR':=ax HR';replace hS3:=ax hS3;replace hS4:=ax hS4;replace hbs:=ax hbs;replace hes:=ax hes;replace s5:=ax s5;replace s6:=ax s6;replace hsb:=ax hsb;replace hse:=ax hse;have hgl1:=kS.lt;have hbl:=block_lt_of_cell p8;have hbg:bl≠g:=by omega
    have q1:wr.cell? ⟨g,m,none⟩=some (.bool (S1.testBit m)):=(kS.cell m).trans (flags_cell S1 _ rfl (by omega));have r1:=kS.frozen;clear hZ hpos hAt g6 g7 g8 g9 HR hDs eL hta e1 hfv hS2;have key:∀ V:World,Blk V g tB (encB (flagsOf S2)).toArray→Mk (fun x=>x=g) wr V→V.cell? ⟨bl,o+j * 10+8,none⟩=some (.slice A8 body.len c8)→V.cell? ⟨bl,o+j * 10+9,none⟩=some (.slice A9 els.len c9)→True:=fun _ _ _ _ _=>trivial;clear key;by_cases hk:k=1∨k=2∨k=4
    case' pos=>
     have e2:=hin hk
     have k2:Blk (wr.setCell ⟨g,m,none⟩ (.bool true)) g tB (encB (flagsOf S2)).toArray:=by
      rw[e2,←tins_flags S1 m (by omega)];exact kS.set_ m _
     have M2:Mk (fun x=>x=g) wr (wr.setCell ⟨g,m,none⟩ (.bool true)):=(Mk.refl (fun x=>x=g) _).set (x:=⟨g,m,none⟩) rfl _;have P8:(wr.setCell ⟨g,m,none⟩ (.bool true)).cell? ⟨bl,o+j * 10+8,none⟩=some (.slice A8 body.len c8):=(World.cell?_of_block (a:=⟨bl,o+j * 10+8,none⟩) (M2.block bl hbl hbg)).trans p8;have P9:(wr.setCell ⟨g,m,none⟩ (.bool true)).cell? ⟨bl,o+j * 10+9,none⟩=some (.slice A9 els.len c9):=(World.cell?_of_block (a:=⟨bl,o+j * 10+9,none⟩) (M2.block bl hbl hbg)).trans p9;replace k2:=ax k2;replace M2:=ax M2;replace P8:=ax P8;replace P9:=ax P9;clear hin hout e2;rcases hk with rfl|rfl|rfl
    case' neg=>
     have e2:=hout hk;rw[←e2] at kS;have k2:=ax kS;have M2:=ax (Mk.refl (fun x=>x=g) wr);have P8:=ax p8;have P9:=ax p9;have k1:(k == 1)=false:=beq_false_of_ne fun e=>hk (.inl e);have k2':(k == 2)=false:=beq_false_of_ne fun e=>hk (.inr (.inl e));have k4:(k == 4)=false:=beq_false_of_ne fun e=>hk (.inr (.inr e));clear hin hout e2 hk
    all_goals
     (go_wp2_with fail);replace k2:=k2.o;replace M2:=M2.o;replace P8:=P8.o;replace P9:=P9.o;clear kS q1 r1 p0 p1 p2 p3 p4 p5 p6 p7 p8 p9
    all_goals
     (try clear k1 k2' k4);refine wp_region_noPanic ?_;refine wp_region_held_drew (S:=(fun w'=>w'.cell? ⟨bl,o+j * 10+8,none⟩=some (.slice A8 body.len c8)∧w'.cell? ⟨bl,o+j * 10+9,none⟩=some (.slice A9 els.len c9))) (by kernel_rfl) (⟨P8,P9⟩) (fun aH=>?_);refine tk2 0 rfl aH (h:=tk2 1 rfl aH (h:=tk2 2 rfl aH (h:=?_)));(try simp only[zz]);refine tk2 3 rfl aH (h:=tk2 4 rfl aH (h:=tk2 5 rfl aH (h:=?_)));(try simp only[zz]);refine tk2 7 rfl aH (h:=tk2 8 rfl aH (h:=tk2 9 rfl aH (h:=?_)));(try simp only[zz]);refine tk2 10 rfl aH (h:=tk2 11 rfl aH (h:=?_));refine rdc 6 rfl fun K hK=>?_;(try simp only[zz]);(go_simp;refine (IH.o body hbs.o A8 c8 lo hi g S2 (d - 1) _ ((gB.o.mk1 M2 hgS hgl1).bz bel) s3 s5.o hsb.o hgS l2 (k2.drew)).mono ?_;rintro e w8 ⟨rfl,k3,M3⟩;rw[←hS3.o] at k3;have M4:=(M2.trans (Mk.below_ (Below.refl _ _).drew)).trans M3;have Q8:=(World.cell?_of_block (a:=⟨bl,o+j * 10+8,none⟩) (M3.block bl (block_lt_of_cell P8) hbg)).trans P8;have Q9:=(World.cell?_of_block (a:=⟨bl,o+j * 10+9,none⟩) (M3.block bl (block_lt_of_cell P8) hbg)).trans P9;clear M3);refine hK.out _ _ (⟨Q8,Q9⟩) ?_;clear aH hK K;intro aH;refine rdc 12 rfl fun K hK=>?_;(try simp only[zz]);(go_simp;refine (IH.o els hes.o A9 c9 lo hi g S3 (d - 1) _ (gE.o.mk1 M4 hgS hgl1) s4 s6.o hse.o hgS l3 k3).mono ?_;rintro e w9 ⟨rfl,k4,M5⟩;rw[←hS4.o] at k4;have M6:=M4.trans M5;have R8:=(World.cell?_of_block (a:=⟨bl,o+j * 10+8,none⟩) (M5.block bl (block_lt_of_cell Q8) hbg)).trans Q8;have R9:=(World.cell?_of_block (a:=⟨bl,o+j * 10+9,none⟩) (M5.block bl (block_lt_of_cell Q8) hbg)).trans Q9;clear M5);refine hK.out _ _ (⟨R8,R9⟩) ?_;clear aH hK K;intro aH;(try simp only[zz]);refine tk2 13 rfl aH (h:=?_);(try simp only[zz]);refine dn1 ?_;clear P8 P9 Q8 Q9 R8 R9;(go_wp2_with fail)
     go_round
     case rel=>exact ⟨j+1,S4,by omega,by go_num,rfl,l4,HR',k4,hM.trans M6⟩
     case measure=>simp[intOf];omega
   ·(go_wp2_with fail);go_ret;obtain rfl:j=n:=by omega
    have e1:L.drop j=.nil:=by rw[hn.o];exact Cms.drop_all L
    have h2:=HR.o;rw[e1] at h2;exact ⟨rfl,by rw[h2];exact kS,hM⟩
end
end Go.Proofs.YtgdfdmjnadnlnaaGreat
